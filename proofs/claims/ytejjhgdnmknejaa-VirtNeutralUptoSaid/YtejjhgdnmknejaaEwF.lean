/- Quiet E-operations, third part: new boxes and rows, places in arrays and slices, slicing, and the rest. -/
import Derived.Test.YtejjhgdnmknejaaEwE
namespace Go.EW
open Go

section
variable {P : Program} {o : Oper} {w0 : World} {m : Nat} {ρ0 : Nat → Value} {Φ0 : Nat → Prop} {H : Nat → Option EO} {X : Cx} {T : List EV} {a : Act} {id : Nat}

theorem heap_new (w : World) (ob : Obj) : (w.alloc ob).heap[w.heap.size]? = some ob := by
  show (w.heap.push ob)[w.heap.size]? = _
  simp
theorem heap_old (w : World) (ob : Obj) (b : Nat) (h : b < w.heap.size) : (w.alloc ob).heap[b]? = w.heap[b]? := by
  show (w.heap.push ob)[b]? = _
  rw [Array.getElem?_push, if_neg (by omega)]

/-- A box in a new block. -/
theorem Good.box {ty : TypeId} {cs : List EC} {vs : List Value} (r : Rel w0 m ρ0 Φ0 H X) (hid : ¬ X.U id) (hm : m ≤ id) (hall : All2 (VR X) cs vs)
    (h : (execOp a.eval o).run P X.w = .ok (.value (.pointer (some ⟨X.w.heap.size, 0, none⟩))) (X.w.alloc (.cells vs.toArray ty))) :
    Good P o a w0 m ρ0 Φ0 H X id (.v (.c (.ptr id 0))) (some (.box ty cs)) := by
  have hlater : Later X { U := fun o => X.U o ∨ o = id, ρ := upd X.ρ id (.pointer (some ⟨X.w.heap.size, 0, none⟩)), Φ := X.Φ, w := X.w.alloc (.cells vs.toArray ty) } :=
    ⟨fun _ h => .inl h, fun o' hu => upd_ne _ _ _ (fun e => hid (e ▸ hu)), fun _ h => h, fun b hb => heap_old _ _ _ (r.fro b hb)⟩
  obtain ⟨r', l'⟩ := r.new (w' := X.w.alloc (.cells vs.toArray ty)) rfl rfl rfl (by simp) (fun b hb => heap_old _ _ _ hb) id hid hm (.box ty cs) (.pointer (some ⟨X.w.heap.size, 0, none⟩))
    (by intro b hb'; simp [hb] at hb'; omega)
    ⟨X.w.heap.size, vs.toArray, rfl, heap_new _ _, by simpa using hall.mono fun _ _ => hlater.vr⟩
  refine ⟨_, _, h, r', l', ?_, ?_⟩
  · intro i; simp
  · exact ⟨.inr rfl, X.w.heap.size, by simp [upd_same], rfl⟩

theorem zer_some {t : TypeId} {z : List Value} (h : zer P t = some z) : ∃ i zv, P.info? t = some i ∧ i.zero = some zv ∧ zv.cells.toList = z ∧ ∀ v ∈ z, v.oneCell' = true := by
  unfold zer at h
  split at h
  · rename_i zv hz
    split at h
    · rename_i hall
      obtain rfl := Option.some.inj h
      obtain ⟨i, hi, hzi⟩ := bind_some' hz
      exact ⟨i, zv, hi, hzi, rfl, fun v hv => (List.all_eq_true.1 hall) v hv⟩
    · simp at h
  · simp at h

theorem All2_lits {vs : List Value} (h : ∀ v ∈ vs, v.oneCell' = true) : All2 (VR X) (vs.map litc) vs := by
  refine ⟨by simp, ?_⟩
  intro i x y hx hy
  rw [List.getElem?_map] at hx
  obtain ⟨z, hz, rfl⟩ := map_some' hx
  obtain rfl := Option.some.inj (hz.symm.trans hy)
  exact FR.lit _ (h z (List.mem_of_getElem? hz))

theorem g_alloc {t : TypeId} {z : List Value} (ho : o.op = .alloc t) (hz : zer P t = some z) (r : Rel w0 m ρ0 Φ0 H X) (hid : ¬ X.U id) (hm : m ≤ id) {v : EV} {ob : Option EO} (h : evQ (.alloc t z) T H id = some (v, ob)) : Good P o a w0 m ρ0 Φ0 H X id v ob := by
  simp only [evQ, Option.some.injEq, Prod.mk.injEq] at h
  obtain ⟨rfl, rfl⟩ := h
  obtain ⟨i, zv, hi, hzi, rfl, hone⟩ := zer_some hz
  refine .box r hid hm (All2_lits hone) ?_
  simp [execOp, ho, Instr.alloc, zeroValue, typeInfo, hi, hzi, newVar, newRow]

theorem g_box {t : TypeId} {x : Operand} (ho : o.op = .box t x) (r : Rel w0 m ρ0 Φ0 H X) (ha : All2 (VV X) T a.tmps.toList) (hid : ¬ X.U id) (hm : m ≤ id) {v : EV} {ob : Option EO} (h : evQ (.box t (opd x)) T H id = some (v, ob)) : Good P o a w0 m ρ0 Φ0 H X id v ob := by
  simp only [evQ] at h
  obtain ⟨cs, h1, h⟩ := map_some' h
  simp only [Prod.mk.injEq] at h
  obtain ⟨rfl, rfl⟩ := h
  refine .box r hid hm (VV_cells h1 (VV_ev ha x)) ?_
  simp [execOp, ho, Instr.box, newVar, newRow]

/-! build -/
theorem foldl_zip_aux (off : Nat) : ∀ (c : List Value) (j : Nat) (cells : List Value), off + j + c.length ≤ cells.length →
    ((c.zipIdx j).foldl (fun (cs : Array Value) (p : Value × Nat) => cs.setIfInBounds (off + p.2) p.1) cells.toArray) = (cells.take (off + j) ++ c ++ cells.drop (off + j + c.length)).toArray
  | [], j, cells, _ => by simp
  | v :: r, j, cells, hle => by
    simp only [List.zipIdx_cons, List.foldl_cons]
    have := foldl_zip_aux off r (j + 1) (cells.set (off + j) v) (by simp at hle ⊢; omega)
    simp only [List.setIfInBounds_toArray]
    rw [this]
    congr 1
    simp only [List.length_cons] at hle
    apply List.ext_getElem?
    intro i
    simp only [List.getElem?_append, List.length_append, List.length_take, List.length_set, List.getElem?_take, List.getElem?_drop, List.getElem?_set, List.length_cons, List.getElem?_cons]
    have e1 : min (off + (j + 1)) cells.length = off + j + 1 := by omega
    have e2 : min (off + j) cells.length = off + j := by omega
    rw [e1, e2]
    rcases Nat.lt_trichotomy i (off + j) with h | h | h
    · rw [if_pos (by omega), if_pos (by omega), if_pos (by omega), if_neg (by omega), if_pos (by omega), if_pos (by omega), if_pos (by omega)]
    · subst h
      rw [if_pos (by omega), if_pos (by omega), if_pos (by omega), if_pos rfl, if_pos (by omega), if_pos (by omega), if_neg (by omega), if_pos (by omega)]
    · by_cases h' : i < off + j + 1 + r.length
      · rw [if_pos (by omega), if_neg (by omega), if_pos (by omega), if_neg (by omega), if_neg (by omega)]
        congr 1
        try omega
      · rw [if_neg (by omega), if_neg (by omega), if_neg (by omega)]
        congr 1
        try omega

theorem array_foldl_list {α β : Type} (f : β → α → β) (b : β) (xs : Array α) : xs.foldl f b = xs.toList.foldl f b := by
  rw [Array.foldl_toList]

theorem fill_step (off n : Nat) (v : Value) (cells : List Value) (hl : v.cells.size = n) (hle : off + n ≤ cells.length) :
    v.cells.zipIdx.foldl (fun (cs : Array Value) (p : Value × Nat) => cs.setIfInBounds (off + p.2) p.1) cells.toArray = (cells.take off ++ v.cells.toList ++ cells.drop (off + n)).toArray := by
  rw [array_foldl_list]
  have := foldl_zip_aux off v.cells.toList 0 cells (by simp; omega)
  simp only [Array.toList_zipIdx]
  rw [this]
  simp [hl]

theorem putAt_some {cs : List EC} {off n : Nat} {x cs' : List EC} (h : putAt cs off n x = some cs') : x.length = n ∧ off + n ≤ cs.length ∧ cs' = cs.take off ++ x ++ cs.drop (off + n) := by
  unfold putAt at h
  split at h
  · rename_i hh; exact ⟨hh.1, hh.2, (Option.some.inj h).symm⟩
  · simp at h

theorem fill_parts (place : Nat → Option (Nat × Nat)) (ha : All2 (VV X) T a.tmps.toList) :
    ∀ (parts : List (Nat × Operand)) (ps : List (Nat × Nat × Opd)) (cs cs' : List EC) (us : List Value), placeAll place parts = some ps → putParts T cs ps = some cs' → All2 (VR X) cs us →
      ∃ us', Instr.fill place us.toArray (parts.map fun p => (p.1, a.eval p.2)) = some us'.toArray ∧ All2 (VR X) cs' us'
  | [], ps, cs, cs', us, hp, hq, hall => by
    simp [placeAll] at hp; subst hp
    simp [putParts] at hq; subst hq
    exact ⟨us, rfl, hall⟩
  | (i, x) :: rest, ps, cs, cs', us, hp, hq, hall => by
    simp only [placeAll] at hp
    obtain ⟨⟨off, n⟩, h1, hp⟩ := bind_some' hp
    obtain ⟨ps', h2, rfl⟩ := map_some' hp
    simp only [putParts] at hq
    obtain ⟨c, h3, hq⟩ := bind_some' hq
    obtain ⟨cs1, h4, hq⟩ := bind_some' hq
    obtain ⟨hl, hle, rfl⟩ := putAt_some h4
    have hc := VV_cells h3 (VV_ev ha x)
    have hsz : (a.eval x).cells.size = n := by rw [← hl, hc.1]; simp
    have hle' : off + n ≤ us.length := hall.1 ▸ hle
    have hall1 : All2 (VR X) (cs.take off ++ c ++ cs.drop (off + n)) (us.take off ++ (a.eval x).cells.toList ++ us.drop (off + n)) := ((hall.take off).append hc).append (hall.drop _)
    obtain ⟨us', hf, hr⟩ := fill_parts place ha rest ps' _ cs' _ h2 hq hall1
    refine ⟨us', ?_, hr⟩
    simp only [List.map_cons, Instr.fill, h1]
    rw [if_neg (by simp [hsz]; exact hle')]
    have := fill_step off n (a.eval x) us hsz hle'
    rw [this]
    exact hf

theorem structPlaces_run {w : World} : ∀ (fs : List Field) (pl : List (Nat × Nat)), structPlaces P fs = some pl → (fs.mapM (m := Sem) fun f => do pure (f.offset, ← sizeOf f.type)).run P w = .ok pl w
  | [], pl, h => by simp [structPlaces] at h; subst h; rfl
  | f :: r, pl, h => by
    simp only [structPlaces] at h
    obtain ⟨n, h1, h⟩ := bind_some' h
    obtain ⟨pl', h2, rfl⟩ := map_some' h
    have := structPlaces_run (w := w) r pl' h2
    simp only [List.mapM_cons, Sem.run_bind, run_sz h1, Result.andThen_ok, Sem.run_pure]
    rw [this]
    simp

theorem arr_mapM_list {α β : Type} (f : α → Sem β) (xs : Array α) (w : World) (ys : List β) (h : (xs.toList.mapM f).run P w = .ok ys w) : (xs.mapM f).run P w = .ok ys.toArray w := by
  rw [Array.mapM_eq_mapM_toList]
  simp [h]

theorem run_zeroValue {t : TypeId} {i : TypeInfo} {z : Value} (hi : P.info? t = some i) (hz : i.zero = some z) {w : World} : (zeroValue t).run P w = .ok z w := by
  simp [zeroValue, typeInfo, hi, hz]

theorem g_build {t : TypeId} {parts : Array (Nat × Operand)} {z : List Value} {ps : List (Nat × Nat × Opd)} (ho : o.op = .build t parts) (hz : zer P t = some z)
    (hp : (∃ fs pl, P.underlying t = some (.struct fs) ∧ structPlaces P fs.toList = some pl ∧ placeAll (fun (i : Nat) => pl[i]?) parts.toList = some ps) ∨ (∃ l e n, P.underlying t = some (.array l e) ∧ sz P e = some n ∧ placeAll (fun i => some (i * n, n)) parts.toList = some ps))
    (r : Rel w0 m ρ0 Φ0 H X) (ha : All2 (VV X) T a.tmps.toList) {v : EV} {ob : Option EO} (h : evQ (.build z ps) T H id = some (v, ob)) : Good P o a w0 m ρ0 Φ0 H X id v ob := by
  simp only [evQ] at h
  obtain ⟨cs, h1, h⟩ := map_some' h
  simp only [Prod.mk.injEq] at h
  obtain ⟨rfl, rfl⟩ := h
  obtain ⟨i, zv, hi, hzi, rfl, hone⟩ := zer_some hz
  rcases hp with ⟨fs, pl, hu, hpl, hpa⟩ | ⟨l, e, n, hu, hn, hpa⟩
  · obtain ⟨us', hf, hr⟩ := fill_parts (X := X) (fun (i : Nat) => pl[i]?) ha parts.toList ps _ cs _ hpa h1 (All2_lits hone)
    refine .pure r (val := .agg us'.toArray) ?_ ⟨us', rfl, hr⟩
    have hm := arr_mapM_list (P := P) _ fs X.w pl (structPlaces_run fs.toList pl hpl)
    simp only [execOp, ho, Instr.build, Sem.run_bind, run_zeroValue hi hzi, Result.andThen_ok, run_underlying hu, hm]
    have e1 : (parts.map fun (p : Nat × Operand) => (p.1, a.eval p.2)).toList = parts.toList.map fun p => (p.1, a.eval p.2) := by simp
    have e2 : (fun (x : Nat) => pl.toArray[x]?) = fun (i : Nat) => pl[i]? := by funext i; simp
    simp only [e1, e2]
    simp only [Array.toArray_toList] at hf
    rw [hf]
    simp
  · obtain ⟨us', hf, hr⟩ := fill_parts (X := X) (fun i => some (i * n, n)) ha parts.toList ps _ cs _ hpa h1 (All2_lits hone)
    refine .pure r (val := .agg us'.toArray) ?_ ⟨us', rfl, hr⟩
    simp only [execOp, ho, Instr.build, Sem.run_bind, run_zeroValue hi hzi, Result.andThen_ok, run_underlying hu, run_sz hn]
    have e1 : (parts.map fun (p : Nat × Operand) => (p.1, a.eval p.2)).toList = parts.toList.map fun p => (p.1, a.eval p.2) := by simp
    simp only [e1]
    simp only [Array.toArray_toList] at hf
    rw [hf]
    simp

end
end Go.EW
