/- Regions: in the text's order, and in any order. -/
import Derived.Test.YtejjhgdnmknejaaEwO
namespace Go.EW
open Go

def direct (ops : Array Oper) (i : Nat) : List Nat :=
  match ops[i]? with
  | some o => (o.after.toList.filter (Region.binds .any)).map (·.on)
  | none => []

def passB (z e : EOp) : Bool := z.k.quiet && unrel z e && (e.k.quiet || e.uz.contains z.i)

def pairB (ops : Array Oper) (b : Array Nat) (z e : EOp) : Bool :=
  ((b.getD e.i 0).testBit z.i || passB z e) && !(direct ops z.i).contains e.i && z.i != e.i

def pairsB (ops : Array Oper) (b : Array Nat) : List EOp → Bool
  | [] => true
  | z :: r => r.all (pairB ops b z) && pairsB ops b r

def downB (ops : Array Oper) (b : Array Nat) : Bool :=
  (List.range ops.size).all fun i => (direct ops i).all (fun d => decide (d < ops.size)) && !(direct ops i).contains i &&
    (List.range ops.size).all fun z => !(b.getD i 0).testBit z || (direct ops i).any fun d => d == z || (b.getD d 0).testBit z

/-- Quiet ones as early as can be. -/
def topo (ops : Array Oper) (q : Nat → Bool) : Nat → List Nat → List Nat → List Nat
  | 0, _, _ => []
  | f + 1, rem, done =>
    let rdy := rem.filter fun i => (direct ops i).all fun d => done.contains d
    match (match rdy.find? q with | some i => some i | none => rdy.head?) with
    | some i => i :: topo ops q f (rem.filter (· != i)) (i :: done)
    | none => []

def isQ (P : Program) (nf : Bool) (ops : Array Oper) (i : Nat) : Bool :=
  match (ops[i]?).bind (cokA P nf ops) with
  | some (.q _) => true
  | _ => false

def mkAll (P : Program) (nf : Bool) (ops : Array Oper) (uz : Nat → List Nat → List Nat) : List Nat → List Nat → Option (List EOp)
  | _, [] => some []
  | done, i :: r => (mkE P nf ops i (uz i done)).bind fun e => (mkAll P nf ops uz (done ++ [i]) r).map (e :: ·)

def creg1 (P : Program) (nf : Bool) (ops : Array Oper) (draw : Bool) : Option (List EOp) :=
  if draw then
    let b := Region.before ops
    (mkAll P nf ops (fun i done => if isQ P nf ops i then [] else done.filter fun z => !(b.getD i 0).testBit z) [] (topo ops (isQ P nf ops) ops.size (List.range ops.size) [])).bind fun l =>
      if decide (l.length = ops.size) && l.all (fun e => decide (e.i < ops.size)) && pairsB ops b l && downB ops b then some l else none
  else mkAll P nf ops (fun _ _ => []) [] (List.range ops.size)

def creg (P : Program) (ops : Array Oper) (draw : Bool) : Option (List EOp) :=
  match creg1 P false ops draw with
  | some l => some l
  | none => creg1 P true ops draw

theorem mkAll_spec {P : Program} {nf : Bool} {ops : Array Oper} {uz : Nat → List Nat → List Nat} : ∀ {is done : List Nat} {l : List EOp}, mkAll P nf ops uz done is = some l → (∀ e ∈ l, Link P ops e) ∧ l.map (·.i) = is
  | [], done, l, h => by simp [mkAll] at h; subst h; simp
  | i :: r, done, l, h => by
    simp only [mkAll] at h
    replace h := bind_some' h; obtain ⟨e, he, h⟩ := h
    replace h := map_some' h; obtain ⟨l', hl', rfl⟩ := h
    obtain ⟨h1, h2, _⟩ := mkE_link he
    obtain ⟨q1, q2⟩ := mkAll_spec hl'
    refine ⟨?_, by simp [h2, q2]⟩
    intro e' he'
    rcases List.mem_cons.1 he' with rfl | he'
    · exact h1
    · exact q1 e' he'

section
variable {P : Program} {w0 : World} {m : Nat} {ρ0 : Nat → Value} {Φ0 : Nat → Prop} {ops : Array Oper} {Q : Exit → Act → World → Prop} {n : Nat} {K : List EV → (Nat → Option EO) → Prop}

theorem RR.mono {Us Us' : Nat → Prop} {T : List EV} {H : Nat → Option EO} {a : Act} {w : World} (h : ∀ o, Us o → Us' o) (hR : RR w0 m ρ0 Φ0 Us T H a w) : RR w0 m ρ0 Φ0 Us' T H a w :=
  let ⟨X, h1, h2, h3, h4, h5⟩ := hR
  ⟨X, h1, h2, h3, h4, fun o ho => h o (h5 o ho)⟩

/-- The places that are in use when just those in D are done. -/
def UsedD (n : Nat) (D : Nat → Prop) (o : Nat) : Prop := o < n ∨ ∃ i, D i ∧ n + 16 * i ≤ o ∧ o < n + 16 * i + 16

theorem usedD_free {D : Nat → Prop} {i : Nat} (h : ¬ D i) : ∀ o, n + 16 * i ≤ o → o < n + 16 * i + 16 → ¬ UsedD n D o := by
  rintro o h1 h2 (h3 | ⟨j, hj, h3, h4⟩)
  · omega
  · have : j = i := by omega
    exact h (this ▸ hj)

/-! ### in the text's order -/
theorem seq_sound (hm : m ≤ n) (hQ : ∀ T H a w, K T H → RR w0 m ρ0 Φ0 (fun o => o < n + 16 * ops.size) T H a w → Q .normal a w) :
    ∀ (l : List EOp) (lg : List (Nat × List Nat)) (i : Nat) (T : List EV) (H : Nat → Option EO) (a : Act) (w : World), (∀ e ∈ l, Link P ops e) → l.map (·.i) = List.range' i (ops.size - i) → i ≤ ops.size →
      chain P n l lg K T H → RR w0 m ρ0 Φ0 (fun o => o < n + 16 * i) T H a w → wpOps P ops Q (List.range' i (ops.size - i)) a w
  | [], lg, i, T, H, a, w, _, hi, hle, hc, hR => by
    have : ops.size - i = 0 := by
      have := congrArg List.length hi
      simp at this
      omega
    rw [this]
    simp only [List.range'_zero, wpOps]
    exact hQ T H a w hc (hR.mono (by intro o ho; omega))
  | e :: r, lg, i, T, H, a, w, hl, hi, hle, hc, hR => by
    obtain ⟨k, hk⟩ : ∃ k, ops.size - i = k + 1 := by
      have := congrArg List.length hi
      simp at this
      exact ⟨r.length, by omega⟩
    rw [hk, List.range'_succ] at hi ⊢
    simp only [List.map_cons, List.cons.injEq] at hi
    obtain ⟨rfl, hi⟩ := hi
    rw [wpOps_cons]
    have := op_sound (Q := Q) (hl e (List.mem_cons_self ..)) hR (by intro o h1 h2; omega) hm hc
    refine wpOp_mono ?_ this
    rintro a' w' ⟨T', H', hc', hR'⟩
    have hk' : k = ops.size - (e.i + 1) := by omega
    rw [hk'] at hi ⊢
    exact seq_sound hm hQ r _ (e.i + 1) T' H' a' w' (fun x hx => hl x (List.mem_cons_of_mem _ hx)) hi (by omega) hc' (hR'.mono (by intro o ho; rcases ho with h | h <;> omega))

/-! ### in any order -/
theorem reach_U {H : Nat → Option EO} {X : Cx} (r : Rel w0 m ρ0 Φ0 H X) {l : List Nat} (h : ∀ o ∈ l, X.U o) : ∀ o ∈ reach H l, X.U o := by
  have step : ∀ l : List Nat, (∀ o ∈ l, X.U o) → ∀ o ∈ stepR H l, X.U o := by
    intro l h o ho
    unfold stepR at ho
    rcases List.mem_append.1 ho with h' | h'
    · exact h o h'
    · obtain ⟨b, hb, hbo⟩ := List.mem_flatMap.1 h'
      unfold refsAt at hbo
      split at hbo
      · rename_i x hx
        exact refs_or (r.obj b x hx).2 o hbo
      · simp at hbo
  exact step _ (step _ (step _ h))

theorem e_refs_U {X : Cx} {T : List EV} {a : Act} (hall : All2 (VV X) T a.tmps.toList) (l : List Opd) : ∀ o ∈ l.flatMap (fun x => refsV (ev T x)), X.U o := by
  intro o ho
  obtain ⟨x, _, hxo⟩ := List.mem_flatMap.1 ho
  cases x with
  | t i =>
    have := VV_ev hall (.tmp i)
    exact refs_vv this o hxo
  | k v =>
    have := VV_cst X v
    exact refs_vv this o hxo

theorem pairs_pw {b : Array Nat} : ∀ {l : List EOp}, pairsB ops b l = true → l.Pairwise fun z e => pairB ops b z e = true
  | [], _ => List.Pairwise.nil
  | z :: r, h => by
    simp only [pairsB, Bool.and_eq_true] at h
    exact List.Pairwise.cons (fun e he => (List.all_eq_true.1 h.1) e he) (pairs_pw h.2)

theorem direct_mem {i d : Nat} (h : d ∈ direct ops i) : ∃ o e, ops[i]? = some o ∧ e ∈ o.after ∧ Region.binds .any e = true ∧ e.on = d := by
  unfold direct at h
  split at h
  · rename_i o ho
    obtain ⟨e, he, rfl⟩ := List.mem_map.1 h
    rw [List.mem_filter] at he
    exact ⟨o, e, ho, by simpa using he.1, he.2, rfl⟩
  · simp at h
theorem mem_direct {i : Nat} {o : Oper} {e : Edge} (ho : ops[i]? = some o) (he : e ∈ o.after) (hb : Region.binds .any e = true) : e.on ∈ direct ops i := by
  unfold direct
  rw [ho]
  exact List.mem_map.2 ⟨e, List.mem_filter.2 ⟨by simpa using he, hb⟩, rfl⟩

theorem any_sound (hm : m ≤ n) {b : Array Nat} (hdown : downB ops b = true) (hQ : ∀ T H a w, K T H → RR w0 m ρ0 Φ0 (fun o => o < n + 16 * ops.size) T H a w → Q .normal a w) :
    ∀ (fuel : Nat) (l : List EOp) (lg : List (Nat × List Nat)) (listed : Array Bool) (T : List EV) (H : Nat → Option EO) (a : Act) (w : World), l.length = fuel → (∀ e ∈ l, Link P ops e ∧ e.i < ops.size) → (l.Pairwise fun z e => pairB ops b z e = true) →
      listed.size = ops.size → (∀ j, j < ops.size → (listed.getD j true = true ↔ j ∉ l.map (·.i))) → (∀ j, j < ops.size → j ∉ l.map (·.i) → ∀ z, (b.getD j 0).testBit z = true → z < ops.size → z ∉ l.map (·.i)) →
      chain P n l lg K T H → RR w0 m ρ0 Φ0 (UsedD n fun i => i < ops.size ∧ i ∉ l.map (·.i)) T H a w → wpAny P .any ops Q fuel listed a w
  | 0, l, lg, listed, T, H, a, w, hlen, hl, hp, hls, hlist, hdn, hc, hR => by
    obtain rfl : l = [] := List.eq_nil_of_length_eq_zero hlen
    refine ⟨?_, hQ T H a w hc (hR.mono ?_)⟩
    · apply List.eq_nil_iff_forall_not_mem.2
      intro j hj
      obtain ⟨h1, o, ho, _⟩ := mem_ready.1 hj
      have hlt : j < ops.size := (Array.getElem?_eq_some_iff.1 ho).1
      have := (hlist j hlt).2 (by simp)
      rw [h1] at this
      simp at this
    · rintro o (h | ⟨i, ⟨hi, _⟩, h1, h2⟩)
      · omega
      · have : 16 * i + 16 ≤ 16 * ops.size := by omega
        omega
  | fuel + 1, l, lg, listed, T, H, a, w, hlen, hl, hp, hls, hlist, hdn, hc, hR => by
    have hdirect : ∀ i, i < ops.size → ∀ d ∈ direct ops i, d < ops.size ∧ d ≠ i := by
      intro i hi d hd
      unfold downB at hdown
      have := (List.all_eq_true.1 hdown) i (List.mem_range.2 hi)
      simp only [Bool.and_eq_true] at this
      refine ⟨of_decide_eq_true ((List.all_eq_true.1 this.1.1) d hd), ?_⟩
      rintro rfl
      have h2 := this.1.2
      simp at h2
      exact h2 hd
    have hclos : ∀ i, i < ops.size → ∀ z, z < ops.size → (b.getD i 0).testBit z = true → ∃ d ∈ direct ops i, d = z ∨ (b.getD d 0).testBit z = true := by
      intro i hi z hz hbz
      unfold downB at hdown
      have := (List.all_eq_true.1 hdown) i (List.mem_range.2 hi)
      simp only [Bool.and_eq_true] at this
      have h3 := (List.all_eq_true.1 this.2) z (List.mem_range.2 hz)
      rw [hbz] at h3
      simp only [Bool.not_true, Bool.false_or, List.any_eq_true, Bool.or_eq_true, beq_iff_eq] at h3
      exact h3
    refine ⟨?_, ?_⟩
    · intro hnil
      exfalso
      cases l with
      | nil => simp at hlen
      | cons e0 r =>
        obtain ⟨⟨o, ho, _⟩, hlt⟩ := hl e0 (List.mem_cons_self ..)
        have : e0.i ∈ Region.ready .any ops listed := by
          refine mem_ready.2 ⟨?_, o, ho, ?_⟩
          · have := (hlist e0.i hlt)
            cases hh : listed.getD e0.i true with
            | false => rfl
            | true => exact absurd (List.mem_map.2 ⟨e0, List.mem_cons_self .., rfl⟩) (this.1 hh)
          · intro ed hed hbd
            have hd := mem_direct ho hed hbd
            obtain ⟨hd1, hd2⟩ := hdirect e0.i hlt _ hd
            have hnot : ed.on ∉ (e0 :: r).map (·.i) := by
              intro hmem
              obtain ⟨e', he', hee⟩ := List.mem_map.1 hmem
              rcases List.mem_cons.1 he' with rfl | he'
              · exact hd2 hee.symm
              · have hpp := (List.pairwise_cons.1 hp).1 e' he'
                unfold pairB at hpp
                simp only [Bool.and_eq_true] at hpp
                have h2 := hpp.1.2
                rw [hee] at h2
                simp at h2
                exact h2 hd
            have := (hlist ed.on hd1).2 hnot
            rw [Array.getD_eq_getD_getElem?, Array.getElem?_eq_getElem (by omega)] at this ⊢
            simpa using this
        rw [hnil] at this
        simp at this
    · intro i hi
      obtain ⟨h1, o, ho, hrdy⟩ := mem_ready.1 hi
      have hlt : i < ops.size := (Array.getElem?_eq_some_iff.1 ho).1
      have hmem : i ∈ l.map (·.i) := by
        apply Classical.byContradiction
        intro hn
        have := (hlist i hlt).2 hn
        rw [h1] at this
        simp at this
      obtain ⟨e, he, rfl⟩ := List.mem_map.1 hmem
      obtain ⟨l1, l2, rfl⟩ := List.append_of_mem he
      have hdl : ∀ d ∈ direct ops e.i, d < ops.size ∧ d ∉ (l1 ++ e :: l2).map (·.i) := by
        intro d hd
        obtain ⟨o', ed, ho', hed, hbd, rfl⟩ := direct_mem hd
        obtain rfl := Option.some.inj (ho'.symm.trans ho)
        have hd1 := (hdirect e.i hlt _ hd).1
        refine ⟨hd1, (hlist _ hd1).1 ?_⟩
        have := hrdy ed hed hbd
        rw [Array.getD_eq_getD_getElem?, Array.getElem?_eq_getElem (by omega)] at this ⊢
        simpa using this
      have hpw := List.pairwise_append.1 hp
      have hnodup : ∀ z ∈ l1 ++ l2, z.i ≠ e.i := by
        intro z hz
        rcases List.mem_append.1 hz with hz | hz
        · have hpp := hpw.2.2 z hz e (List.mem_cons_self ..)
          unfold pairB at hpp
          simp only [Bool.and_eq_true, bne_iff_ne] at hpp
          exact hpp.2
        · have hpp := (List.pairwise_cons.1 hpw.2.1).1 z hz
          unfold pairB at hpp
          simp only [Bool.and_eq_true, bne_iff_ne] at hpp
          exact fun h => hpp.2 h.symm
      have hpass : Pass l1 e := by
        intro z hz
        have hpp := hpw.2.2 z hz e (List.mem_cons_self ..)
        unfold pairB at hpp
        simp only [Bool.and_eq_true, Bool.or_eq_true] at hpp
        have hzl := (hl z (List.mem_append_left _ hz)).2
        rcases hpp.1.1 with hb | hb
        · exfalso
          obtain ⟨d, hd, hdz⟩ := hclos e.i hlt z.i hzl hb
          obtain ⟨hd1, hd2⟩ := hdl d hd
          rcases hdz with rfl | hdz
          · exact hd2 (List.mem_map.2 ⟨z, List.mem_append_left _ hz, rfl⟩)
          · exact hdn d hd1 hd2 z.i hdz hzl (List.mem_map.2 ⟨z, List.mem_append_left _ hz, rfl⟩)
        · unfold passB at hb
          simp only [Bool.and_eq_true, Bool.or_eq_true] at hb
          exact ⟨hb.1.1, hnodup z (List.mem_append_left _ hz), hb.1.2, hb.2.imp id (by simp)⟩
      have hiff : ∀ j, (j ∉ (l1 ++ e :: l2).map (·.i)) ↔ (j ∉ (l1 ++ l2).map (·.i) ∧ j ≠ e.i) := by
        intro j
        simp only [List.map_append, List.map_cons, List.mem_append, List.mem_cons, not_or]
        exact ⟨fun ⟨a, b, c⟩ => ⟨⟨a, c⟩, b⟩, fun ⟨⟨a, c⟩, b⟩ => ⟨a, b, c⟩⟩
      have henot : e.i ∉ (l1 ++ l2).map (·.i) := by
        intro h
        obtain ⟨z, hz, hze⟩ := List.mem_map.1 h
        exact hnodup z hz hze
      have hfree : ∀ z ∈ l1 ++ e :: l2, ∀ o, n + 16 * z.i ≤ o → o < n + 16 * z.i + 16 → ¬ UsedD n (fun i => i < ops.size ∧ i ∉ (l1 ++ e :: l2).map (·.i)) o := by
        intro z hz
        exact usedD_free (fun h => h.2 (List.mem_map.2 ⟨z, hz, rfl⟩))
      have hfr : opT P n e lg (fun T' H' => chain P n (l1 ++ l2) ((e.i, e.k.looks T) :: lg) K T' H') T H := by
        obtain ⟨X, hX, r, hall, _, hU⟩ := hR
        refine front hpass ?_ ?_ hc
        · intro z hz hreach
          have := reach_U r (e_refs_U hall e.k.opds) _ hreach
          exact hfree z (List.mem_append_left _ hz) _ (Nat.le_refl _) (by omega) (hU _ this)
        · intro k hk
          cases hh : H (n + 16 * e.i + k) with
          | none => rfl
          | some x => exact absurd (hU _ (r.obj _ x hh).1) (hfree e he _ (by omega) (by omega))
      have hos := op_sound (Q := Q) (hl e he).1 hR (hfree e he) hm hfr
      refine wpOp_mono ?_ hos
      rintro a' w' ⟨T', H', hc', hR'⟩
      refine any_sound hm hdown hQ fuel (l1 ++ l2) _ _ T' H' a' w' ?_ ?_ ?_ ?_ ?_ ?_ hc' (hR'.mono ?_)
      · simp only [List.length_append, List.length_cons] at hlen ⊢; omega
      · intro z hz
        refine hl z ?_
        rcases List.mem_append.1 hz with hz | hz
        · exact List.mem_append_left _ hz
        · exact List.mem_append_right _ (List.mem_cons_of_mem _ hz)
      · exact hp.sublist (List.Sublist.append_left (List.sublist_cons_self e l2) l1)
      · simp [hls]
      · intro j hj
        by_cases hje : j = e.i
        · subst hje
          rw [Array.getD_eq_getD_getElem?, Array.getElem?_setIfInBounds_self_of_lt (by omega)]
          exact ⟨fun _ => henot, fun _ => rfl⟩
        · have h2 := hlist j hj
          rw [hiff] at h2
          rw [Array.getD_eq_getD_getElem?, Array.getElem?_setIfInBounds_ne (fun h => hje h.symm), ← Array.getD_eq_getD_getElem?, h2]
          exact ⟨fun h => h.1, fun h => ⟨h, hje⟩⟩
      · intro j hj hjn z hbz hz
        by_cases hje : j = e.i
        · subst hje
          obtain ⟨d, hd, hdz⟩ := hclos e.i hlt z hz hbz
          obtain ⟨hd1, hd2⟩ := hdl d hd
          rcases hdz with rfl | hdz
          · exact ((hiff d).1 hd2).1
          · exact ((hiff z).1 (hdn d hd1 hd2 z hdz hz)).1
        · exact ((hiff z).1 (hdn j hj ((hiff j).2 ⟨hjn, hje⟩) z hbz hz)).1
      · rintro o' (h | ⟨h2, h3⟩)
        · rcases h with h | ⟨i', ⟨hi1, hi2⟩, h2, h3⟩
          · exact .inl h
          · exact .inr ⟨i', ⟨hi1, ((hiff i').1 hi2).1⟩, h2, h3⟩
        · exact .inr ⟨e.i, ⟨hlt, henot⟩, h2, h3⟩

theorem nodup_le : ∀ (n : Nat) (l : List Nat), l.Nodup → (∀ x ∈ l, x < n) → l.length ≤ n
  | 0, l, _, h => by
    cases l with
    | nil => simp
    | cons x r => exact absurd (h x (List.mem_cons_self ..)) (by omega)
  | n + 1, l, hnd, h => by
    by_cases hn : n ∈ l
    · have h1 := nodup_le n (l.erase n) (hnd.erase n) (by
        intro x hx
        have h2 := h x (List.mem_of_mem_erase hx)
        have h3 : x ≠ n := by
          rintro rfl
          exact (List.Nodup.not_mem_erase hnd) hx
        omega)
      have h4 := List.length_erase_of_mem hn
      omega
    · have := nodup_le n l hnd (by
        intro x hx
        have h2 := h x hx
        have h3 : x ≠ n := by rintro rfl; exact hn hx
        omega)
      omega

/-- A REGION, in whatever order. -/
theorem region_sound1 {nf : Bool} {id : Nat} {draw : Bool} {l : List EOp} (hfol : draw = true → P.follows .mixedOrders = true) (hc : creg1 P nf ops draw = some l) (hm : m ≤ n) {T : List EV} {H : Nat → Option EO} {a : Act} {w : World}
    (hR : RR w0 m ρ0 Φ0 (fun o => o < n) T H a w) (h : chain P n l [] K T H) (hQ : ∀ T H a w, K T H → RR w0 m ρ0 Φ0 (fun o => o < n + 16 * ops.size) T H a w → Q .normal a w) :
    (Code.region id ops draw).wp P Q a w := by
  unfold creg1 at hc
  cases draw with
  | false =>
    simp only [Bool.false_eq_true, if_false] at hc
    obtain ⟨h1, h2⟩ := mkAll_spec hc
    refine wp_region ?_
    rw [List.range_eq_range']
    have := seq_sound (Q := Q) hm hQ l [] 0 T H a w h1 (by rw [h2, Nat.sub_zero, List.range_eq_range']) (Nat.zero_le _) h (hR.mono (by intro o ho; omega))
    simpa using this
  | true =>
    simp only [if_true] at hc
    replace hc := bind_some' hc; obtain ⟨l', hl', hc⟩ := hc
    split at hc
    · rename_i hchk
      obtain rfl := Option.some.inj hc
      simp only [Bool.and_eq_true, decide_eq_true_eq] at hchk
      obtain ⟨⟨⟨c1, c2⟩, c3⟩, c4⟩ := hchk
      obtain ⟨h1, h2⟩ := mkAll_spec hl'
      have hlt : ∀ e ∈ l', e.i < ops.size := fun e he => of_decide_eq_true ((List.all_eq_true.1 c2) e he)
      have hpw := pairs_pw c3
      have hnd : (l'.map (·.i)).Nodup := by
        rw [List.nodup_iff_pairwise_ne, List.pairwise_map]
        refine hpw.imp ?_
        intro z e hze
        unfold pairB at hze
        simp only [Bool.and_eq_true, bne_iff_ne] at hze
        exact hze.2
      have hall : ∀ j, j < ops.size → j ∈ l'.map (·.i) := by
        intro j hj
        apply Classical.byContradiction
        intro hn
        have hsub : (j :: l'.map (·.i)).Nodup := List.nodup_cons.2 ⟨hn, hnd⟩
        have hle := nodup_le ops.size _ hsub (by
          intro x hx
          rcases List.mem_cons.1 hx with rfl | hx
          · exact hj
          · obtain ⟨e, he, rfl⟩ := List.mem_map.1 hx
            exact hlt e he)
        simp at hle
        omega
      refine wp_region_any (hfol rfl) ?_
      refine any_sound (Q := Q) hm c4 hQ ops.size l' [] _ T H a { w with drawn := w.drawn + 1 } c1 (fun e he => ⟨h1 e he, hlt e he⟩) hpw (by simp) ?_ ?_ h ?_
      · intro j hj
        have : (Array.replicate ops.size false).getD j true = false := by simp [Array.getD_eq_getD_getElem?, hj]
        rw [this]
        simp only [Bool.false_eq_true, false_iff, Classical.not_not]
        exact hall j hj
      · intro j hj hjn
        exact absurd (hall j hj) hjn
      · obtain ⟨X, rfl, r, hal, hd, hU⟩ := hR
        obtain ⟨r', l'⟩ := r.later (w' := { X.w with drawn := X.w.drawn + 1 }) rfl rfl rfl (Nat.le_refl _) (fun _ _ => rfl)
        exact ⟨_, rfl, r', hal.mono fun _ _ => l'.vv, hd, fun o ho => .inl (hU o ho)⟩
    · simp at hc

/-- .. whichever way it was read. -/
theorem region_sound {id : Nat} {draw : Bool} {l : List EOp} (hfol : draw = true → P.follows .mixedOrders = true) (hc : creg P ops draw = some l) (hm : m ≤ n) {T : List EV} {H : Nat → Option EO} {a : Act} {w : World}
    (hR : RR w0 m ρ0 Φ0 (fun o => o < n) T H a w) (h : chain P n l [] K T H) (hQ : ∀ T H a w, K T H → RR w0 m ρ0 Φ0 (fun o => o < n + 16 * ops.size) T H a w → Q .normal a w) :
    (Code.region id ops draw).wp P Q a w := by
  unfold creg at hc
  split at hc
  · rename_i h1
    obtain rfl := Option.some.inj hc
    exact region_sound1 hfol h1 hm hR h hQ
  · exact region_sound1 hfol hc hm hR h hQ

end
end Go.EW
