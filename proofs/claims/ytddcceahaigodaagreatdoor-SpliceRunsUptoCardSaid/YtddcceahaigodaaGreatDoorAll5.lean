import Derived.Test.YtddcceahaigodaaGreatDoorAll4
import Derived.Deep.LoopGhost
namespace Go.EW
open Go
def direct (ops : Array Oper) (i : Nat) : List Nat :=
 match ops[i]? with
 | some o => (o.after.toList.filter (Region.binds .any)).map (·.on)
 | none => []
def passB (z e : EOp) : Bool := z.k.quiet && unrel z e && (e.k.quiet || e.uz.contains z.i || (entPass z e && !e.uz.contains z.i))
def pairB (ops : Array Oper) (b : Array Nat) (z e : EOp) : Bool :=
 ((b.getD e.i 0).testBit z.i || passB z e) && !(direct ops z.i).contains e.i && z.i != e.i
def pairsB (ops : Array Oper) (b : Array Nat) : List EOp → Bool
 | [] => true
 | z :: r => r.all (pairB ops b z) && pairsB ops b r
def downB (ops : Array Oper) (b : Array Nat) : Bool :=
 (List.range ops.size).all fun i => (direct ops i).all (fun d => decide (d < ops.size)) && !(direct ops i).contains i &&
  (List.range ops.size).all fun z => !(b.getD i 0).testBit z || (direct ops i).any fun d => d == z || (b.getD d 0).testBit z
def topo (ops : Array Oper) (q : Nat → Bool) : Nat → List Nat → List Nat → List Nat
 | 0, _, _ => []
 | f + 1, rem, done =>
  let rdy := rem.filter fun i => (direct ops i).all fun d => done.contains d
  match (match rdy.find? q with | some i => some i | none => rdy.head?) with
  | some i => i :: topo ops q f (rem.filter (· != i)) (i :: done)
  | none => []
def isQ (P : Program) (nf : Bool) (ops : Array Oper) (i : Nat) : Bool :=
 match (ops[i]?).bind (cokA P nf ops) with
 | some (.q _) => true
 | _ => false
def mkAll (P : Program) (nf : Bool) (ops : Array Oper) (uz : Nat → List Nat → List Nat) : List Nat → List Nat → Option (List EOp)
 | _, [] => some []
 | done, i :: r => (mkE P nf ops i (uz i done)).bind fun e => (mkAll P nf ops uz (done ++ [i]) r).map (e :: ·)
def isGet (P : Program) (nf : Bool) (ops : Array Oper) (i z : Nat) : Bool :=
 match (ops[i]?).bind (cokA P nf ops), (ops[z]?).bind (cokA P nf ops) with
 | some (.mp (.ent _ _) _), some (.q (.mget _ _ _ _)) => true
 | _, _ => false
def creg1 (P : Program) (nf : Bool) (ops : Array Oper) (draw : Bool) : Option (List EOp) :=
 if draw then
  let b := Region.before ops
  (mkAll P nf ops (fun i done => if isQ P nf ops i then [] else done.filter fun z => !(b.getD i 0).testBit z && !isGet P nf ops i z) [] (topo ops (isQ P nf ops) ops.size (List.range ops.size) [])).bind fun l =>
   if decide (l.length = ops.size) && l.all (fun e => decide (e.i < ops.size)) && pairsB ops b l && downB ops b then some l else none
 else mkAll P nf ops (fun _ _ => []) [] (List.range ops.size)
def creg (P : Program) (ops : Array Oper) (draw : Bool) : Option (List EOp) :=
 match creg1 P false ops draw with
 | some l => some l
 | none => creg1 P true ops draw
theorem mkAll_spec {P : Program} {nf : Bool} {ops : Array Oper} {uz : Nat → List Nat → List Nat} : ∀ {is done : List Nat} {l : List EOp}, mkAll P nf ops uz done is = some l → (∀ e ∈ l, Link P ops e) ∧ l.map (·.i) = is
 | [], done, l, h => by simp [mkAll] at h; subst h; simp
 | i :: r, done, l, h => by
  simp only [mkAll] at h
  replace h := bind_some' h; obtain ⟨e, he, h⟩ := h
  replace h := map_some' h; obtain ⟨l', hl', rfl⟩ := h
  obtain ⟨h1, h2, _⟩ := mkE_link he
  obtain ⟨q1, q2⟩ := mkAll_spec hl'
  refine ⟨?_, by simp [h2, q2]⟩
  intro e' he'
  rcases List.mem_cons.1 he' with rfl | he'
  ·exact h1
  ·exact q1 e' he'
section
variable {P : Program} {w0 : World} {m : Nat} {ρ0 : Base} {Φ0 : Nat → Prop} {ops : Array Oper} {Q : Exit → Act → World → Prop} {n : Nat} {K : List EV → (Nat → Option EO) → Prop}
theorem RR.mono {Us Us' : Nat → Prop} {T : List EV} {H : Nat → Option EO} {a : Act} {w : World} (h : ∀ o, Us o → Us' o) (hR : RR w0 m ρ0 Φ0 Us T H a w) : RR w0 m ρ0 Φ0 Us' T H a w :=
 let ⟨X, h1, h2, h3, h4, h5⟩ := hR
 ⟨X, h1, h2, h3, h4, fun o ho => h o (h5 o ho)⟩
def UsedD (n : Nat) (D : Nat → Prop) (o : Nat) : Prop := o < n ∨ ∃ i, D i ∧ n + 16 * i ≤ o ∧ o < n + 16 * i + 16
theorem usedD_free {D : Nat → Prop} {i : Nat} (h : ¬ D i) : ∀ o, n + 16 * i ≤ o → o < n + 16 * i + 16 → ¬ UsedD n D o := by
 rintro o h1 h2 (h3 | ⟨j, hj, h3, h4⟩)
 ·omega
 ·have : j = i := by omega
  exact h (this ▸ hj)
theorem seq_sound (hm : m ≤ n) (hQ : ∀ T H a w, K T H → RR w0 m ρ0 Φ0 (fun o => o < n + 16 * ops.size) T H a w → Q .normal a w) :
  ∀ (l : List EOp) (lg : List (Nat × List Nat)) (i : Nat) (T : List EV) (H : Nat → Option EO) (a : Act) (w : World), (∀ e ∈ l, Link P ops e) → l.map (·.i) = List.range' i (ops.size - i) → i ≤ ops.size →
   chain P n l lg K T H → RR w0 m ρ0 Φ0 (fun o => o < n + 16 * i) T H a w → wpOps P ops Q (List.range' i (ops.size - i)) a w
 | [], lg, i, T, H, a, w, _, hi, hle, hc, hR => by
  have : ops.size - i = 0 := by
   have := congrArg List.length hi
   simp at this
   omega
  rw [this]
  simp only [List.range'_zero, wpOps]
  exact hQ T H a w hc (hR.mono (by intro o ho; omega))
 | e :: r, lg, i, T, H, a, w, hl, hi, hle, hc, hR => by
  obtain ⟨k, hk⟩ : ∃ k, ops.size - i = k + 1 := by
   have := congrArg List.length hi
   simp at this
   exact ⟨r.length, by omega⟩
  rw [hk, List.range'_succ] at hi ⊢
  simp only [List.map_cons, List.cons.injEq] at hi
  obtain ⟨rfl, hi⟩ := hi
  rw [wpOps_cons]
  have := op_sound (Q := Q) (hl e (List.mem_cons_self ..)) hR (by intro o h1 h2; omega) hm hc
  refine wpOp_mono ?_ this
  rintro a' w' ⟨T', H', hc', hR'⟩
  have hk' : k = ops.size - (e.i + 1) := by omega
  rw [hk'] at hi ⊢
  exact seq_sound hm hQ r _ (e.i + 1) T' H' a' w' (fun x hx => hl x (List.mem_cons_of_mem _ hx)) hi (by omega) hc' (hR'.mono (by intro o ho; rcases ho with h | h <;> omega))
theorem reach_U {H : Nat → Option EO} {X : Cx} (r : Rel w0 m ρ0 Φ0 H X) {l : List Nat} (h : ∀ o ∈ l, X.U o) : ∀ o ∈ reach H l, X.U o := by
 have step : ∀ l : List Nat, (∀ o ∈ l, X.U o) → ∀ o ∈ stepR H l, X.U o := by
  intro l h o ho
  unfold stepR at ho
  rcases List.mem_append.1 ho with h' | h'
  ·exact h o h'
  ·obtain ⟨b, hb, hbo⟩ := List.mem_flatMap.1 h'
   unfold refsAt at hbo
   split at hbo
   ·rename_i x hx
    exact refs_or (r.obj b x hx).2 o hbo
   ·simp at hbo
 exact step _ (step _ (step _ h))
theorem e_refs_U {X : Cx} {T : List EV} {a : Act} (hall : All2 (VV X) T a.tmps.toList) (l : List Opd) : ∀ o ∈ l.flatMap (fun x => refsV (ev T x)), X.U o := by
 intro o ho
 obtain ⟨x, _, hxo⟩ := List.mem_flatMap.1 ho
 cases x with
 | t i =>
  have := VV_ev hall (.tmp i)
  exact refs_vv this o hxo
 | k v =>
  have := VV_cst X v
  exact refs_vv this o hxo
theorem pairs_pw {b : Array Nat} : ∀ {l : List EOp}, pairsB ops b l = true → l.Pairwise fun z e => pairB ops b z e = true
 | [], _ => List.Pairwise.nil
 | z :: r, h => by
  simp only [pairsB, Bool.and_eq_true] at h
  exact List.Pairwise.cons (fun e he => (List.all_eq_true.1 h.1) e he) (pairs_pw h.2)
theorem direct_mem {i d : Nat} (h : d ∈ direct ops i) : ∃ o e, ops[i]? = some o ∧ e ∈ o.after ∧ Region.binds .any e = true ∧ e.on = d := by
 unfold direct at h
 split at h
 ·rename_i o ho
  obtain ⟨e, he, rfl⟩ := List.mem_map.1 h
  rw [List.mem_filter] at he
  exact ⟨o, e, ho, by simpa using he.1, he.2, rfl⟩
 ·simp at h
theorem mem_direct {i : Nat} {o : Oper} {e : Edge} (ho : ops[i]? = some o) (he : e ∈ o.after) (hb : Region.binds .any e = true) : e.on ∈ direct ops i := by
 unfold direct
 rw [ho]
 exact List.mem_map.2 ⟨e, List.mem_filter.2 ⟨by simpa using he, hb⟩, rfl⟩
theorem any_sound (hm : m ≤ n) {b : Array Nat} (hdown : downB ops b = true) (hQ : ∀ T H a w, K T H → RR w0 m ρ0 Φ0 (fun o => o < n + 16 * ops.size) T H a w → Q .normal a w) :
  ∀ (fuel : Nat) (l : List EOp) (lg : List (Nat × List Nat)) (listed : Array Bool) (T : List EV) (H : Nat → Option EO) (a : Act) (w : World), l.length = fuel → (∀ e ∈ l, Link P ops e ∧ e.i < ops.size) → (l.Pairwise fun z e => pairB ops b z e = true) →
   listed.size = ops.size → (∀ j, j < ops.size → (listed.getD j true = true ↔ j ∉ l.map (·.i))) → (∀ j, j < ops.size → j ∉ l.map (·.i) → ∀ z, (b.getD j 0).testBit z = true → z < ops.size → z ∉ l.map (·.i)) →
   chain P n l lg K T H → RR w0 m ρ0 Φ0 (UsedD n fun i => i < ops.size ∧ i ∉ l.map (·.i)) T H a w → wpAny P .any ops Q fuel listed a w
 | 0, l, lg, listed, T, H, a, w, hlen, hl, hp, hls, hlist, hdn, hc, hR => by
  obtain rfl : l = [] := List.eq_nil_of_length_eq_zero hlen
  refine ⟨?_, hQ T H a w hc (hR.mono ?_)⟩
  ·apply List.eq_nil_iff_forall_not_mem.2
   intro j hj
   obtain ⟨h1, o, ho, _⟩ := mem_ready.1 hj
   have hlt : j < ops.size := (Array.getElem?_eq_some_iff.1 ho).1
   have := (hlist j hlt).2 (by simp)
   rw [h1] at this
   simp at this
  ·rintro o (h | ⟨i, ⟨hi, _⟩, h1, h2⟩)
   ·omega
   ·have : 16 * i + 16 ≤ 16 * ops.size := by omega
    omega
 | fuel + 1, l, lg, listed, T, H, a, w, hlen, hl, hp, hls, hlist, hdn, hc, hR => by
  have hdirect : ∀ i, i < ops.size → ∀ d ∈ direct ops i, d < ops.size ∧ d ≠ i := by
   intro i hi d hd
   unfold downB at hdown
   have := (List.all_eq_true.1 hdown) i (List.mem_range.2 hi)
   simp only [Bool.and_eq_true] at this
   refine ⟨of_decide_eq_true ((List.all_eq_true.1 this.1.1) d hd), ?_⟩
   rintro rfl
   have h2 := this.1.2
   simp at h2
   exact h2 hd
  have hclos : ∀ i, i < ops.size → ∀ z, z < ops.size → (b.getD i 0).testBit z = true → ∃ d ∈ direct ops i, d = z ∨ (b.getD d 0).testBit z = true := by
   intro i hi z hz hbz
   unfold downB at hdown
   have := (List.all_eq_true.1 hdown) i (List.mem_range.2 hi)
   simp only [Bool.and_eq_true] at this
   have h3 := (List.all_eq_true.1 this.2) z (List.mem_range.2 hz)
   rw [hbz] at h3
   simp only [Bool.not_true, Bool.false_or, List.any_eq_true, Bool.or_eq_true, beq_iff_eq] at h3
   exact h3
  refine ⟨?_, ?_⟩
  ·intro hnil
   exfalso
   cases l with
   | nil => simp at hlen
   | cons e0 r =>
    obtain ⟨⟨o, ho, _⟩, hlt⟩ := hl e0 (List.mem_cons_self ..)
    have : e0.i ∈ Region.ready .any ops listed := by
     refine mem_ready.2 ⟨?_, o, ho, ?_⟩
     ·have := (hlist e0.i hlt)
      cases hh : listed.getD e0.i true with
      | false => rfl
      | true => exact absurd (List.mem_map.2 ⟨e0, List.mem_cons_self .., rfl⟩) (this.1 hh)
     ·intro ed hed hbd
      have hd := mem_direct ho hed hbd
      obtain ⟨hd1, hd2⟩ := hdirect e0.i hlt _ hd
      have hnot : ed.on ∉ (e0 :: r).map (·.i) := by
       intro hmem
       obtain ⟨e', he', hee⟩ := List.mem_map.1 hmem
       rcases List.mem_cons.1 he' with rfl | he'
       ·exact hd2 hee.symm
       ·have hpp := (List.pairwise_cons.1 hp).1 e' he'
        unfold pairB at hpp
        simp only [Bool.and_eq_true] at hpp
        have h2 := hpp.1.2
        rw [hee] at h2
        simp at h2
        exact h2 hd
      have := (hlist ed.on hd1).2 hnot
      rw [Array.getD_eq_getD_getElem?, Array.getElem?_eq_getElem (by omega)] at this ⊢
      simpa using this
    rw [hnil] at this
    simp at this
  ·intro i hi
   obtain ⟨h1, o, ho, hrdy⟩ := mem_ready.1 hi
   have hlt : i < ops.size := (Array.getElem?_eq_some_iff.1 ho).1
   have hmem : i ∈ l.map (·.i) := by
    apply Classical.byContradiction
    intro hn
    have := (hlist i hlt).2 hn
    rw [h1] at this
    simp at this
   obtain ⟨e, he, rfl⟩ := List.mem_map.1 hmem
   obtain ⟨l1, l2, rfl⟩ := List.append_of_mem he
   have hdl : ∀ d ∈ direct ops e.i, d < ops.size ∧ d ∉ (l1 ++ e :: l2).map (·.i) := by
    intro d hd
    obtain ⟨o', ed, ho', hed, hbd, rfl⟩ := direct_mem hd
    obtain rfl := Option.some.inj (ho'.symm.trans ho)
    have hd1 := (hdirect e.i hlt _ hd).1
    refine ⟨hd1, (hlist _ hd1).1 ?_⟩
    have := hrdy ed hed hbd
    rw [Array.getD_eq_getD_getElem?, Array.getElem?_eq_getElem (by omega)] at this ⊢
    simpa using this
   have hpw := List.pairwise_append.1 hp
   have hnodup : ∀ z ∈ l1 ++ l2, z.i ≠ e.i := by
    intro z hz
    rcases List.mem_append.1 hz with hz | hz
    ·have hpp := hpw.2.2 z hz e (List.mem_cons_self ..)
     unfold pairB at hpp
     simp only [Bool.and_eq_true, bne_iff_ne] at hpp
     exact hpp.2
    ·have hpp := (List.pairwise_cons.1 hpw.2.1).1 z hz
     unfold pairB at hpp
     simp only [Bool.and_eq_true, bne_iff_ne] at hpp
     exact fun h => hpp.2 h.symm
   have hpass : Pass l1 e := by
    intro z hz
    have hpp := hpw.2.2 z hz e (List.mem_cons_self ..)
    unfold pairB at hpp
    simp only [Bool.and_eq_true, Bool.or_eq_true] at hpp
    have hzl := (hl z (List.mem_append_left _ hz)).2
    rcases hpp.1.1 with hb | hb
    ·exfalso
     obtain ⟨d, hd, hdz⟩ := hclos e.i hlt z.i hzl hb
     obtain ⟨hd1, hd2⟩ := hdl d hd
     rcases hdz with rfl | hdz
     ·exact hd2 (List.mem_map.2 ⟨z, List.mem_append_left _ hz, rfl⟩)
     ·exact hdn d hd1 hd2 z.i hdz hzl (List.mem_map.2 ⟨z, List.mem_append_left _ hz, rfl⟩)
    ·unfold passB at hb
     simp only [Bool.and_eq_true, Bool.or_eq_true] at hb
     refine ⟨hb.1.1, hnodup z (List.mem_append_left _ hz), hb.1.2, ?_⟩
     rcases hb.2 with (h | h) | h
     ·exact .inl (.inl h)
     ·exact .inl (.inr (by simpa using h))
     ·exact .inr ⟨h.1, by simpa using h.2⟩
   have hiff : ∀ j, (j ∉ (l1 ++ e :: l2).map (·.i)) ↔ (j ∉ (l1 ++ l2).map (·.i) ∧ j ≠ e.i) := by
    intro j
    simp only [List.map_append, List.map_cons, List.mem_append, List.mem_cons, not_or]
    exact ⟨fun ⟨a, b, c⟩ => ⟨⟨a, c⟩, b⟩, fun ⟨⟨a, c⟩, b⟩ => ⟨a, b, c⟩⟩
   have henot : e.i ∉ (l1 ++ l2).map (·.i) := by
    intro h
    obtain ⟨z, hz, hze⟩ := List.mem_map.1 h
    exact hnodup z hz hze
   have hfree : ∀ z ∈ l1 ++ e :: l2, ∀ o, n + 16 * z.i ≤ o → o < n + 16 * z.i + 16 → ¬ UsedD n (fun i => i < ops.size ∧ i ∉ (l1 ++ e :: l2).map (·.i)) o := by
    intro z hz
    exact usedD_free (fun h => h.2 (List.mem_map.2 ⟨z, hz, rfl⟩))
   have hfr : opT P n e lg (fun T' H' => chain P n (l1 ++ l2) ((e.i, e.k.looks T) :: lg) K T' H') T H := by
    obtain ⟨X, hX, r, hall, _, hU⟩ := hR
    refine front hpass ?_ ?_ hc
    ·intro z hz hreach
     have := reach_U r (e_refs_U hall e.k.opds) _ hreach
     exact hfree z (List.mem_append_left _ hz) _ (Nat.le_refl _) (by omega) (hU _ this)
    ·intro k hk
     cases hh : H (n + 16 * e.i + k) with
     | none => rfl
     | some x => exact absurd (hU _ (r.obj _ x hh).1) (hfree e he _ (by omega) (by omega))
   have hos := op_sound (Q := Q) (hl e he).1 hR (hfree e he) hm hfr
   refine wpOp_mono ?_ hos
   rintro a' w' ⟨T', H', hc', hR'⟩
   refine any_sound hm hdown hQ fuel (l1 ++ l2) _ _ T' H' a' w' ?_ ?_ ?_ ?_ ?_ ?_ hc' (hR'.mono ?_)
   ·simp only [List.length_append, List.length_cons] at hlen ⊢; omega
   ·intro z hz
    refine hl z ?_
    rcases List.mem_append.1 hz with hz | hz
    ·exact List.mem_append_left _ hz
    ·exact List.mem_append_right _ (List.mem_cons_of_mem _ hz)
   ·exact hp.sublist (List.Sublist.append_left (List.sublist_cons_self e l2) l1)
   ·simp [hls]
   ·intro j hj
    by_cases hje : j = e.i
    ·subst hje
     rw [Array.getD_eq_getD_getElem?, Array.getElem?_setIfInBounds_self_of_lt (by omega)]
     exact ⟨fun _ => henot, fun _ => rfl⟩
    ·have h2 := hlist j hj
     rw [hiff] at h2
     rw [Array.getD_eq_getD_getElem?, Array.getElem?_setIfInBounds_ne (fun h => hje h.symm), ← Array.getD_eq_getD_getElem?, h2]
     exact ⟨fun h => h.1, fun h => ⟨h, hje⟩⟩
   ·intro j hj hjn z hbz hz
    by_cases hje : j = e.i
    ·subst hje
     obtain ⟨d, hd, hdz⟩ := hclos e.i hlt z hz hbz
     obtain ⟨hd1, hd2⟩ := hdl d hd
     rcases hdz with rfl | hdz
     ·exact ((hiff d).1 hd2).1
     ·exact ((hiff z).1 (hdn d hd1 hd2 z hdz hz)).1
    ·exact ((hiff z).1 (hdn j hj ((hiff j).2 ⟨hjn, hje⟩) z hbz hz)).1
   ·rintro o' (h | ⟨h2, h3⟩)
    ·rcases h with h | ⟨i', ⟨hi1, hi2⟩, h2, h3⟩
     ·exact .inl h
     ·exact .inr ⟨i', ⟨hi1, ((hiff i').1 hi2).1⟩, h2, h3⟩
    ·exact .inr ⟨e.i, ⟨hlt, henot⟩, h2, h3⟩
theorem nodup_le : ∀ (n : Nat) (l : List Nat), l.Nodup → (∀ x ∈ l, x < n) → l.length ≤ n
 | 0, l, _, h => by
  cases l with
  | nil => simp
  | cons x r => exact absurd (h x (List.mem_cons_self ..)) (by omega)
 | n + 1, l, hnd, h => by
  by_cases hn : n ∈ l
  ·have h1 := nodup_le n (l.erase n) (hnd.erase n) (by
    intro x hx
    have h2 := h x (List.mem_of_mem_erase hx)
    have h3 : x ≠ n := by
     rintro rfl
     exact (List.Nodup.not_mem_erase hnd) hx
    omega)
   have h4 := List.length_erase_of_mem hn
   omega
  ·have := nodup_le n l hnd (by
    intro x hx
    have h2 := h x hx
    have h3 : x ≠ n := by rintro rfl; exact hn hx
    omega)
   omega
theorem region_sound1 {nf : Bool} {id : Nat} {draw : Bool} {l : List EOp} (hfol : draw = true → P.follows .mixedOrders = true) (hc : creg1 P nf ops draw = some l) (hm : m ≤ n) {T : List EV} {H : Nat → Option EO} {a : Act} {w : World}
  (hR : RR w0 m ρ0 Φ0 (fun o => o < n) T H a w) (h : chain P n l [] K T H) (hQ : ∀ T H a w, K T H → RR w0 m ρ0 Φ0 (fun o => o < n + 16 * ops.size) T H a w → Q .normal a w) :
  (Code.region id ops draw).wp P Q a w := by
 unfold creg1 at hc
 cases draw with
 | false =>
  simp only [Bool.false_eq_true, if_false] at hc
  obtain ⟨h1, h2⟩ := mkAll_spec hc
  refine wp_region ?_
  rw [List.range_eq_range']
  have := seq_sound (Q := Q) hm hQ l [] 0 T H a w h1 (by rw [h2, Nat.sub_zero, List.range_eq_range']) (Nat.zero_le _) h (hR.mono (by intro o ho; omega))
  simpa using this
 | true =>
  simp only [if_true] at hc
  replace hc := bind_some' hc; obtain ⟨l', hl', hc⟩ := hc
  split at hc
  ·rename_i hchk
   obtain rfl := Option.some.inj hc
   simp only [Bool.and_eq_true, decide_eq_true_eq] at hchk
   obtain ⟨⟨⟨c1, c2⟩, c3⟩, c4⟩ := hchk
   obtain ⟨h1, h2⟩ := mkAll_spec hl'
   have hlt : ∀ e ∈ l', e.i < ops.size := fun e he => of_decide_eq_true ((List.all_eq_true.1 c2) e he)
   have hpw := pairs_pw c3
   have hnd : (l'.map (·.i)).Nodup := by
    rw [List.nodup_iff_pairwise_ne, List.pairwise_map]
    refine hpw.imp ?_
    intro z e hze
    unfold pairB at hze
    simp only [Bool.and_eq_true, bne_iff_ne] at hze
    exact hze.2
   have hall : ∀ j, j < ops.size → j ∈ l'.map (·.i) := by
    intro j hj
    apply Classical.byContradiction
    intro hn
    have hsub : (j :: l'.map (·.i)).Nodup := List.nodup_cons.2 ⟨hn, hnd⟩
    have hle := nodup_le ops.size _ hsub (by
     intro x hx
     rcases List.mem_cons.1 hx with rfl | hx
     ·exact hj
     ·obtain ⟨e, he, rfl⟩ := List.mem_map.1 hx
      exact hlt e he)
    simp at hle
    omega
   refine wp_region_any (hfol rfl) ?_
   refine any_sound (Q := Q) hm c4 hQ ops.size l' [] _ T H a { w with drawn := w.drawn + 1 } c1 (fun e he => ⟨h1 e he, hlt e he⟩) hpw (by simp) ?_ ?_ h ?_
   ·intro j hj
    have : (Array.replicate ops.size false).getD j true = false := by simp [Array.getD_eq_getD_getElem?, hj]
    rw [this]
    simp only [Bool.false_eq_true, false_iff, Classical.not_not]
    exact hall j hj
   ·intro j hj hjn
    exact absurd (hall j hj) hjn
   ·obtain ⟨X, rfl, r, hal, hd, hU⟩ := hR
    obtain ⟨r', l'⟩ := r.later (w' := { X.w with drawn := X.w.drawn + 1 }) rfl rfl rfl (Nat.le_refl _) (fun _ _ => rfl)
    exact ⟨_, rfl, r', hal.mono fun _ _ => l'.vv, hd, fun o ho => .inl (hU o ho)⟩
  ·simp at hc
theorem region_sound {id : Nat} {draw : Bool} {l : List EOp} (hfol : draw = true → P.follows .mixedOrders = true) (hc : creg P ops draw = some l) (hm : m ≤ n) {T : List EV} {H : Nat → Option EO} {a : Act} {w : World}
  (hR : RR w0 m ρ0 Φ0 (fun o => o < n) T H a w) (h : chain P n l [] K T H) (hQ : ∀ T H a w, K T H → RR w0 m ρ0 Φ0 (fun o => o < n + 16 * ops.size) T H a w → Q .normal a w) :
  (Code.region id ops draw).wp P Q a w := by
 unfold creg at hc
 split at hc
 ·rename_i h1
  obtain rfl := Option.some.inj hc
  exact region_sound1 hfol h1 hm hR h hQ
 ·exact region_sound1 hfol hc hm hR h hQ
end
end Go.EW
namespace Go.EW
open Go
inductive EB where
 | skip
 | reg (l : List EOp) (n : Nat)
 | seq (a b : EB)
 | cond (c : Opd) (a b : EB)
 | block (id : Nat) (b : EB)
 | loop (b : EB)
 | exit (id : Nat)
 | ret
 | bot
 deriving Inhabited
def ccode (P : Program) : Code → Option EB
 | .skip => some .skip
 | .region _ ops d => if !d || P.follows .mixedOrders then match creg P ops d with
  | some l => some (.reg l ops.size)
  | none => some .bot
  else some .bot
 | .seq a b => (ccode P a).bind fun x => (ccode P b).map fun y => .seq x y
 | .cond c a b => (ccode P a).bind fun x => (ccode P b).map fun y => .cond (opd c) x y
 | .block id b => (ccode P b).map fun x => .block id x
 | .loop b => (ccode P b).map fun x => .loop x
 | .exit id => some (.exit id)
 | .ret => some .ret
 | _ => some .bot
def RS (m : Nat) (w0 : World) (ρ0 : Base) (Φ0 : Nat → Prop) (s : St) (a : Act) (w : World) : Prop := RR w0 m ρ0 Φ0 (fun o => o < s.n) s.T s.H a w ∧ m ≤ s.n
def Weak (m : Nat) (s s' : St) : Prop := ∀ w0 ρ0 Φ0 a w, RS m w0 ρ0 Φ0 s a w → RS m w0 ρ0 Φ0 s' a w
def ELoop (m : Nat) (B : (Exit → St → Prop) → St → Prop) (Q : Exit → St → Prop) (s : St) : Prop :=
 ∃ (I : Nat → St → Prop) (k0 : Nat) (s0 : St), Weak m s s0 ∧ I k0 s0 ∧ ∀ k s, I k s → B (fun e s' => match e with | .normal => ∃ k' s'', Weak m s' s'' ∧ k' < k ∧ I k' s'' | e => Q e s') s
def ew (P : Program) (m : Nat) : EB → (Exit → St → Prop) → St → Prop
 | .skip, Q, s => Q .normal s
 | .reg l n, Q, s => chain P s.n l [] (fun T H => Q .normal ⟨T, H, s.n + 16 * n⟩) s.T s.H
 | .seq a b, Q, s => ew P m a (fun e s' => match e with | .normal => ew P m b Q s' | e => Q e s') s
 | .cond c a b, Q, s => match asLit (ev s.T c) with
  | some (.bool t) => if t then ew P m a Q s else ew P m b Q s
  | _ => False
 | .block id b, Q, s => ew P m b (fun e s' => match e with | .exit i => if i = id then Q .normal s' else Q (.exit i) s' | e => Q e s') s
 | .loop b, Q, s => ELoop m (ew P m b) Q s
 | .exit id, Q, s => Q (.exit id) s
 | .ret, Q, s => Q .ret s
 | .bot, _, _ => False
theorem Weak.refl {m : Nat} (s : St) : Weak m s s := fun _ _ _ _ _ h => h
theorem Weak.trans {m : Nat} {s s' s'' : St} (h : Weak m s s') (k : Weak m s' s'') : Weak m s s'' := fun w0 ρ0 Φ0 a w r => k w0 ρ0 Φ0 a w (h w0 ρ0 Φ0 a w r)
section
variable {P : Program} {m : Nat} {w0 : World} {ρ0 : Base} {Φ0 : Nat → Prop}
theorem ew_sound : ∀ {c : Code} {b : EB}, ccode P c = some b → ∀ {Q : Exit → St → Prop} {s : St}, ew P m b Q s → ∀ {a : Act} {w : World}, RS m w0 ρ0 Φ0 s a w →
  c.wp P (fun e a' w' => ∃ s', Q e s' ∧ RS m w0 ρ0 Φ0 s' a' w') a w
 | .skip, b, hc, Q, s, h, a, w, hR => by
  obtain rfl := Option.some.inj hc
  exact wp_skip ⟨s, h, hR⟩
 | .region id ops d, b, hc, Q, s, h, a, w, hR => by
  simp only [ccode] at hc
  split at hc
  ·rename_i hd
   split at hc
   ·rename_i l hl
    obtain rfl := Option.some.inj hc
    simp only [ew] at h
    refine region_sound (n := s.n) (fun e => by subst e; simpa using hd) hl hR.2 hR.1 h ?_
    intro T H a w hQ hR'
    exact ⟨⟨T, H, s.n + 16 * ops.size⟩, hQ, hR', by show m ≤ s.n + 16 * ops.size; have := hR.2; omega⟩
   ·obtain rfl := Option.some.inj hc; exact h.elim
  ·obtain rfl := Option.some.inj hc; exact h.elim
 | .seq x y, b, hc, Q, s, h, a, w, hR => by
  simp only [ccode] at hc
  replace hc := bind_some' hc; obtain ⟨b1, h1, hc⟩ := hc
  replace hc := map_some' hc; obtain ⟨b2, h2, rfl⟩ := hc
  simp only [ew] at h
  refine wp_seq (wp_mono (ew_sound h1 h hR) ?_)
  rintro e a' w' ⟨s', hq, hR'⟩
  cases e with
  | normal => exact ew_sound h2 hq hR'
  | _ => exact ⟨s', hq, hR'⟩
 | .cond c x y, b, hc, Q, s, h, a, w, hR => by
  simp only [ccode] at hc
  replace hc := bind_some' hc; obtain ⟨b1, h1, hc⟩ := hc
  replace hc := map_some' hc; obtain ⟨b2, h2, rfl⟩ := hc
  simp only [ew] at h
  split at h
  ·rename_i t ht
   obtain ⟨X, _, _, hall, _⟩ := hR.1
   have hv := VV_lit ht (VV_ev hall c)
   refine wp_cond hv ?_
   cases t with
   | true => exact ew_sound h1 h hR
   | false => exact ew_sound h2 h hR
  ·exact h.elim
 | .block id x, b, hc, Q, s, h, a, w, hR => by
  simp only [ccode] at hc
  replace hc := map_some' hc; obtain ⟨b1, h1, rfl⟩ := hc
  simp only [ew] at h
  refine wp_block (wp_mono (ew_sound h1 h hR) ?_)
  rintro e a' w' ⟨s', hq, hR'⟩
  cases e with
  | exit i =>
   simp only [Exit.inBlock]
   simp only at hq
   split
   ·rename_i hi; rw [if_pos hi] at hq; exact ⟨s', hq, hR'⟩
   ·rename_i hi; rw [if_neg hi] at hq; exact ⟨s', hq, hR'⟩
  | _ => exact ⟨s', hq, hR'⟩
 | .loop x, b, hc, Q, s, h, a, w, hR => by
  simp only [ccode] at hc
  replace hc := map_some' hc; obtain ⟨b1, h1, rfl⟩ := hc
  simp only [ew] at h
  obtain ⟨I, k0, s0, hw, hI, hround⟩ := h
  refine wp_loop_ghost (fun k a w => ∃ s, I k s ∧ RS m w0 ρ0 Φ0 s a w) k0 ⟨s0, hI, hw _ _ _ _ _ hR⟩ ?_
  rintro k a' w' ⟨s1, hI1, hR1⟩
  refine wp_mono (ew_sound h1 (hround k s1 hI1) hR1) ?_
  rintro e a'' w'' ⟨s', hq, hR'⟩
  cases e with
  | normal =>
   obtain ⟨k', s'', hw', hlt, hI'⟩ := hq
   exact ⟨k', hlt, s'', hI', hw' _ _ _ _ _ hR'⟩
  | _ => exact ⟨s', hq, hR'⟩
 | .exit id, b, hc, Q, s, h, a, w, hR => by
  obtain rfl := Option.some.inj hc
  exact wp_exit ⟨s, h, hR⟩
 | .ret, b, hc, Q, s, h, a, w, hR => by
  obtain rfl := Option.some.inj hc
  exact wp_ret ⟨s, h, hR⟩
 | .rangeFunc _ _ _ _, b, hc, Q, s, h, a, w, hR => by obtain rfl := Option.some.inj hc; exact h.elim
 | .scope _, b, hc, Q, s, h, a, w, hR => by obtain rfl := Option.some.inj hc; exact h.elim
 | .label _, b, hc, Q, s, h, a, w, hR => by obtain rfl := Option.some.inj hc; exact h.elim
 | .goto _, b, hc, Q, s, h, a, w, hR => by obtain rfl := Option.some.inj hc; exact h.elim
 | .refuse _, b, hc, Q, s, h, a, w, hR => by obtain rfl := Option.some.inj hc; exact h.elim
def cres (P : Program) : ResultVar → Option QOp
 | .tmp t => some (.mov (.t t))
 | .cell p t => (agg? P t).bind fun g => if g then (sz P t).map fun n => .lda n (.t p) else some (.ldc (.t p))
def cress (P : Program) : List ResultVar → Option (List QOp)
 | [] => some []
 | r :: l => (cres P r).bind fun q => (cress P l).map (q :: ·)
def evT (q : QOp) (T : List EV) (H : Nat → Option EO) : Option EV := (evQ q T H 0).map (·.1)
def resT (T : List EV) (H : Nat → Option EO) : List QOp → Option (List TV)
 | [] => some []
 | q :: l => (evT q T H).bind fun v => (asT v).bind fun t => (resT T H l).map (t :: ·)
def resV (T : List EV) (H : Nat → Option EO) : List QOp → Option EV
 | [q] => evT q T H
 | l => (resT T H l).map .tup
def resSem (tmps : Array Value) : ResultVar → Sem Value
 | .tmp t => pure (tmps.getD t undef)
 | .cell a t => do loadVar t (← asAddr (tmps.getD a undef))
theorem results_eq (fn : Func) (tmps : Array Value) : results fn tmps = (do
  let vs ← fn.results.mapM (resSem tmps)
  pure (if h : vs.size = 1 then vs[0] else .tuple vs)) := by
 unfold results
 congr 2
theorem results_run {fn : Func} {tmps : Array Value} {vs : List Value} {w : World} (h : (fn.results.toList.mapM (resSem tmps)).run P w = .ok vs w) :
  (results fn tmps).run P w = .ok (match vs with | [v] => v | vs => .tuple vs.toArray) w := by
 rw [results_eq]
 have := arr_mapM_list (P := P) _ fn.results w vs h
 simp only [Sem.run_bind]
 rw [this]
 simp only [Result.andThen_ok, Sem.run_pure]
 congr 1
 cases vs with
 | nil => rfl
 | cons a r =>
  cases r with
  | nil => rfl
  | cons b r' =>
   rw [dif_neg (by simp)]
theorem res_one {X : Cx} {H : Nat → Option EO} {T : List EV} {a : Act} (r : Rel w0 m ρ0 Φ0 H X) (hall : All2 (VV X) T a.tmps.toList) {rv : ResultVar} {q : QOp} (hq : cres P rv = some q) {v : EV} (hv : evT q T H = some v) :
  ∃ u, (resSem a.tmps rv).run P X.w = .ok u X.w ∧ VV X v u := by
 cases rv with
 | tmp t =>
  obtain rfl := Option.some.inj hq
  simp only [evT, evQ, Option.map_some, Option.some.injEq] at hv
  subst hv
  exact ⟨_, rfl, VV_ev hall (.tmp t)⟩
 | cell p t =>
  simp only [cres] at hq
  replace hq := bind_some' hq; obtain ⟨g, hg, hq⟩ := hq
  have hvp := VV_ev hall (.tmp p)
  split at hq
  ·rename_i hg1
   rw [hg1] at hg
   replace hq := map_some' hq; obtain ⟨n, hn, rfl⟩ := hq
   unfold evT at hv
   replace hv := map_some' hv; obtain ⟨⟨v', ob⟩, hev, rfl⟩ := hv
   simp only [evQ] at hev
   replace hev := bind_some' hev; obtain ⟨pc, h1, hev⟩ := hev
   replace hev := bind_some' hev; obtain ⟨cs, h2, hev⟩ := hev
   split at hev
   ·rename_i hle
    simp only [Option.some.injEq, Prod.mk.injEq] at hev
    obtain ⟨rfl, rfl⟩ := hev
    obtain ⟨b, off, hp, hcs⟩ := cellsAtN_spec r (VV_c (e := ev T (.t p)) h1 hvp) h2
    obtain ⟨us, hal, hcell⟩ := cells_list (X := X) (cs.take n) (w := X.w) (b := b) (off := off) (fun j c hc => by
     rw [List.getElem?_take] at hc
     split at hc
     ·exact hcs j c hc
     ·simp at hc)
    have hlen : us.length = n := by rw [← hal.1]; simp; omega
    refine ⟨.agg us.toArray, ?_, us, rfl, hal⟩
    have hp' : a.tmps.getD p undef = .pointer (some ⟨b, off, none⟩) := hp
    simp [resSem, hp', asAddr, run_loadVar_agg hg hn hlen hcell]
   ·simp at hev
  ·rename_i hg1
   rw [Bool.eq_false_iff.2 hg1] at hg
   obtain rfl := Option.some.inj hq
   unfold evT at hv
   replace hv := map_some' hv; obtain ⟨⟨v', ob⟩, hev, rfl⟩ := hv
   simp only [evQ] at hev
   replace hev := bind_some' hev; obtain ⟨pc, h1, hev⟩ := hev
   replace hev := bind_some' hev; obtain ⟨cs, h2, hev⟩ := hev
   replace hev := map_some' hev; obtain ⟨c, h3, hev⟩ := hev
   simp only [Prod.mk.injEq] at hev
   obtain ⟨rfl, rfl⟩ := hev
   obtain ⟨b, off, hp, hcs⟩ := cellsAt_spec r (VV_c (e := ev T (.t p)) h1 hvp) h2
   obtain ⟨u, hu, hr⟩ := hcs 0 c h3
   rw [Nat.add_zero] at hu
   refine ⟨u, ?_, hr⟩
   have hp' : a.tmps.getD p undef = .pointer (some ⟨b, off, none⟩) := hp
   simp [resSem, hp', asAddr, run_loadVar_one hg hu]
theorem res_many {X : Cx} {H : Nat → Option EO} {T : List EV} {a : Act} (r : Rel w0 m ρ0 Φ0 H X) (hall : All2 (VV X) T a.tmps.toList) : ∀ {rvs : List ResultVar} {qs : List QOp} (_ : cress P rvs = some qs) {ts : List TV} (_ : resT T H qs = some ts),
  ∃ us : List Value, (rvs.mapM (resSem a.tmps)).run P X.w = .ok us X.w ∧ All2 (VT X) ts us
 | [], qs, hq, ts, ht => by
  simp [cress] at hq; subst hq
  simp [resT] at ht; subst ht
  exact ⟨[], rfl, All2.nil⟩
 | rv :: rest, qs, hq, ts, ht => by
  simp only [cress] at hq
  replace hq := bind_some' hq; obtain ⟨q, h1, hq⟩ := hq
  replace hq := map_some' hq; obtain ⟨qs', h2, rfl⟩ := hq
  simp only [resT] at ht
  replace ht := bind_some' ht; obtain ⟨v, h3, ht⟩ := ht
  replace ht := bind_some' ht; obtain ⟨t, h4, ht⟩ := ht
  replace ht := map_some' ht; obtain ⟨ts', h5, rfl⟩ := ht
  obtain ⟨u, hu, hv⟩ := res_one r hall h1 h3
  obtain ⟨us, hus, hal⟩ := res_many r hall h2 h5
  have hvt : VT X t u := by
   unfold asT at h4
   split at h4
   ·obtain rfl := Option.some.inj h4; exact hv
   ·simp at h4
  refine ⟨u :: us, ?_, All2.cons hvt hal⟩
  simp only [List.mapM_cons, Sem.run_bind, hu, Result.andThen_ok]
  rw [hus]
  simp
theorem resV_run {X : Cx} {H : Nat → Option EO} {T : List EV} {a : Act} (r : Rel w0 m ρ0 Φ0 H X) (hall : All2 (VV X) T a.tmps.toList) {fn : Func} {qs : List QOp} (hq : cress P fn.results.toList = some qs) {v : EV} (hv : resV T H qs = some v) :
  ∃ u, (results fn a.tmps).run P X.w = .ok u X.w ∧ VV X v u := by
 unfold resV at hv
 split at hv
 ·rename_i q
  obtain ⟨rv, hrv, hq1⟩ : ∃ rv, fn.results.toList = [rv] ∧ cres P rv = some q := by
   cases hl : fn.results.toList with
   | nil => rw [hl] at hq; simp [cress] at hq
   | cons rv rest =>
    rw [hl] at hq
    simp only [cress] at hq
    replace hq := bind_some' hq; obtain ⟨q', h1, hq⟩ := hq
    replace hq := map_some' hq; obtain ⟨qs', h2, hq⟩ := hq
    simp only [List.cons.injEq] at hq
    obtain ⟨rfl, rfl⟩ := hq
    cases rest with
    | nil => exact ⟨rv, rfl, h1⟩
    | cons rv' rest' =>
     simp only [cress] at h2
     replace h2 := bind_some' h2; obtain ⟨_, _, h2⟩ := h2
     replace h2 := map_some' h2; obtain ⟨_, _, h2⟩ := h2
     simp at h2
  obtain ⟨u, hu, hvv⟩ := res_one r hall hq1 hv
  refine ⟨u, ?_, hvv⟩
  have := results_run (P := P) (fn := fn) (tmps := a.tmps) (vs := [u]) (w := X.w) (by
   rw [hrv]
   simp only [List.mapM_cons, List.mapM_nil, Sem.run_bind, hu, Result.andThen_ok, Sem.run_pure])
  exact this
 ·rename_i l hl
  replace hv := map_some' hv; obtain ⟨ts, hts, rfl⟩ := hv
  obtain ⟨us, hus, hal⟩ := res_many r hall hq hts
  have := results_run (P := P) (fn := fn) (tmps := a.tmps) (vs := us) (w := X.w) hus
  refine ⟨.tuple us.toArray, ?_, us, rfl, hal⟩
  rw [this]
  split
  ·rename_i v
   exfalso
   have h1 := hal.1
   obtain ⟨t, rfl⟩ : ∃ t, ts = [t] := by
    cases ts with
    | nil => simp at h1
    | cons t r => cases r with
     | nil => exact ⟨t, rfl⟩
     | cons _ _ => simp at h1
   cases qs with
   | nil => simp [resT] at hts
   | cons q r =>
    cases r with
    | nil => exact hl q rfl
    | cons q' r' =>
     simp only [resT] at hts
     replace hts := bind_some' hts; obtain ⟨_, _, hts⟩ := hts
     replace hts := bind_some' hts; obtain ⟨_, _, hts⟩ := hts
     replace hts := map_some' hts; obtain ⟨_, h2, hts⟩ := hts
     replace h2 := bind_some' h2; obtain ⟨_, _, h2⟩ := h2
     replace h2 := bind_some' h2; obtain ⟨_, _, h2⟩ := h2
     replace h2 := map_some' h2; obtain ⟨_, _, h2⟩ := h2
     subst h2
     simp at hts
  ·rfl
def conT (H : Nat → Option EO) (ids : List Nat) : TV → Option TV
 | .c x => (conC H ids x).map .c
 | .agg cs => (conAll H ids cs).map .agg
def conTs (H : Nat → Option EO) (ids : List Nat) : List TV → Option (List TV)
 | [] => some []
 | x :: r => (conT H ids x).bind fun y => (conTs H ids r).map (y :: ·)
def conR (H : Nat → Option EO) (ids : List Nat) : EV → Option EV
 | .v t => (conT H ids t).map .v
 | .tup ts => (conTs H ids ts).map .tup
 | .any => some .any
def objsOut (H : Nat → Option EO) (ids : List Nat) : List Nat → Option (List (Option EO))
 | [] => some []
 | o :: r => match H o with
  | none => (objsOut H ids r).map (none :: ·)
  | some x => (strO ids x).bind fun y => (objsOut H ids r).map (some y :: ·)
def Fin (m : Nat) (qs : List QOp) (post : EV → List (Option EO) → Prop) (s : St) : Prop :=
 ∃ (more : List Nat) (v y : EV) (H' : List (Option EO)), (List.range m ++ more).Nodup ∧ resV s.T s.H qs = some v ∧ conR s.H (List.range m ++ more) v = some y ∧ objsOut s.H (List.range m ++ more) (List.range m ++ more) = some H' ∧ post y H'
theorem conTs_spec {X : Cx} {H : Nat → Option EO} {ids : List Nat} (r : Rel w0 m ρ0 Φ0 H X) {C : Cx} (h : Into X C ids) (hfz : ∀ o y b, o ∉ ids → H o = some y → hb (X.ρ o) = some b → C.Φ b) : ∀ {ts ts' : List TV} {vs : List Value}, conTs H ids ts = some ts' → All2 (VT X) ts vs → All2 (VT C) ts' vs
 | [], ts', vs, hc, ha => by
  simp [conTs] at hc; subst hc
  obtain rfl := ha.nil_left
  exact All2.nil
 | t :: rest, ts', vs, hc, ha => by
  obtain ⟨u, us, rfl, h1, h2⟩ := ha.cons_left
  simp only [conTs] at hc
  replace hc := bind_some' hc; obtain ⟨y, hy, hc⟩ := hc
  replace hc := map_some' hc; obtain ⟨ys, hys, rfl⟩ := hc
  refine All2.cons ?_ (conTs_spec r h hfz hys h2)
  have key : ∀ c, ∀ o ∈ fzC ids c, o ∉ ids := fun c o ho => fz_notin (x := .v (.c c)) ho
  cases t with
  | c x =>
   replace hy := map_some' hy; obtain ⟨x', hx, rfl⟩ := hy
   exact conC_spec r h hx (fun o ho y b h1 h2 => hfz o y b (key x o ho) h1 h2) h1
  | agg cs =>
   replace hy := map_some' hy; obtain ⟨cs', hcs, rfl⟩ := hy
   obtain ⟨vs, hv, hal⟩ := h1
   refine ⟨vs, hv, conAll_spec r h hcs (fun o ho y b h1 h2 => ?_) hal⟩
   obtain ⟨c, _, hc⟩ := List.mem_flatMap.1 ho
   exact hfz o y b (key c o hc) h1 h2
theorem conR_spec {X : Cx} {H : Nat → Option EO} {ids : List Nat} (r : Rel w0 m ρ0 Φ0 H X) {C : Cx} (h : Into X C ids) (hfz : ∀ o y b, o ∉ ids → H o = some y → hb (X.ρ o) = some b → C.Φ b) {v y : EV} {u : Value} (hc : conR H ids v = some y) (hv : VV X v u) : VV C y u := by
 cases v with
 | v t =>
  replace hc := map_some' hc; obtain ⟨t', ht, rfl⟩ := hc
  have := conTs_spec r h hfz (ts := [t]) (ts' := [t']) (by simp [conTs, ht]) (All2.cons hv All2.nil)
  exact this.head
 | tup ts =>
  replace hc := map_some' hc; obtain ⟨ts', ht, rfl⟩ := hc
  obtain ⟨vs, hv, hal⟩ := hv
  exact ⟨vs, hv, conTs_spec r h hfz ht hal⟩
 | any => simp [conR] at hc; subst hc; trivial
theorem objsOut_spec {H : Nat → Option EO} {ids : List Nat} : ∀ {l : List Nat} {H' : List (Option EO)}, objsOut H ids l = some H' → H'.length = l.length ∧ ∀ (j : Nat) (y : EO), H'[j]? = some (some y) → ∃ o x, l[j]? = some o ∧ H o = some x ∧ strO ids x = some y
 | [], H', h => by simp [objsOut] at h; subst h; simp
 | o :: r, H', h => by
  simp only [objsOut] at h
  split at h
  ·replace h := map_some' h; obtain ⟨H1, h1, rfl⟩ := h
   obtain ⟨q1, q2⟩ := objsOut_spec h1
   refine ⟨by simp [q1], ?_⟩
   intro j y hj
   cases j with
   | zero => simp at hj
   | succ j => simpa using q2 j y (by simpa using hj)
  ·rename_i x hx
   replace h := bind_some' h; obtain ⟨y', hy', h⟩ := h
   replace h := map_some' h; obtain ⟨H1, h1, rfl⟩ := h
   obtain ⟨q1, q2⟩ := objsOut_spec h1
   refine ⟨by simp [q1], ?_⟩
   intro j y hj
   cases j with
   | zero => simp at hj; subst hj; exact ⟨o, x, rfl, hx, hy'⟩
   | succ j => simpa using q2 j y (by simpa using hj)
theorem ecalls_of {f : FuncId} {fn : Func} {c : Code} {b : EB} {qs : List QOp} {args : List EV} {H : List EO} {post : EV → List (Option EO) → Prop}
  (hf : P.funcs[f]? = some fn) (hbody : fn.body = some c) (hc : ccode P c = some b) (hq : cress P fn.results.toList = some qs)
  (h : ew P H.length b (fun e s => (e = .normal ∨ e = .ret) ∧ ∃ s', Weak H.length s s' ∧ Fin H.length qs post s') ⟨args ++ List.replicate (fn.ntmps - args.length) (.tup []), ofL H, H.length⟩) :
  ECalls P f args H post := by
 intro ρ Φ w vals hR hargs
 have hlen : vals.toArray.size = args.length := by simp [hargs.1]
 refine calls_of_wp hf hbody ?_
 have hstart : RS H.length w ⟨ρ, feet (ofL H) ρ⟩ Φ ⟨args ++ List.replicate (fn.ntmps - args.length) (.tup []), ofL H, H.length⟩ { tmps := vals.toArray ++ Array.replicate (fn.ntmps - vals.toArray.size) undef, defers := [] } w := by
  refine ⟨⟨_, rfl, hR, ?_, rfl, fun o ho => ho⟩, Nat.le_refl _⟩
  have : (vals.toArray ++ Array.replicate (fn.ntmps - vals.toArray.size) undef).toList = vals ++ List.replicate (fn.ntmps - args.length) undef := by simp [hargs.1]
  rw [this]
  refine hargs.append ⟨by simp, ?_⟩
  intro i x y hx hy
  rw [List.getElem?_replicate] at hx hy
  split at hx
  ·rename_i hlt
   rw [if_pos hlt] at hy
   simp at hx hy
   subst hx; subst hy
   exact ⟨[], rfl, All2.nil⟩
  ·simp at hx
 refine wp_mono (ew_sound hc h hstart) ?_
 rintro e a' w' ⟨s1, ⟨he, s, hw, hfin⟩, hR1⟩
 obtain ⟨⟨X, rfl, r, hall, hd, hU⟩, hm⟩ := hw _ _ _ _ _ hR1
 obtain ⟨more, v, y, H', hnd, hv, hcon, hout, hpost⟩ := hfin
 obtain ⟨u, hrun, hvv⟩ := resV_run r hall hq hv
 obtain ⟨hl, ho⟩ := objsOut_spec hout
 -- the names that go out
 let out := List.range H.length ++ more
 have hout0 : ∀ j, j < H.length → out[j]? = some j := by
  intro j hj
  show (List.range H.length ++ more)[j]? = some j
  rw [List.getElem?_append_left (by simpa using hj)]
  simp [hj]
 let C : Cx := ⟨fun o => o < H'.length, fun j => X.ρ ((out[j]?).getD 0), fun b => X.Φ b ∨ ∃ o x, o ∉ out ∧ s.H o = some x ∧ hb (X.ρ o) = some b, X.w⟩
 have hlen' : H'.length = out.length := hl
 have hinto : Into X C out := ⟨fun j hj => by show j < H'.length; omega, fun j o hj => by show X.ρ _ = _; rw [hj]; rfl, fun b hb => .inl hb, rfl⟩
 have hget : ∀ (j : Nat) (z : EO), ofO H' j = some z → ∃ o x, out[j]? = some o ∧ s.H o = some x ∧ strO out x = some z ∧ C.ρ j = X.ρ o ∧ j < H'.length := by
  intro j z hz
  have hz' : H'[j]? = some (some z) := by
   unfold ofO at hz
   cases hh : H'[j]? with
   | none => rw [hh] at hz; simp at hz
   | some z' => rw [hh] at hz; simp at hz; rw [hz]
  obtain ⟨o, x, h1, h2, h3⟩ := ho j z hz'
  exact ⟨o, x, h1, h2, h3, hinto.ρ j o h1, lt_len hz'⟩
 have hRel : Rel w H.length ⟨ρ, feet (ofL H) ρ⟩ Φ (ofO H') C := by
  refine ⟨r.os, r.tape, r.output, r.size, r.block, ?_, ?_, ?_, ?_, ?_, ?_, ?_, r.glob.mono (fun b hb => .inl hb) (fun _ _ => rfl)⟩
  ·intro j hj
   rw [hinto.ρ j j (hout0 j hj)]
   exact r.pin j hj
  ·intro j z hz
   obtain ⟨o, x, h1, h2, h3, h4, h5⟩ := hget j z hz
   refine ⟨h5, ?_⟩
   rw [h4]
   exact strO_spec hinto h3 (r.obj o x h2).2
  ·intro j j' z z' b hz hz' e1 e2
   obtain ⟨o, x, h1, h2, h3, h4, _⟩ := hget j z hz
   obtain ⟨o', x', h1', h2', h3', h4', _⟩ := hget j' z' hz'
   rw [h4] at e1
   rw [h4'] at e2
   replace e1 := strO_ft h3 e1
   replace e2 := strO_ft h3' e2
   have := r.inj o o' x x' b h2 h2' e1 e2
   subst this
   exact (List.getElem?_inj (lt_len h1) hnd).1 (h1.trans h1'.symm)
  ·intro j z b hz e1
   obtain ⟨o, x, h1, h2, h3, h4, _⟩ := hget j z hz
   rw [h4] at e1
   replace e1 := strO_ft h3 e1
   exact r.own o x b h2 e1
  ·intro j z b hz e1 hΦ
   obtain ⟨o, x, h1, h2, h3, h4, _⟩ := hget j z hz
   rw [h4] at e1
   replace e1 := strO_ft h3 e1
   rcases hΦ with hΦ | ⟨o', x', q1, q2, q3⟩
   ·exact r.dis o x b h2 e1 hΦ
   ·have := r.inj o o' x x' b h2 q2 e1 (ft_hb q3)
    subst this
    exact q1 (List.mgE h1)
  ·intro b hΦ
   rcases hΦ with hΦ | ⟨o', x', q1, q2, q3⟩
   ·exact r.fro b hΦ
   ·exact ((r.obj o' x' q2).2).lt (ft_hb q3)
  ·intro b hΦ
   rcases hΦ with hΦ | ⟨o', x', q1, q2, q3⟩
   ·exact r.phi b hΦ
   ·exact .inr (r.own o' x' b q2 (ft_hb q3))
 have hres : VV C y u := conR_spec r hinto (fun o y b h1 h2 h3 => .inr ⟨o, y, h1, h2, h3⟩) hcon hvv
 have hle : H.length ≤ H'.length := by rw [hlen']; simp [out]
 have hgoal : ∃ y H' v ρ' Φ', Ending.returned u = .returned v ∧ post y H' ∧ H.length ≤ H'.length ∧ VV ⟨fun o => o < H'.length, ρ', Φ', X.w⟩ y v ∧ Rel w H.length ⟨ρ, feet (ofL H) ρ⟩ Φ (ofO H') ⟨fun o => o < H'.length, ρ', Φ', X.w⟩ :=
  ⟨y, H', u, C.ρ, C.Φ, rfl, hpost, hle, hres, hRel⟩
 rcases he with rfl | rfl
 ·exact ⟨hd, u, hrun, hgoal⟩
 ·exact ⟨hd, u, hrun, hgoal⟩
end
@[simp] def xK (n : Int) : Opd := .k (.int .i64 n)
@[simp] def xS : Value := .slice none 0 0
@[simp] def xZ : Value := .int .i64 0
abbrev UB := Unit → EB
abbrev UL := Unit → List EOp
theorem gE {α : Type} {l : List α} {i : Nat} {a : α} {h : i < l.length} (e : l[i]? = some a) : l[i]'h = a := Option.some.inj ((List.getElem?_eq_getElem h).symm.trans e)
end Go.EW
namespace Go.EW
open Go
def cfun (P : Program) (f : FuncId) : Option (EB × List QOp × Nat) :=
 (P.funcs[f]?).bind fun fn => fn.body.bind fun c => (ccode P c).bind fun b => (cress P fn.results.toList).map fun q => (b, q, fn.ntmps)
def FinQ (m : Nat) (qs : List QOp) (post : EV → List (Option EO) → Prop) : Exit → St → Prop
 | .normal, s => ∃ s', Weak m s s' ∧ Fin m qs post s'
 | .ret, s => ∃ s', Weak m s s' ∧ Fin m qs post s'
 | _, _ => False
theorem ew_mono {P : Program} {m : Nat} : ∀ {b : EB} {Q Q' : Exit → St → Prop} {s : St}, (∀ e s, Q e s → Q' e s) → ew P m b Q s → ew P m b Q' s
 | .skip, Q, Q', s, h, k => h _ _ k
 | .reg l n, Q, Q', s, h, k => chain.mono (fun _ _ => h _ _) (fun _ h => h) k
 | .seq a b, Q, Q', s, h, k => ew_mono (b := a) (fun e s' hq => by
   cases e with
   | normal => exact ew_mono (b := b) h hq
   | _ => exact h _ _ hq) k
 | .cond c a b, Q, Q', s, h, k => by
  simp only [ew] at k ⊢
  split at k
  ·rename_i t _
   cases t with
   | true => exact ew_mono (b := a) h k
   | false => exact ew_mono (b := b) h k
  ·exact k
 | .block id b, Q, Q', s, h, k => ew_mono (b := b) (fun e s' hq => by
   cases e with
   | exit i =>
    simp only at hq ⊢
    split
    ·rename_i hi; rw [if_pos hi] at hq; exact h _ _ hq
    ·rename_i hi; rw [if_neg hi] at hq; exact h _ _ hq
   | _ => exact h _ _ hq) k
 | .loop b, Q, Q', s, h, k => by
  simp only [ew] at k ⊢
  obtain ⟨I, k0, s0, hw, hI, hr⟩ := k
  refine ⟨I, k0, s0, hw, hI, fun n s1 h1 => ew_mono (b := b) (fun e s' hq => ?_) (hr n s1 h1)⟩
  cases e with
  | normal => exact hq
  | _ => exact h _ _ hq
 | .exit id, Q, Q', s, h, k => h _ _ k
 | .ret, Q, Q', s, h, k => h _ _ k
 | .bot, Q, Q', s, h, k => k.elim
theorem ecalls_cfun {P : Program} {f : FuncId} {b : EB} {qs : List QOp} {nt : Nat} {args : List EV} {H : List EO} {post : EV → List (Option EO) → Prop}
  (hc : cfun P f = some (b, qs, nt)) (h : ew P H.length b (FinQ H.length qs post) ⟨args ++ List.replicate (nt - args.length) (.tup []), ofL H, H.length⟩) : ECalls P f args H post := by
 unfold cfun at hc
 replace hc := bind_some' hc; obtain ⟨fn, hf, hc⟩ := hc
 replace hc := bind_some' hc; obtain ⟨c, hb, hc⟩ := hc
 replace hc := bind_some' hc; obtain ⟨b', hcb, hc⟩ := hc
 replace hc := map_some' hc; obtain ⟨q, hq, hc⟩ := hc
 simp only [Prod.mk.injEq] at hc
 obtain ⟨rfl, rfl, rfl⟩ := hc
 refine ecalls_of hf hb hcb hq (ew_mono ?_ h)
 intro e s hh
 cases e with
 | normal => exact ⟨.inl rfl, hh⟩
 | ret => exact ⟨.inr rfl, hh⟩
 | _ => exact hh.elim
def Forgets : List EV → List EV → Prop
 | [], [] => True
 | x :: r, y :: t => (y = x ∨ y = .any) ∧ Forgets r t
 | _, _ => False
theorem forgets_all {X : Cx} : ∀ {T T' : List EV} {vs : List Value}, Forgets T T' → All2 (VV X) T vs → All2 (VV X) T' vs
 | [], [], vs, _, h => h
 | x :: r, y :: t, vs, hf, h => by
  obtain ⟨u, us, rfl, h1, h2⟩ := h.cons_left
  refine All2.cons ?_ (forgets_all hf.2 h2)
  rcases hf.1 with rfl | rfl
  ·exact h1
  ·trivial
 | [], _ :: _, _, h, _ => h.elim
 | _ :: _, [], _, h, _ => h.elim
theorem weak_forget {m n n' : Nat} {T T' : List EV} {H H' : Nat → Option EO} (hT : Forgets T T') (hH : ∀ o x, H' o = some x → H o = some x) (hn : n ≤ n') : Weak m ⟨T, H, n⟩ ⟨T', H', n'⟩ := by
 rintro w0 ρ0 Φ0 a w ⟨⟨X, hX, r, hall, hd, hU⟩, hm⟩
 exact ⟨⟨X, hX, r.drop hH, forgets_all hT hall, hd, fun o ho => Nat.lt_of_lt_of_le (hU o ho) hn⟩, Nat.le_trans hm hn⟩
theorem weak_ren {m n n' : Nat} {T T' : List EV} {H H' : Nat → Option EO} (g : Nat → Nat) (hg : ∀ o, o < m → g o = o) (hinj : ∀ o o' x x', H' o = some x → H' o' = some x' → g o = g o' → o = o')
  (hT : T = T'.map (renV g)) (hH : ∀ o x, H' o = some x → o < n' ∧ H (g o) = some (renO g x)) (hrT : ∀ e ∈ T', ∀ o ∈ refsV e, o < n') (hrH : ∀ o x, H' o = some x → ∀ i ∈ refsO x, i < n') (hm' : m ≤ n') : Weak m ⟨T, H, n⟩ ⟨T', H', n'⟩ := by
 rintro w0 ρ0 Φ0 a w ⟨⟨X, rfl, r, hall, hd, hU⟩, hm⟩
 let Y : Cx := ⟨fun o => o < n' ∧ X.U (g o), fun o => X.ρ (g o), X.Φ, X.w⟩
 have unC : ∀ (x : EC) (v : Value), (∀ o ∈ refsC x, o < n') → VR X (renC g x) v → VR Y x v := by
  intro x v hx k
  cases x with
  | fz x => exact k
  | ptr o i => exact ⟨⟨hx o (by simp [refsC]), k.1⟩, k.2⟩
  | eptr o es i j => exact ⟨⟨hx o (by simp [refsC]), k.1⟩, k.2⟩
  | row o len => exact ⟨⟨hx o (by simp [refsC]), k.1⟩, k.2⟩
  | bsl o i len => exact ⟨⟨hx o (by simp [refsC]), k.1⟩, k.2⟩
  | rsl o i len => exact ⟨⟨hx o (by simp [refsC]), k.1⟩, k.2⟩
  | fptr cs i => exact k
  | clo f caps =>
   obtain ⟨vs, hv, ha⟩ := k
   refine ⟨vs, hv, by have := ha.1; simpa using this, ?_⟩
   intro i p u hp hu
   have h1 := ha.2 i (g p.1, p.2) u (by rw [List.getElem?_map, hp]; rfl) hu
   exact ⟨⟨hx p.1 (by simp only [refsC, List.mem_map]; exact ⟨p, List.mgE hp, rfl⟩), h1.1⟩, h1.2⟩
  | mp o => exact ⟨⟨hx o (by simp [refsC]), k.1⟩, k.2⟩
 have unAll : ∀ (cs : List EC) (vs : List Value), (∀ o ∈ cs.flatMap refsC, o < n') → All2 (VR X) (cs.map (renC g)) vs → All2 (VR Y) cs vs := by
  intro cs vs hcs k
  refine ⟨by have := k.1; simpa using this, ?_⟩
  intro i x y hx hy
  exact unC x y (fun o ho => hcs o (List.mem_flatMap.2 ⟨x, List.mgE hx, ho⟩)) (k.2 i (renC g x) y (by rw [List.getElem?_map, hx]; rfl) hy)
 have unT : ∀ (x : TV) (v : Value), (∀ o ∈ refsT x, o < n') → VT X (renT g x) v → VT Y x v := by
  intro x v hx k
  cases x with
  | c x => exact unC x v hx k
  | agg cs => obtain ⟨vs, hv, ha⟩ := k; exact ⟨vs, hv, unAll cs vs hx ha⟩
 have unV : ∀ (x : EV) (v : Value), (∀ o ∈ refsV x, o < n') → VV X (renV g x) v → VV Y x v := by
  intro x v hx k
  cases x with
  | v x => exact unT x v hx k
  | tup ts =>
   obtain ⟨vs, hv, ha⟩ := k
   refine ⟨vs, hv, by have := ha.1; simpa using this, ?_⟩
   intro i x y hx' hy
   exact unT x y (fun o ho => hx o (List.mem_flatMap.2 ⟨x, List.mgE hx', ho⟩)) (ha.2 i (renT g x) y (by rw [List.getElem?_map, hx']; rfl) hy)
  | any => trivial
 refine ⟨⟨Y, rfl, ⟨r.os, r.tape, r.output, r.size, r.block, ?_, ?_, ?_, ?_, ?_, r.fro, r.phi, r.glob⟩, ?_, hd, fun o ho => ho.1⟩, hm'⟩
 ·intro o ho
  show X.ρ (g o) = ρ0.ρ o
  rw [hg o ho]
  exact r.pin o ho
 ·intro o x hx
  obtain ⟨h1, h2⟩ := hH o x hx
  obtain ⟨hu, hor⟩ := r.obj _ _ h2
  refine ⟨⟨h1, hu⟩, ?_⟩
  have hrx := hrH o x hx
  cases x with
  | box ty cs =>
   obtain ⟨b, c, hv, hh, ha⟩ := hor
   exact ⟨b, c, hv, hh, unAll cs _ hrx ha⟩
  | row ty es xs => exact hor
  | mp rs es => exact hor
  | abs I fs => exact hor
 ·intro o o' x x' b hx hx' e1 e2
  obtain ⟨_, h2⟩ := hH o x hx
  obtain ⟨_, h2'⟩ := hH o' x' hx'
  exact hinj o o' x x' hx hx' (r.inj _ _ _ _ b h2 h2' (by rw [ren_ft]; exact e1) (by rw [ren_ft]; exact e2))
 ·intro o x b hx e1
  exact r.own _ _ b (hH o x hx).2 (by rw [ren_ft]; exact e1)
 ·intro o x b hx e1
  exact r.dis _ _ b (hH o x hx).2 (by rw [ren_ft]; exact e1)
 ·subst hT
  refine ⟨by have := hall.1; simpa using this, ?_⟩
  intro i x y hx hy
  exact unV x y (hrT x (List.mgE hx)) (hall.2 i (renV g x) y (by rw [List.getElem?_map, hx]; rfl) hy)
end Go.EW
