import Derived.Test.YtejjhgdnmknejaaStateK
namespace Go.Proofs.Ytejjhgdnmknejaa
open Go Go.EW
set_option linter.unusedSimpArgs false
set_option linter.unusedVariables false
/- Rising rows, one thing laid in or taken out: plain. -/

theorem posI_lt : ∀ {l : List Int} {x : Int} {k : Nat} {y : Int}, k < posI l x → l[k]? = some y → y < x
  | [], x, k, y, h, hy => by simp at hy
  | a :: r, x, k, y, h, hy => by
    by_cases ha : a < x
    · cases k with
      | zero => simp at hy; omega
      | succ k =>
        refine posI_lt (l := r) (k := k) ?_ (by simpa using hy)
        simp [posI, List.takeWhile_cons, ha] at h ⊢
        omega
    · simp [posI, List.takeWhile_cons, ha] at h
theorem posI_at : ∀ {l : List Int} {x y : Int}, l[posI l x]? = some y → x ≤ y
  | [], x, y, h => by simp at h
  | a :: r, x, y, h => by
    by_cases ha : a < x
    · refine posI_at (l := r) (x := x) ?_
      have e : posI (a :: r) x = posI r x + 1 := by simp [posI, List.takeWhile_cons, ha]
      rw [e] at h
      simpa using h
    · have e : posI (a :: r) x = 0 := by simp [posI, List.takeWhile_cons, ha]
      rw [e] at h
      simp at h
      omega
theorem posI_ge {l : List Int} {x y : Int} {k : Nat} (hs : l.Pairwise (· < ·)) (h : posI l x ≤ k) (hy : l[k]? = some y) : x ≤ y := by
  rcases Nat.lt_or_ge (posI l x) k with h1 | h1
  · have hk := lt_len hy
    obtain ⟨z, hz⟩ : ∃ z, l[posI l x]? = some z := ⟨l[posI l x]'(by omega), by simp⟩
    have := pw_get hs h1 hz hy
    have := posI_at hz
    omega
  · obtain rfl : posI l x = k := by omega
    exact posI_at hy
theorem pw_ins {l : List Int} {x : Int} (hs : l.Pairwise (· < ·)) (hf : fndI l x = false) : (l.take (posI l x) ++ x :: l.drop (posI l x)).Pairwise (· < ·) := by
  have hne : l[posI l x]? ≠ some x := of_decide_eq_false hf
  have hlo : ∀ a ∈ l.take (posI l x), a < x := by
    intro a ha
    obtain ⟨k, hk⟩ := List.getElem?_of_mem ha
    rw [List.getElem?_take] at hk
    split at hk
    · rename_i h; exact posI_lt h hk
    · simp at hk
  have hhi : ∀ a ∈ l.drop (posI l x), x < a := by
    intro a ha
    obtain ⟨k, hk⟩ := List.getElem?_of_mem ha
    rw [List.getElem?_drop] at hk
    have h1 := posI_ge (x := x) hs (by omega) hk
    rcases Int.lt_or_eq_of_le h1 with h2 | h2
    · exact h2
    · exfalso
      subst h2
      cases k with
      | zero => exact hne hk
      | succ k =>
        obtain ⟨z, hz⟩ : ∃ z, l[posI l x]? = some z := ⟨l[posI l x]'(by have := lt_len hk; omega), by simp⟩
        have := pw_get hs (show posI l x < posI l x + (k + 1) by omega) hz hk
        have := posI_at hz
        omega
  refine List.pairwise_append.2 ⟨hs.sublist (List.take_sublist _ _), List.pairwise_cons.2 ⟨hhi, hs.sublist (List.drop_sublist _ _)⟩, ?_⟩
  intro a ha b hb
  rcases List.mem_cons.1 hb with rfl | hb
  · exact hlo a ha
  · have := hlo a ha; have := hhi b hb; omega
theorem pw_del {l : List Int} (k : Nat) (hs : l.Pairwise (· < ·)) : (l.take k ++ l.drop (k + 1)).Pairwise (· < ·) := by
  rw [← List.eraseIdx_eq_take_drop_succ]
  exact hs.sublist (List.eraseIdx_sublist _ _)
theorem posI_ins {l : List Int} {x : Int} : posI (l.take (posI l x) ++ x :: l.drop (posI l x)) x = posI l x := by
  have hp := posI_le l x
  refine posI_eq (by simp; omega) ?_ ?_
  · intro k y hk hy
    rw [List.getElem?_append_left (by rw [List.length_take]; omega), List.getElem?_take, if_pos hk] at hy
    exact posI_lt hk hy
  · intro y hy
    rw [List.getElem?_append_right (by rw [List.length_take]; omega), List.length_take, show posI l x - min (posI l x) l.length = 0 by omega] at hy
    simp at hy
    omega
theorem fndI_ins {l : List Int} {x : Int} : fndI (l.take (posI l x) ++ x :: l.drop (posI l x)) x = true := by
  have hp := posI_le l x
  unfold fndI
  rw [posI_ins, List.getElem?_append_right (by rw [List.length_take]; omega), List.length_take, show posI l x - min (posI l x) l.length = 0 by omega]
  simp

variable {α : Type}
def insA (f : α → Int) (l : List α) (a : α) : List α := l.take (posI (l.map f) (f a)) ++ a :: l.drop (posI (l.map f) (f a))
def delA (f : α → Int) (l : List α) (x : Int) : List α := l.take (posI (l.map f) x) ++ l.drop (posI (l.map f) x + 1)
theorem insP_eq (l : List Pay) (p : Pay) : insP l p = insA Pay.id l p := rfl
theorem delP_eq (l : List Pay) (x : Int) : delP l x = delA Pay.id l x := rfl
theorem map_ins (f : α → Int) (l : List α) (a : α) : (insA f l a).map f = (l.map f).take (posI (l.map f) (f a)) ++ f a :: (l.map f).drop (posI (l.map f) (f a)) := by simp [insA]
theorem map_del (f : α → Int) (l : List α) (x : Int) : (delA f l x).map f = (l.map f).take (posI (l.map f) x) ++ (l.map f).drop (posI (l.map f) x + 1) := by simp [delA]
theorem mem_ins {f : α → Int} {l : List α} {a b : α} : b ∈ insA f l a → b = a ∨ b ∈ l := by
  intro h
  rcases List.mem_append.1 h with h | h
  · exact .inr (List.mem_of_mem_take h)
  · rcases List.mem_cons.1 h with h | h
    · exact .inl h
    · exact .inr (List.mem_of_mem_drop h)
theorem mem_del {f : α → Int} {l : List α} {x : Int} {b : α} : b ∈ delA f l x → b ∈ l := by
  intro h
  rcases List.mem_append.1 h with h | h
  · exact List.mem_of_mem_take h
  · exact List.mem_of_mem_drop h
theorem posA_le (f : α → Int) (l : List α) (x : Int) : posI (l.map f) x ≤ l.length := by have := posI_le (l.map f) x; simpa using this
theorem len_ins (f : α → Int) (l : List α) (a : α) : (insA f l a).length = l.length + 1 := by
  have := posA_le f l (f a)
  simp [insA]; omega
theorem sum_ins (f g : α → Int) (l : List α) (a : α) : ((insA f l a).map g).sum = (l.map g).sum + g a := by
  have e : (l.map g).sum = ((l.take (posI (l.map f) (f a))).map g).sum + ((l.drop (posI (l.map f) (f a))).map g).sum := by
    rw [← List.sum_append, ← List.map_append, List.take_append_drop]
  rw [e]
  simp [insA]
  omega
theorem get_ins (f : α → Int) (l : List α) (a : α) : (insA f l a)[posI ((insA f l a).map f) (f a)]? = some a := by
  have hp := posA_le f l (f a)
  rw [map_ins, posI_ins]
  unfold insA
  rw [List.getElem?_append_right (by rw [List.length_take]; omega), List.length_take, show posI (l.map f) (f a) - min (posI (l.map f) (f a)) l.length = 0 by omega]
  rfl
theorem del_ins (f : α → Int) (l : List α) (a : α) : delA f (insA f l a) (f a) = l := by
  have hp := posA_le f l (f a)
  unfold delA
  rw [map_ins, posI_ins]
  unfold insA
  have hl : (l.take (posI (l.map f) (f a))).length = posI (l.map f) (f a) := by rw [List.length_take]; omega
  rw [List.take_left' hl, ← List.drop_drop, List.drop_left' hl]
  simp
theorem sum_del {f : α → Int} (g : α → Int) {l : List α} {x : Int} {b : α} (h : l[posI (l.map f) x]? = some b) : ((delA f l x).map g).sum = (l.map g).sum - g b := by
  have hlt := lt_len h
  have e : l = l.take (posI (l.map f) x) ++ b :: l.drop (posI (l.map f) x + 1) := by
    have h2 := List.getElem?_eq_some_iff.1 h
    obtain ⟨h3, h4⟩ := h2
    rw [← h4, List.getElem_cons_drop, List.take_append_drop]
  have e2 : (l.map g).sum = ((l.take (posI (l.map f) x)).map g).sum + (g b + ((l.drop (posI (l.map f) x + 1)).map g).sum) := by
    conv => lhs; rw [e]
    simp
  rw [e2]
  simp [delA]
  omega
theorem len_del {f : α → Int} {l : List α} {x : Int} {b : α} (h : l[posI (l.map f) x]? = some b) : (delA f l x).length = l.length - 1 := by
  have hlt := lt_len h
  simp [delA]; omega
theorem fnd_get {f : α → Int} {l : List α} {x : Int} (h : fndI (l.map f) x = true) : ∃ b, l[posI (l.map f) x]? = some b ∧ f b = x := by
  have h2 : (l.map f)[posI (l.map f) x]? = some x := of_decide_eq_true h
  rw [List.getElem?_map, Option.map_eq_some_iff] at h2
  exact h2

theorem payL_iff : ∀ {o : Option Int} {l : List Pay}, payL o l = true ↔ (∀ p ∈ l, mayP p = true) ∧ (l.map Pay.id).Pairwise (· < ·) ∧ ∀ q, o = some q → ∀ p ∈ l, q < p.id := by
  intro o l
  constructor
  · intro h
    exact ⟨payL_mem h, payL_pw h, fun q hq p hp => payL_lo h p hp q hq⟩
  · revert o
    induction l with
    | nil => intro o _; rfl
    | cons a r ih =>
      rintro o ⟨h1, h2, h3⟩
      simp only [List.map_cons, List.pairwise_cons] at h2
      have ha : aft o a.id = true := by
        cases o with
        | none => rfl
        | some q => exact decide_eq_true (h3 q rfl a (by simp))
      simp only [payL, h1 a (by simp), ha, Bool.true_and]
      exact ih ⟨fun p hp => h1 p (by simp [hp]), h2.2, fun q hq p hp => by
        obtain rfl := Option.some.inj hq
        exact h2.1 p.id (List.mem_map.2 ⟨p, hp, rfl⟩)⟩
theorem mayS_mk {s : Sta} (h1 : 0 ≤ s.num ∧ s.num ≤ 1099511627776 ∧ 0 ≤ s.h0 ∧ s.h0 ≤ 1125899906842624 ∧ 0 ≤ s.h1 ∧ s.h1 ≤ 1125899906842624 ∧ s.pays.length ≤ 8 ∧ s.holds.length + s.pays.length ≤ 8) (h2 : payL none s.pays = true) (h3 : holL none s.holds = true) (h4 : total s ≤ 1125899906842624) : mayS s = true := by
  simp only [mayS, h2, h3, decide_eq_true h1, decide_eq_true h4, Bool.and_self]
theorem mayP_pos {p : Pay} (h : mayP p = true) : (p.fr = 0 ∨ p.fr = 1) ∧ 10 ≤ p.am ∧ p.am ≤ 1125899906842624 := by
  have := of_decide_eq_true h
  omega
/-- A payment that was laid. -/
theorem addP_may {s : Sta} {p : Pay} (h : (addP s p).2 = 0) : mayS s = true ∧ s.num ≠ 1099511627776 ∧ mayP p = true ∧ fndI (s.pays.map Pay.id) p.id = false ∧
    addP s p = (⟨s.num + 1, if p.fr = 0 then s.h0 - p.am else s.h0, if p.fr = 0 then s.h1 else s.h1 - p.am, insP s.pays p, s.holds⟩, 0) ∧ mayS (addP s p).1 = true ∧ total (addP s p).1 = total s := by
  by_cases h0 : mayS s = true ∧ s.num ≠ 1099511627776
  rotate_left
  · have hx : nxt s = (zSta, 1) := by simp only [nxt, if_neg h0]
    simp [addP, hx] at h
  have hx : nxt s = (⟨s.num + 1, s.h0, s.h1, s.pays, s.holds⟩, 0) := by simp only [nxt, if_pos h0]
  obtain ⟨hr, hpl, hh, htot⟩ := mayS_t h0.1
  obtain ⟨q1, q2, q3⟩ := payL_iff.1 hpl
  simp only [addP, hx] at h ⊢
  rw [if_neg (by simp)] at h ⊢
  split at h
  · simp at h
  rename_i c1
  split at h
  · simp at h
  rename_i c2
  split at h
  · simp at h
  rename_i c3
  split at h
  · simp at h
  rename_i c4
  split at h
  · simp at h
  rename_i c5
  split at h
  · simp at h
  rename_i c6
  have hm : mayP p = true := by simpa using c3
  have hf : fndI (s.pays.map Pay.id) p.id = false := by simpa using c4
  have hpp := mayP_pos hm
  have hs1 : sumP (insP s.pays p) = sumP s.pays + p.am := sum_ins Pay.id (·.am) s.pays p
  have hl1 : (insP s.pays p).length = s.pays.length + 1 := len_ins Pay.id s.pays p
  have hto : total s = s.h0 + s.h1 + sumP s.pays + sumH s.holds := rfl
  have hpi : payL none (insP s.pays p) = true := payL_iff.2 ⟨fun b hb => by
      rcases mem_ins (f := Pay.id) hb with rfl | hb
      · exact hm
      · exact q1 b hb, by
      rw [insP_eq, map_ins]
      exact pw_ins q2 hf, fun q hq => by simp at hq⟩
  rw [if_neg c1, if_neg c2, if_neg c3, if_neg c4, if_neg c5, if_neg c6]
  refine ⟨h0.1, h0.2, hm, hf, rfl, ?_, ?_⟩
  · unfold sideS at c6
    refine mayS_mk ?_ hpi hh ?_
    · dsimp only
      rw [hl1]
      rcases hpp.1 with e | e
      · rw [if_pos e] at c6; rw [if_pos e, if_pos e]; omega
      · rw [if_neg (by omega)] at c6; rw [if_neg (by omega), if_neg (by omega)]; omega
    · show (if p.fr = 0 then s.h0 - p.am else s.h0) + (if p.fr = 0 then s.h1 else s.h1 - p.am) + sumP (insP s.pays p) + sumH s.holds ≤ _
      rw [hs1]
      split <;> omega
  · show (if p.fr = 0 then s.h0 - p.am else s.h0) + (if p.fr = 0 then s.h1 else s.h1 - p.am) + sumP (insP s.pays p) + sumH s.holds = _
    rw [hs1, hto]
    split <;> omega

/-- What is laid and given back is as it was. -/
theorem fal_add {s : Sta} {p : Pay} (h : (addP s p).2 = 0) (hn : s.num ≤ 549755813888) : (falS (addP s p).1 p.id).2 = 0 ∧ (falS (addP s p).1 p.id).1.h0 = s.h0 ∧ (falS (addP s p).1 p.id).1.h1 = s.h1 ∧ (falS (addP s p).1 p.id).1.pays.length = s.pays.length := by
  obtain ⟨h1, h2, h3, h4, h5, h6, h7⟩ := addP_may h
  obtain ⟨X, hX⟩ : ∃ X, (addP s p).1 = X := ⟨_, rfl⟩
  have hX2 : X = ⟨s.num + 1, if p.fr = 0 then s.h0 - p.am else s.h0, if p.fr = 0 then s.h1 else s.h1 - p.am, insP s.pays p, s.holds⟩ := by rw [← hX, h5]
  rw [hX] at h6 h7 ⊢
  have hXn : X.num = s.num + 1 := by rw [hX2]
  have hXp : X.pays = insP s.pays p := by rw [hX2]
  have hx : nxt X = (⟨X.num + 1, X.h0, X.h1, X.pays, X.holds⟩, 0) := by simp only [nxt]; rw [if_pos ⟨h6, by omega⟩]
  have hf : fndI (X.pays.map Pay.id) p.id = true := by rw [hXp, insP_eq, map_ins]; exact fndI_ins
  have hg : X.pays[posI (X.pays.map Pay.id) p.id]? = some p := by rw [hXp, insP_eq]; exact get_ins Pay.id s.pays p
  have hd : delP X.pays p.id = s.pays := by rw [hXp, insP_eq, delP_eq]; exact del_ins Pay.id s.pays p
  have ht : takS X p.id = (⟨X.num + 1, X.h0, X.h1, s.pays, X.holds⟩, p, 0) := by
    simp only [takS, hx]
    rw [if_neg (by simp), if_neg (by rw [hf]; simp), hg, hd]
    rfl
  simp only [falS, ht]
  rw [if_neg (by simp)]
  refine ⟨rfl, ?_, ?_, rfl⟩
  · rw [hX2]; dsimp only; split <;> omega
  · rw [hX2]; dsimp only; split <;> omega
theorem moveS_back {s : Sta} {a n : Int} (h : (moveS s a n).2 = 0) (hn : s.num ≤ 549755813888) (hs : s.ok) : (a = 0 ∨ a = 1) ∧ (moveS (moveS s a n).1 (1 - a) n).2 = 0 ∧ (moveS (moveS s a n).1 (1 - a) n).1.h0 = s.h0 ∧ (moveS (moveS s a n).1 (1 - a) n).1.h1 = s.h1 := by
  by_cases h0 : mayS s = true ∧ s.num ≠ 1099511627776
  rotate_left
  · have hx : nxt s = (zSta, 1) := by simp only [nxt, if_neg h0]
    simp [moveS, hx] at h
  have hx : nxt s = (⟨s.num + 1, s.h0, s.h1, s.pays, s.holds⟩, 0) := by simp only [nxt, if_pos h0]
  obtain ⟨hr, hpl, hh, htot⟩ := mayS_t h0.1
  have hsp := sumP_nn hpl
  have hsh := sumH_nn hh
  have hto : total s = s.h0 + s.h1 + sumP s.pays + sumH s.holds := rfl
  have may2 : ∀ u v : Int, 0 ≤ u → 0 ≤ v → u + v = s.h0 + s.h1 → nxt ⟨s.num + 1, u, v, s.pays, s.holds⟩ = (⟨s.num + 1 + 1, u, v, s.pays, s.holds⟩, 0) := by
    intro u v hu hv huv
    have hm : mayS ⟨s.num + 1, u, v, s.pays, s.holds⟩ = true := by
      refine mayS_mk ?_ hpl hh ?_
      · dsimp only; omega
      · show u + v + sumP s.pays + sumH s.holds ≤ _; omega
    have hn2 : s.num + 1 ≠ 1099511627776 := by omega
    simp only [nxt, hm]
    rw [if_pos ⟨trivial, hn2⟩]
  have key : (a = 0 ∨ a = 1) ∧ ¬ n < 1 ∧ ¬ (if a = 0 then s.h0 else s.h1) < n ∧ moveS s a n = (if a = 0 then (⟨s.num + 1, s.h0 - n, s.h1 + n, s.pays, s.holds⟩, 0) else (⟨s.num + 1, s.h0 + n, s.h1 - n, s.pays, s.holds⟩, 0)) := by
    simp only [moveS, hx] at h ⊢
    rw [if_neg (by simp)] at h
    by_cases c1 : ¬ (a = 0 ∨ a = 1)
    · rw [if_pos c1] at h; simp at h
    rw [if_neg c1] at h
    by_cases c2 : n < 1
    · rw [if_pos c2] at h; simp at h
    rw [if_neg c2] at h
    by_cases c3 : (if a = 0 then s.h0 else s.h1) < n
    · rw [if_pos c3] at h; simp at h
    have c1' : a = 0 ∨ a = 1 := Classical.not_not.1 c1
    refine ⟨c1', c2, c3, ?_⟩
    rw [if_neg (by simp), if_neg c1, if_neg c2, if_neg c3]
  obtain ⟨c1, c2, c3, hmv⟩ := key
  rw [hmv]
  refine ⟨c1, ?_⟩
  rcases c1 with rfl | rfl
  · simp only [if_true] at c3 ⊢
    have hx2 := may2 (s.h0 - n) (s.h1 + n) (by omega) (by omega) (by omega)
    have hm2 : moveS ⟨s.num + 1, s.h0 - n, s.h1 + n, s.pays, s.holds⟩ (1 - 0) n = (⟨s.num + 1 + 1, s.h0 - n + n, s.h1 + n - n, s.pays, s.holds⟩, 0) := by
      simp only [moveS, hx2]
      rw [if_neg (by simp), if_neg (by omega), if_neg c2, if_neg (by rw [if_neg (by omega)]; omega), if_neg (by omega)]
    rw [hm2]
    refine ⟨rfl, ?_, ?_⟩
    · dsimp only; omega
    · dsimp only; omega
  · simp only [show ¬ (1 : Int) = 0 by omega, if_false] at c3 ⊢
    have hx2 := may2 (s.h0 + n) (s.h1 - n) (by omega) (by omega) (by omega)
    have hm2 : moveS ⟨s.num + 1, s.h0 + n, s.h1 - n, s.pays, s.holds⟩ (1 - 1) n = (⟨s.num + 1 + 1, s.h0 + n - n, s.h1 - n + n, s.pays, s.holds⟩, 0) := by
      simp only [moveS, hx2]
      rw [if_neg (by simp), if_neg (by omega), if_neg c2, if_neg (by rw [if_pos (by omega)]; omega), if_pos (by omega)]
    rw [hm2]
    refine ⟨rfl, ?_, ?_⟩
    · dsimp only; omega
    · dsimp only; omega

theorem may_ok {s : Sta} (h : mayS s = true) (hp : ∀ p ∈ s.pays, p.ok) (hh : ∀ h ∈ s.holds, h.ok) : s.ok := by
  obtain ⟨hr, _⟩ := mayS_t h
  exact ⟨⟨by omega, by omega⟩, ⟨by omega, by omega⟩, ⟨by omega, by omega⟩, hp, hh, by omega, by omega⟩
theorem addP_ok {s : Sta} {p : Pay} (hs : s.ok) (hp : p.ok) (h : (addP s p).2 = 0) : (addP s p).1.ok := by
  obtain ⟨h1, h2, h3, h4, h5, h6, h7⟩ := addP_may h
  refine may_ok h6 ?_ ?_
  · rw [h5]
    intro q hq
    rcases mem_ins (f := Pay.id) hq with rfl | hq
    · exact hp
    · exact hs.2.2.2.1 q hq
  · rw [h5]; exact hs.2.2.2.2.1

end Go.Proofs.Ytejjhgdnmknejaa
