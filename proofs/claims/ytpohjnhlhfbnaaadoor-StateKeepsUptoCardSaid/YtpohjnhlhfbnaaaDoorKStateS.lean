import Derived.Test.YtpohjnhlhfbnaaaDoorKStateO
import Derived.Test.YtpohjnhlhfbnaaaDoorKStateP
namespace Go.Proofs.YtpohjnhlhfbnaaaDoor
open Go Go.EW
set_option linter.unusedSimpArgs false
set_option linter.unusedVariables false

/-- A state that may stand behind s: as much in all, the next number. -/
def Gd (s t : Sta) : Prop := mayS t = true ∧ total t = total s ∧ t.num = s.num + 1 ∧ t.ok

theorem gd_mk {s : Sta} (h0 : mayS s = true ∧ s.num ≠ 1099511627776) {x y : Int} {ps : List Pay} {hl : List Hol} (hx : 0 ≤ x) (hy : 0 ≤ y) (hp : payL none ps = true) (hh : holL none hl = true)
    (po : ∀ p ∈ ps, p.ok) (ho : ∀ h ∈ hl, h.ok) (h8 : hl.length + ps.length ≤ 8) (ht : x + y + sumP ps + sumH hl = total s) : Gd s ⟨s.num + 1, x, y, ps, hl⟩ := by
  obtain ⟨hr, _, _, htot⟩ := mayS_t h0.1
  have n1 := sumP_nn hp
  have n2 := sumH_nn hh
  have h02 := h0.2
  have hm : mayS ⟨s.num + 1, x, y, ps, hl⟩ = true := mayS_mk (by dsimp only; omega) hp hh (by show x + y + sumP ps + sumH hl ≤ _; omega)
  exact ⟨hm, ht, rfl, may_ok hm po ho⟩
theorem nxt_zero {s : Sta} (h : ¬ (nxt s).2 ≠ 0) : mayS s = true ∧ s.num ≠ 1099511627776 := by
  unfold nxt at h
  split at h
  · rename_i h'; exact h'
  · simp at h
theorem delA_sub {α : Type} (f : α → Int) (l : List α) (x : Int) : (delA f l x).Sublist l := by
  unfold delA
  obtain ⟨n, hn⟩ : ∃ n, posI (l.map f) x = n := ⟨_, rfl⟩
  rw [hn]
  have h1 : (l.drop (n + 1)).Sublist (l.drop n) := by
    rw [← List.drop_drop]
    exact List.drop_sublist 1 _
  have h2 := (List.Sublist.refl (l.take n)).append h1
  rwa [List.take_append_drop] at h2
theorem payL_sub {l l' : List Pay} (h : payL none l = true) (hs : l'.Sublist l) : payL none l' = true := by
  obtain ⟨q1, q2, _⟩ := payL_iff.1 h
  exact payL_iff.2 ⟨fun p hp => q1 p (hs.subset hp), q2.sublist (hs.map _), fun q hq => by simp at hq⟩
theorem holL_sub {l l' : List Hol} (h : holL none l = true) (hs : l'.Sublist l) : holL none l' = true := by
  obtain ⟨q1, q2, _⟩ := holL_iff.1 h
  exact holL_iff.2 ⟨fun p hp => q1 p (hs.subset hp), q2.sublist (hs.map _), fun q hq => by simp at hq⟩
theorem moveS_gd {s : Sta} {a n : Int} (hs : s.ok) (h : (moveS s a n).2 = 0) : Gd s (moveS s a n).1 := by
  unfold moveS at h ⊢
  split at h
  · rename_i h1; exact absurd h h1
  rename_i h1
  have h0 := nxt_zero h1
  obtain ⟨hr, hpl, hh, htot⟩ := mayS_t h0.1
  obtain ⟨ok1, ok2, ok3, ok4, ok5, ok6, ok7⟩ := id hs
  have hto : total s = s.h0 + s.h1 + sumP s.pays + sumH s.holds := rfl
  rw [if_neg h1]
  split at h
  · simp at h
  rename_i h2
  rw [if_neg h2]
  split at h
  · simp at h
  rename_i h3
  rw [if_neg h3]
  by_cases h4 : (if a = 0 then s.h0 else s.h1) < n
  · rw [if_pos h4] at h; simp at h
  rw [if_neg h4]
  by_cases e : a = 0
  · rw [if_pos e]
    rw [if_pos e] at h4
    exact gd_mk h0 (by omega) (by omega) hpl hh ok4 ok5 (by omega) (by omega)
  · rw [if_neg e]
    rw [if_neg e] at h4
    exact gd_mk h0 (by omega) (by omega) hpl hh ok4 ok5 (by omega) (by omega)
theorem addP_gd {s : Sta} {p : Pay} (hs : s.ok) (hp : p.ok) (h : (addP s p).2 = 0) : Gd s (addP s p).1 := by
  obtain ⟨h1, h2, h3, h4, h5, h6, h7⟩ := addP_may h
  exact ⟨h6, h7, by rw [h5], addP_ok hs hp h⟩
theorem takS_gd {s : Sta} {x : Int} (h : (takS s x).2.2 = 0) : (mayS s = true ∧ s.num ≠ 1099511627776) ∧ (takS s x).1 = ⟨s.num + 1, s.h0, s.h1, delA Pay.id s.pays x, s.holds⟩ ∧ (takS s x).2.1 ∈ s.pays ∧ sumP (delA Pay.id s.pays x) = sumP s.pays - (takS s x).2.1.am ∧ (delA Pay.id s.pays x).length = s.pays.length - 1 ∧ 10 ≤ (takS s x).2.1.am := by
  unfold takS at h ⊢
  split at h
  · simp at h
  rename_i h1
  have h0 := nxt_zero h1
  obtain ⟨hr, hpl, hh, htot⟩ := mayS_t h0.1
  split at h
  · simp at h
  rename_i h2
  rw [if_neg h1, if_neg h2]
  have hf : fndI (s.pays.map Pay.id) x = true := by simpa using h2
  obtain ⟨b, hb, hid⟩ := fnd_get (f := Pay.id) hf
  have hb' : s.pays[posI (s.pays.map (·.id)) x]? = some b := hb
  have hmem := List.mem_of_getElem? hb
  refine ⟨h0, by rw [delP_eq], ?_, ?_, len_del (f := Pay.id) hb, ?_⟩
  · show (s.pays[posI (s.pays.map (·.id)) x]?).getD zPay ∈ s.pays
    rw [hb']; exact hmem
  · have e := sum_del (f := Pay.id) (·.am) hb
    show sumP _ = sumP _ - ((s.pays[posI (s.pays.map (·.id)) x]?).getD zPay).am
    rw [hb']; exact e
  · show 10 ≤ ((s.pays[posI (s.pays.map (·.id)) x]?).getD zPay).am
    rw [hb']; exact (mayP_pos (payL_mem hpl b hmem)).2.1
theorem back_gd {s : Sta} {x u v : Int} (hs : s.ok) (h : (takS s x).2.2 = 0) (hu : s.h0 ≤ u) (hv : s.h1 ≤ v) (huv : u + v = s.h0 + s.h1 + (takS s x).2.1.am) : Gd s ⟨(takS s x).1.num, u, v, (takS s x).1.pays, s.holds⟩ := by
  obtain ⟨h0, e, hm, h5, h6, h7⟩ := takS_gd h
  obtain ⟨hr, hpl, hh, htot⟩ := mayS_t h0.1
  obtain ⟨ok1, ok2, ok3, ok4, ok5, ok6, ok7⟩ := id hs
  have hto : total s = s.h0 + s.h1 + sumP s.pays + sumH s.holds := rfl
  rw [e]
  show Gd s ⟨s.num + 1, u, v, delA Pay.id s.pays x, s.holds⟩
  have hsub := delA_sub Pay.id s.pays x
  exact gd_mk h0 (by omega) (by omega) (payL_sub hpl hsub) hh (fun p hp => ok4 p (hsub.subset hp)) ok5 (by omega) (by omega)
theorem falS_gd {s : Sta} {x : Int} (hs : s.ok) (h : (falS s x).2 = 0) : Gd s (falS s x).1 := by
  unfold falS at h ⊢
  split at h
  · rename_i h1; exact absurd h h1
  rename_i h1
  rw [if_neg h1]
  have ht : (takS s x).2.2 = 0 := Classical.not_not.1 h1
  obtain ⟨_, _, _, _, _, h7⟩ := takS_gd ht
  exact back_gd hs ht (by split <;> omega) (by split <;> omega) (by split <;> omega)
theorem setS_gd {s : Sta} {x : Int} {b : List UInt8} (hs : s.ok) (h : (setS s x b).2 = 0) : Gd s (setS s x b).1 := by
  unfold setS at h ⊢
  split at h
  · rename_i h1; exact absurd h h1
  rename_i h1
  rw [if_neg h1]
  split at h
  · simp at h
  rename_i h2
  rw [if_neg h2]
  have ht : (takS s x).2.2 = 0 := Classical.not_not.1 h1
  obtain ⟨_, _, _, _, _, h7⟩ := takS_gd ht
  exact back_gd hs ht (by split <;> omega) (by split <;> omega) (by split <;> omega)
theorem keeS_gd {s : Sta} {who : Int} {q : Hol} (hs : s.ok) (hq : q.ok) (h : (keeS s who q).2 = 0) : Gd s (keeS s who q).1 := by
  unfold keeS at h ⊢
  split at h
  · simp at h
  rename_i h1
  have h0 := nxt_zero h1
  obtain ⟨hr, hpl, hh, htot⟩ := mayS_t h0.1
  obtain ⟨ok1, ok2, ok3, ok4, ok5, ok6, ok7⟩ := id hs
  obtain ⟨q1, q2, _⟩ := holL_iff.1 hh
  have hto : total s = s.h0 + s.h1 + sumP s.pays + sumH s.holds := rfl
  rw [if_neg h1]
  split at h
  · simp at h
  rename_i c1
  split at h
  · simp at h
  rename_i c2
  split at h
  · simp at h
  rename_i c3
  split at h
  · simp at h
  rename_i c4
  split at h
  · simp at h
  rename_i c5
  split at h
  · simp at h
  rename_i c6
  rw [if_neg c1, if_neg c2, if_neg c3, if_neg c4, if_neg c5, if_neg c6]
  have hm : mayH q = true := by simpa using c3
  have hf : fndI (s.holds.map Hol.id) q.id = false := by simpa using c4
  have hs1 : sumH (insA Hol.id s.holds q) = sumH s.holds + q.am := sum_ins Hol.id (·.am) s.holds q
  have hl1 : (insA Hol.id s.holds q).length = s.holds.length + 1 := len_ins Hol.id s.holds q
  have hpi : holL none (insA Hol.id s.holds q) = true := holL_iff.2 ⟨fun b hb => by
      rcases mem_ins (f := Hol.id) hb with rfl | hb
      · exact hm
      · exact q1 b hb, by
      rw [map_ins]
      exact pw_ins q2 hf, fun q hq => by simp at hq⟩
  unfold sideS at c6
  refine gd_mk h0 ?_ ?_ hpl hpi ok4 ?_ (by omega) ?_
  · split
    · rename_i e; rw [if_pos e] at c6; omega
    · omega
  · split
    · omega
    · rename_i e; rw [if_neg e] at c6; omega
  · intro b hb
    rcases mem_ins (f := Hol.id) hb with rfl | hb
    · exact hq
    · exact ok5 b hb
  · rw [hs1]; split <;> omega
theorem freS_gd {s : Sta} {x a : Int} (hs : s.ok) (h : (freS s x a).2 = 0) : Gd s (freS s x a).1 := by
  unfold freS at h ⊢
  split at h
  · simp at h
  rename_i h1
  have h0 := nxt_zero h1
  obtain ⟨hr, hpl, hh, htot⟩ := mayS_t h0.1
  obtain ⟨ok1, ok2, ok3, ok4, ok5, ok6, ok7⟩ := id hs
  have hto : total s = s.h0 + s.h1 + sumP s.pays + sumH s.holds := rfl
  rw [if_neg h1]
  split at h
  · simp at h
  rename_i b hb
  split at h
  · simp at h
  rename_i c1
  split at h
  · simp at h
  rename_i c2
  rw [if_neg c1, if_neg c2]
  have hsub := delA_sub Hol.id s.holds x
  have e : sumH (delA Hol.id s.holds x) = sumH s.holds - b.am := sum_del (f := Hol.id) (·.am) hb
  have hl := len_del (f := Hol.id) hb
  exact gd_mk h0 (by omega) (by omega) hpl (holL_sub hh hsub) ok4 (fun p hp => ok5 p (hsub.subset hp)) (by omega) (by omega)

end Go.Proofs.YtpohjnhlhfbnaaaDoor
