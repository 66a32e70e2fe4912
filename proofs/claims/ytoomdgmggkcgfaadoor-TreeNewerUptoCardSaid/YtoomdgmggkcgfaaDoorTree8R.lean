import Derived.Test.YtoomdgmggkcgfaaDoorTree8
namespace Go.Proofs.YtoomdgmggkcgfaaDoor
open Go Go.EW
set_option linter.unusedSimpArgs false
set_option linter.unusedVariables false

/-! ### a row of one's own handed to Next: it stays as it is -/
set_option maxRecDepth 8000 in
set_option maxHeartbeats 8000000 in
theorem TNext_okR (c : Cfg) (p : List Int) (hc : c.ok) (hl : p.length ≤ 100000000) : ECalls Tryd.prog 12 [CV c, IR 0 p] [IO p] fun y H' => H' = [some (IO p)] ∧ y = PE (nextT c p) := by
  have h32 := hc.1
  have t40 := tk40 h32
  refine ecalls k_TNext ?_
  have tki : List.take p.length (intv p) = intv p := List.take_of_length_le (by simp)
  simp [c_TNext, CV, cfgC, cfgT, IR, IO, h32, t40]
  refine call0 (Thas_ok c p hc hl) (by simp [CV, cfgC, cfgT, IL, tki]) ?_
  rintro y H' ⟨rfl, rfl⟩
  refine ⟨.inr ⟨rfl, by simp⟩, le_ok rfl, ?_⟩
  by_cases hk : hasT c p = 0
  rotate_left
  · have hh : nextT c p = ([], hasT c p) := by simp [nextT, hk]
    rw [hh]
    simp [hk, EV.lit]
    refine finW _ (weak_nilF 4 1 rfl) ?_
    exact fin [] (by decide) rfl rfl rfl ⟨by simp [IO], rfl⟩
  obtain ⟨hk0, hkd, hko⟩ := has_all hk
  obtain ⟨hR, hA, -, -⟩ := chk_okR hk0
  have hvb := vers_b hR hA
  obtain ⟨r1, r2, r3, r4, r5, r6, r7⟩ := id hR
  have wl : IntKind.i64.wrap ((p.length : Int) - 1) = (p.length : Int) - 1 := wrap_i64 (by omega) (by omega)
  simp [hk, EV.lit, h32]
  refine call0 (TClone_ok p hl) (by simp [IL, tki]) ?_
  rintro y H' ⟨rfl, rfl⟩
  refine ⟨.inr ⟨rfl, by simp [IO, t40, noSlO, intv]⟩, le_ok rfl, ?_⟩
  simp [IR, IO, I, wl]
  have e0 : intv p = intv (upTo p.length (fun j => if j < p.length then (p[j]?).getD 0 else c.fst)) := by
    congr 1
    refine (upTo_self p).symm.trans (upTo_eq (fun j hj => ?_))
    simp [hj]
  refine eloop (α := Nat) (fun k => k ≤ p.length ∧ lastT c p p.length = lastT c p k) (fun k => k)
    (fun k => [.any, .any, Ptr 1, .any, .any, .any, .any, .v (.c (.row 2 p.length)), I .i64 ((k : Int) - 1), .any, .any, .any, .any, .any, .any, .any, .any, .any, .any, .any, .any, .any, .any, .any, .any, .any, .any, .any, .any, .any, .any, .any, .any, .any, .any, .any, .any, .any, .any, .any, .any, .any, .any, .any, .any, .any, .any, .any]) (fun k => [some (.row 3 1 (intv p)), some (.box 31 (cfgC c)), some (.row 3 1 (intv (upTo p.length (fun j => if j < k then (p[j]?).getD 0 else c.fst))))]) p.length [0, 1, 161]
    ⟨Nat.le_refl _, rfl⟩ (by simp [I, IL, Ptr]) (by rw [← e0]; simp [cfgC, cfgT]) (by simp) (by simp) (by simp) ?_
  rintro k ⟨hi, hla⟩
  rcases k with _ | m
  · have hh : nextT c p = ([], 30) := by simp [nextT, hk, hla, lastT]
    rw [hh]
    simp [I, IL, Ptr, cfgC, cfgT, h32]
    refine finW _ (weak_nilF 4 1 rfl) ?_
    exact fin [] (by decide) rfl rfl rfl ⟨by simp [IO], rfl⟩
  · have hlt : m < p.length := by omega
    obtain ⟨x, hx⟩ : ∃ x, p[m]? = some x := ⟨p[m], by simp [hlt]⟩
    have ho := hko x (List.mem_of_getElem? hx)
    obtain ⟨d1, d2, d3, d4, d5⟩ := dT_eq hR ho
    obtain ⟨o1, o2, o3⟩ := ok_of_odd ho
    have em : (((m + 1 : Nat) : Int) - 1) = (m : Int) := by omega
    have hg : (intv (upTo p.length (fun j => if j < m + 1 then (p[j]?).getD 0 else c.fst)))[m]? = some [.lit (.int .i64 x)] := intv_get (by rw [upTo_get _ (by omega)]; simp [hx])
    have h0 : ¬ ((m : Int) < 0) := by omega
    have hs1 : ∀ x', (intv (upTo p.length (fun j => if j < m + 1 then (p[j]?).getD 0 else c.fst))).set m [.lit (.int .i64 x')] = intv (upTo p.length (fun j => if j = m then x' else if j < m + 1 then (p[j]?).getD 0 else c.fst)) := fun x' => upTo_set _ _ _ (fun j hj => rfl)
    obtain ⟨R, hR0⟩ : ∃ R, upTo p.length (fun j => if j < m + 1 then (p[j]?).getD 0 else c.fst) = R := ⟨_, rfl⟩
    have hRl : R.length = p.length := by rw [← hR0]; exact upTo_len _ _
    rw [hR0] at hg hs1
    have hg2 : ∀ h, (intv R)[m]'h = [.lit (.int .i64 x)] := fun h => by
      have := hg
      rw [List.getElem?_eq_getElem h] at this
      exact Option.some.inj this
    simp only [em, hR0]
    simp [I, IL, Ptr, cfgC, cfgT, h32, hg, hg2, hRl, hlt, h0]
    refine call0 (Tused_ok c x hc hR ⟨o1, o2⟩) (by simp [CV, cfgC, cfgT, I, t40]) ?_
    rintro y H' ⟨rfl, rfl⟩
    refine ⟨.inl (by simp [t40]), le_ok rfl, ?_⟩
    simp [I, h32, t40]
    refine call0 (Tvers_ok c hc hR) (by simp [CV, cfgC, cfgT, t40]) ?_
    rintro y H' ⟨rfl, rfl⟩
    refine ⟨.inl (by simp [t40]), le_ok rfl, ?_⟩
    by_cases hd : (c.fst - x) / c.stp < versT c
    · have hle : c.lst ≤ (p[m]?).getD 0 - c.stp := by
        rw [hx]
        simp only [Option.getD_some]
        have : ¬ (x - c.stp < c.lst) := fun h => by have := d5.2 h; omega
        omega
      have hla2 : lastT c p p.length = m := by rw [hla]; simp [lastT, hle]
      have hh : nextT c p = (upTo p.length (nxT c p m), 0) := by simp only [nextT, hk, hla2]; simp [h0]
      have ws : IntKind.i64.wrap (x - c.stp) = x - c.stp := wrap_i64 (by omega) (by omega)
      rw [hh]
      simp [I, hd, hg, hg2, hlt, h0, h32, t40, ws, hRl, hs1, -errV_0]
      have e1 : upTo p.length (fun j => if j = m then x - c.stp else if j < m + 1 then (p[j]?).getD 0 else c.fst) = upTo p.length (nxT c p m) := by
        refine upTo_eq (fun j hj => ?_)
        unfold nxT
        by_cases h1 : j = m
        · subst h1; simp [hx]
        · by_cases h2 : j < m
          · rw [if_neg h1, if_pos (by omega), if_pos (by omega)]
          · rw [if_neg h1, if_neg (by omega), if_neg (by omega), if_neg (by omega)]
      rw [e1]
      refine finW _ (weak_frz (o := 2) (ty := 3) (es := 1) (xs := intv (upTo p.length (nxT c p m))) rfl) ?_
      exact fin [] (by decide) rfl rfl rfl ⟨by simp [IO, fzEO], by simp [PE, List.take_of_length_le, upTo_len]⟩
    · have hle : ¬ c.lst ≤ (p[m]?).getD 0 - c.stp := by
        rw [hx]
        simp only [Option.getD_some]
        have : (x - c.stp < c.lst) := d5.1 (by omega)
        omega
      have hla2 : lastT c p p.length = lastT c p m := by rw [hla]; simp [lastT, hle]
      have wi : IntKind.i64.wrap ((m : Int) - 1) = (m : Int) - 1 := wrap_i64 (by omega) (by omega)
      simp [I, hd, hg, hg2, hlt, h0, h32, t40, wi, hRl, hs1]
      have e2 : upTo p.length (fun j => if j = m then c.fst else if j < m + 1 then (p[j]?).getD 0 else c.fst) = upTo p.length (fun j => if j < m then (p[j]?).getD 0 else c.fst) := by
        refine upTo_eq (fun j hj => ?_)
        by_cases h1 : j = m
        · subst h1; simp
        · by_cases h2 : j < m
          · rw [if_neg h1, if_pos (by omega), if_pos (by omega)]
          · rw [if_neg h1, if_neg (by omega), if_neg (by omega)]
      rw [e2]
      exact round m [0, 1, 2] ⟨by omega, hla2⟩ (by omega) (by simp) (by simp) (by simp) (by simp) (by simp)

end Go.Proofs.YtoomdgmggkcgfaaDoor
