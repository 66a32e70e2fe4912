import Derived.Test.YtpohjnhlhfbnaaaState2
namespace Go.Proofs.Ytpohjnhlhfbnaaa
open Go Go.EW
set_option linter.unusedSimpArgs false
set_option linter.unusedVariables false

@[simp] def l_cloneP_1 (_ : Unit) : List EOp := [⟨0, (some 2), none, (.q (.mov (.k (.slice none 0 0)))), []⟩]
@[simp] def b_cloneP_2 (_ : Unit) : EB := reg0 (hid l_cloneP_1) 1
@[simp] def l_cloneP_3 (_ : Unit) : List EOp := [⟨0, (some 3), none, (.q (.mov (.t 0))), []⟩, ⟨1, (some 4), none, (.nild false (.t 3)), []⟩]
@[simp] def b_cloneP_4 (_ : Unit) : EB := reg0 (hid l_cloneP_3) 2
@[simp] def l_cloneP_5 (_ : Unit) : List EOp := [⟨0, (some 2), none, (.q (.mov (.k (.slice none 0 0)))), []⟩]
@[simp] def b_cloneP_6 (_ : Unit) : EB := reg0 (hid l_cloneP_5) 1
@[simp] def b_cloneP_7 (_ : Unit) : EB := .seq (hid b_cloneP_6) .ret
@[simp] def b_cloneP_8 (_ : Unit) : EB := .cond (.t 4) (hid b_cloneP_7) .skip
@[simp] def b_cloneP_9 (_ : Unit) : EB := .seq (hid b_cloneP_4) (hid b_cloneP_8)
@[simp] def l_cloneP_10 (_ : Unit) : List EOp := [⟨0, (some 5), none, (.q (.bsr 42 36 (([(.int .i64 0), (.int .i64 0), (.int .i64 0), (.int .i64 0)] : List Value) ++ zU8) 0 [])), []⟩, ⟨1, (some 6), none, (.q (.mov (.t 0))), []⟩, ⟨2, (some 7), none, (.app 42 36 64 (.t 5) (.t 6)), []⟩, ⟨3, (some 2), none, (.q (.mov (.t 7))), []⟩]
@[simp] def b_cloneP_11 (_ : Unit) : EB := reg0 (hid l_cloneP_10) 4
@[simp] def b_cloneP_12 (_ : Unit) : EB := .seq (hid b_cloneP_11) .ret
@[simp] def b_cloneP_13 (_ : Unit) : EB := .seq (hid b_cloneP_9) (hid b_cloneP_12)
@[simp] def b_cloneP_14 (_ : Unit) : EB := .seq (hid b_cloneP_2) (hid b_cloneP_13)
def c_cloneP : EB × List QOp × Nat := ((hid b_cloneP_14), [(.mov (.t 2))], 8)
theorem k_cloneP : cfun Try.prog 19 = some c_cloneP := by kernel_rfl

@[simp] def l_cloneH_1 (_ : Unit) : List EOp := [⟨0, (some 2), none, (.q (.mov (.k (.slice none 0 0)))), []⟩]
@[simp] def b_cloneH_2 (_ : Unit) : EB := reg0 (hid l_cloneH_1) 1
@[simp] def l_cloneH_3 (_ : Unit) : List EOp := [⟨0, (some 3), none, (.q (.mov (.t 0))), []⟩, ⟨1, (some 4), none, (.nild false (.t 3)), []⟩]
@[simp] def b_cloneH_4 (_ : Unit) : EB := reg0 (hid l_cloneH_3) 2
@[simp] def l_cloneH_5 (_ : Unit) : List EOp := [⟨0, (some 2), none, (.q (.mov (.k (.slice none 0 0)))), []⟩]
@[simp] def b_cloneH_6 (_ : Unit) : EB := reg0 (hid l_cloneH_5) 1
@[simp] def b_cloneH_7 (_ : Unit) : EB := .seq (hid b_cloneH_6) .ret
@[simp] def b_cloneH_8 (_ : Unit) : EB := .cond (.t 4) (hid b_cloneH_7) .skip
@[simp] def b_cloneH_9 (_ : Unit) : EB := .seq (hid b_cloneH_4) (hid b_cloneH_8)
@[simp] def l_cloneH_10 (_ : Unit) : List EOp := [⟨0, (some 5), none, (.q (.bsr 49 3 [(.int .i64 0), (.int .i64 0), (.slice none 0 0)] 0 [])), []⟩, ⟨1, (some 6), none, (.q (.mov (.t 0))), []⟩, ⟨2, (some 7), none, (.app 49 3 40 (.t 5) (.t 6)), []⟩, ⟨3, (some 2), none, (.q (.mov (.t 7))), []⟩]
@[simp] def b_cloneH_11 (_ : Unit) : EB := reg0 (hid l_cloneH_10) 4
@[simp] def b_cloneH_12 (_ : Unit) : EB := .seq (hid b_cloneH_11) .ret
@[simp] def b_cloneH_13 (_ : Unit) : EB := .seq (hid b_cloneH_9) (hid b_cloneH_12)
@[simp] def b_cloneH_14 (_ : Unit) : EB := .seq (hid b_cloneH_2) (hid b_cloneH_13)
def c_cloneH : EB × List QOp × Nat := ((hid b_cloneH_14), [(.mov (.t 2))], 8)
theorem k_cloneH : cfun Try.prog 20 = some c_cloneH := by kernel_rfl

@[simp] def l_cloneI_1 (_ : Unit) : List EOp := [⟨0, (some 2), none, (.q (.mov (.k (.slice none 0 0)))), []⟩]
@[simp] def b_cloneI_2 (_ : Unit) : EB := reg0 (hid l_cloneI_1) 1
@[simp] def l_cloneI_3 (_ : Unit) : List EOp := [⟨0, (some 3), none, (.q (.mov (.t 0))), []⟩, ⟨1, (some 4), none, (.nild false (.t 3)), []⟩]
@[simp] def b_cloneI_4 (_ : Unit) : EB := reg0 (hid l_cloneI_3) 2
@[simp] def l_cloneI_5 (_ : Unit) : List EOp := [⟨0, (some 2), none, (.q (.mov (.k (.slice none 0 0)))), []⟩]
@[simp] def b_cloneI_6 (_ : Unit) : EB := reg0 (hid l_cloneI_5) 1
@[simp] def b_cloneI_7 (_ : Unit) : EB := .seq (hid b_cloneI_6) .ret
@[simp] def b_cloneI_8 (_ : Unit) : EB := .cond (.t 4) (hid b_cloneI_7) .skip
@[simp] def b_cloneI_9 (_ : Unit) : EB := .seq (hid b_cloneI_4) (hid b_cloneI_8)
@[simp] def l_cloneI_10 (_ : Unit) : List EOp := [⟨0, (some 5), none, (.q (.bsr 3 1 [(.int .i64 0)] 0 [])), []⟩, ⟨1, (some 6), none, (.q (.mov (.t 0))), []⟩, ⟨2, (some 7), none, (.app 3 1 8 (.t 5) (.t 6)), []⟩, ⟨3, (some 2), none, (.q (.mov (.t 7))), []⟩]
@[simp] def b_cloneI_11 (_ : Unit) : EB := reg0 (hid l_cloneI_10) 4
@[simp] def b_cloneI_12 (_ : Unit) : EB := .seq (hid b_cloneI_11) .ret
@[simp] def b_cloneI_13 (_ : Unit) : EB := .seq (hid b_cloneI_9) (hid b_cloneI_12)
@[simp] def b_cloneI_14 (_ : Unit) : EB := .seq (hid b_cloneI_2) (hid b_cloneI_13)
def c_cloneI : EB × List QOp × Nat := ((hid b_cloneI_14), [(.mov (.t 2))], 8)
theorem k_cloneI : cfun Try.prog 21 = some c_cloneI := by kernel_rfl


theorem mayS_t {s : Sta} (h : mayS s = true) : (0 ≤ s.num ∧ s.num ≤ 1099511627776 ∧ 0 ≤ s.h0 ∧ s.h0 ≤ 1125899906842624 ∧ 0 ≤ s.h1 ∧ s.h1 ≤ 1125899906842624 ∧ s.pays.length ≤ 8 ∧ s.holds.length + s.pays.length ≤ 8) ∧ payL none s.pays = true ∧ holL none s.holds = true ∧ total s ≤ 1125899906842624 := by
  simp only [mayS, Bool.and_eq_true, decide_eq_true_eq] at h
  exact ⟨h.1.1.1, h.1.1.2, h.1.2, h.2⟩
theorem payL_am : ∀ {o : Option Int} {l : List Pay}, payL o l = true → ∀ p ∈ l, 10 ≤ p.am ∧ p.am ≤ 1125899906842624
  | _, [], _, p, hp => by simp at hp
  | o, q :: r, h, p, hp => by
    simp only [payL, Bool.and_eq_true] at h
    rcases List.mem_cons.1 hp with rfl | hp
    · exact mayP_am h.1.1
    · exact payL_am h.2 p hp
theorem holL_am : ∀ {o : Option Int} {l : List Hol}, holL o l = true → ∀ p ∈ l, 10 ≤ p.am ∧ p.am ≤ 1125899906842624
  | _, [], _, p, hp => by simp at hp
  | o, q :: r, h, p, hp => by
    simp only [holL, Bool.and_eq_true] at h
    rcases List.mem_cons.1 hp with rfl | hp
    · exact mayH_am h.1.1
    · exact holL_am h.2 p hp
def totS (s : Sta) : Int := if mayS s = true then total s else 0

theorem cloneP_ok (l : List Pay) (hl : l.length ≤ 100000000) : ECalls Try.prog 19 [PL l] [] fun y H' => H' = [some (.row 42 36 (payv l))] ∧ y = .v (.c (.row 0 l.length)) := by
  refine ecalls k_cloneP ?_
  simp [c_cloneP, PL]
  refine both (fun h => ?_) (fun _ => ?_)
  · simp
    refine finW _ (weak_nilR 2 42 36 rfl (by omega)) ?_
    have hn : l = [] := by cases l <;> simp_all
    subst hn
    exact fin [64] (by decide) rfl rfl rfl ⟨rfl, rfl⟩
  · simp
    exact ⟨by omega, fin [80] (by decide) rfl rfl rfl ⟨rfl, by simp⟩⟩

theorem cloneH_ok (l : List Hol) (hl : l.length ≤ 100000000) : ECalls Try.prog 20 [HL l] [] fun y H' => H' = [some (.row 49 3 (holv l))] ∧ y = .v (.c (.row 0 l.length)) := by
  refine ecalls k_cloneH ?_
  simp [c_cloneH, HL]
  refine both (fun h => ?_) (fun _ => ?_)
  · simp
    refine finW _ (weak_nilR 2 49 3 rfl (by omega)) ?_
    have hn : l = [] := by cases l <;> simp_all
    subst hn
    exact fin [64] (by decide) rfl rfl rfl ⟨rfl, rfl⟩
  · simp
    exact ⟨by omega, fin [80] (by decide) rfl rfl rfl ⟨rfl, by simp⟩⟩

theorem cloneI_ok (l : List Int) (hl : l.length ≤ 100000000) : ECalls Try.prog 21 [IL l] [] fun y H' => H' = [some (.row 3 1 (intv l))] ∧ y = .v (.c (.row 0 l.length)) := by
  refine ecalls k_cloneI ?_
  simp [c_cloneI, IL]
  refine both (fun h => ?_) (fun _ => ?_)
  · simp
    refine finW _ (weak_nilR 2 3 1 rfl (by omega)) ?_
    have hn : l = [] := by cases l <;> simp_all
    subst hn
    exact fin [64] (by decide) rfl rfl rfl ⟨rfl, rfl⟩
  · simp
    exact ⟨by omega, fin [80] (by decide) rfl rfl rfl ⟨rfl, by simp⟩⟩

end Go.Proofs.Ytpohjnhlhfbnaaa
