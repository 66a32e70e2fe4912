/- EncOrder: of two rows of things of the same kinds the one whose bytes come first is the one that has the smaller thing at the first place at which they differ. Condition: what the arguments read as is of bulk at most 1048576. -/
import Derived.Test.YtbbcofojjgofmaaEncO
import Derived.Test.YtbbcofojjgofmaaOrdW
namespace Go.Proofs.Ytbbcofojjgofmaa.encOrder
open Go Go.EW Go.ChangeShapes Go.WideShapes Go.ChangeAt Go.RowKit
set_option linter.unusedVariables false

theorem own : ownKnob Try.prog.godebug = none := by kernel_rfl
theorem sum_len : ∀ (l : List Th), sumB thS l + 1 ≤ 1048576 → ∀ x ∈ l, x.b.length ≤ 1048576
  | [], _, _, h => by simp at h
  | y :: r, hs, x, h => by
    simp only [sumB] at hs
    rcases List.mem_cons.1 h with rfl | h
    · have : thS x = x.b.length := rfl
      omega
    · exact sum_len r (by omega) x h

set_option maxRecDepth 100000 in
theorem contract (H : Type) (enc : TypeId × Value → H) (W : World) (base : Nat) (args : Array Value) (ds gs : List (DataW H)) (before : List MemPlace)
    (hval : ∀ (j : Nat) t v, Try.f4.params[j]? = some t → args[j]? = some v → Value.okWide Try.prog W .any base t v)
    (hW : DataW.Whole enc Try.prog Try.f4.params.toList Rows.encOrderSpec.vars false W args.toList ds gs before) (hk : Rows.uptoSmall H (ds ++ gs) = true) :
    Calls Try.prog 4 args W fun e W' => ∃ v, e = .returned v ∧ Rows.encOrderSpec.post enc Try.prog Try.f4 false true false false W args v W' := by
  have hW' := hW
  obtain ⟨p, q, hA0, hV, rfl, hfz, hnd⟩ := hW
  have hA : DataW.TrodAll enc Try.prog W 0 (fun _ => true) true Try.f4.params.toList args.toList ds p := hA0
  rw [Try.params4] at hA hval
  obtain ⟨v0, vs0, d0, ds0, p0, q0, hargs, rfl, rfl, ⟨n0, h0⟩, r0⟩ := trodAll_cons hA
  obtain ⟨v1, vs1, d1, ds1, p1, q1, rfl, rfl, rfl, ⟨n1, h1⟩, r1⟩ := trodAll_cons r0
  obtain ⟨v2, vs2, d2, ds2, p2, q2, rfl, rfl, rfl, ⟨n2, h2⟩, r2⟩ := trodAll_cons r1
  obtain ⟨rfl, rfl, rfl⟩ := trodAll_nil r2
  obtain rfl : args = #[v0, v1, v2] := by cases args; simp_all
  obtain ⟨rfl, rfl⟩ := trodVars_none hV
  obtain ⟨l, ⟨hl, hln⟩, hb, hr⟩ := opn_ths H enc W _ _ _ _ _ _ h0
  obtain ⟨k, ⟨hk2, hkn⟩, hb2, hr2⟩ := opn_ths H enc W _ _ _ _ _ _ h1
  obtain ⟨a, _, _, hr3⟩ := opn_i64 H enc W _ _ _ _ _ _ h2
  have hbb : sumB thS l + 1 ≤ 1048576 ∧ sumB thS k + 1 ≤ 1048576 := by
    have h1 := of_decide_eq_true hk
    simp only [List.append_nil, Rows.uptoBulkAll] at h1
    have h2 : sumB thS l + 1 ≤ Rows.uptoBulk d0 := hb
    have h3 : sumB thS k + 1 ≤ Rows.uptoBulk d1 := hb2
    omega
  have ok1 := (ths_ok hl (by omega)).1
  have ok2 := (ths_ok hk2 (by omega)).1
  have a0 := arg_c (hval 0 22 v0 rfl rfl) (by rw [Try.underlying22]; simp) (by rw [Try.underlying22]; simp) hr
  have a1 := arg_c (hval 1 22 v1 rfl rfl) (by rw [Try.underlying22]; simp) (by rw [Try.underlying22]; simp) hr2
  have a2 := arg_c (hval 2 3 v2 rfl rfl) (by rw [Try.underlying3]; simp) (by rw [Try.underlying3]; simp) hr3
  exact row_true kids full hW' rfl rfl rfl rfl (tb := 4) (by kernel_rfl) Try.underlying4 (by rw [Try.params4]; decide +kernel) (fun g cs h => by simp [gcells] at h) (All2.cons a0 (All2.cons a1 (All2.cons a2 All2.nil))) (EncOrder_ok l k a ok1 ok2)

set_option maxRecDepth 100000 in
theorem lifted (os : Os) (started : os.Started) (H : Type) (enc : TypeId × Value → H) (F : Stop.Interp) :
    ReturnsInHanded {} Try.checked os 4 .any ((Rows.OpenSpec.upto Rows.encOrderSpec).pre6 enc Try.prog Try.f4 Rows.encOrderUptoRow.domain false) (((Rows.OpenSpec.upto Rows.encOrderSpec).at F).post enc Try.prog Try.f4 false true false false) := by
  refine returnsInHanded_of_cond (C := Try.checked) (s := Rows.OpenSpec.upto Rows.encOrderSpec) (k := Rows.uptoSmall) rfl own started (by kernel_rfl) Try.func4
    (OpenSpec.witness (enc := enc) (C := Try.checked) (s := Rows.OpenSpec.upto Rows.encOrderSpec) (k := Rows.uptoSmall) rfl false ⟨#[], #[.slice none 0 0, .slice none 0 0, .int .i64 0], []⟩ 8 (by kernel_rfl) (by kernel_rfl) (by kernel_rfl)
      (x := ([.nil, .nil, .lit (.int .i64 0)], [], [])) (by kernel_rfl) rfl (by kernel_rfl)) ?_
  intro W base args ds gs before hval hW _ hk _
  exact contract H enc W base args ds gs before hval hW hk

theorem proved : Rows.EncOrderUptoSaid :=
  OpenClaim.holds_of_cond 4 Try.f4 rfl rfl rfl rfl rfl rfl rfl ⟨rfl, rfl, rfl, rfl, rfl⟩ rfl rfl rfl rfl rfl (by kernel_rfl) Try.func4 (by kernel_rfl)
    (of_decide_eq_true (by kernel_rfl)) (by unfold Func.isWrapper; first | (rw [if_pos (by decide +kernel)]; kernel_rfl) | (rw [if_neg (by decide +kernel)]; exact ⟨rfl, rfl⟩))
    (fun os started H enc _ F => lifted os started H enc F)

end Go.Proofs.Ytbbcofojjgofmaa.encOrder
