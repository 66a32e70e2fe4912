import Derived.Test.YtejjhgdnmknejaaVirA
namespace Go.Proofs.Ytejjhgdnmknejaa
open Go Go.EW
set_option linter.unusedSimpArgs false
set_option linter.unusedVariables false

@[simp] def l_Vparty_1 (_ : Unit) : List EOp := [⟨0, (some 2), none, (.q (.mov (.k (.bool false)))), []⟩]
@[simp] def b_Vparty_2 (_ : Unit) : EB := reg0 (hid l_Vparty_1) 1
@[simp] def l_Vparty_4 (_ : Unit) : List EOp := [⟨6, (some 2), none, (.q (.mov (.t 8))), []⟩]
@[simp] def l_Vparty_3 (_ : Unit) : List EOp := ⟨0, (some 3), none, (.q (.mov (.t 0))), []⟩ :: ⟨1, (some 4), none, (.q (.bin .geq (.t 3) (.k (.int .i64 0)))), []⟩ :: ⟨2, (some 5), none, (.q (.mov (.t 4))), []⟩ :: ⟨3, (some 6), (some (5, true)), (.q (.mov (.t 0))), []⟩ :: ⟨4, (some 7), (some (5, true)), (.q (.bin .lss (.t 6) (.k (.int .i64 16)))), []⟩ :: ⟨5, (some 8), none, (.q (.pick (.t 5) (.t 7) (.k (.bool false)))), []⟩ :: hid l_Vparty_4
@[simp] def b_Vparty_5 (_ : Unit) : EB := reg0 (hid l_Vparty_3) 7
@[simp] def b_Vparty_6 (_ : Unit) : EB := .seq (hid b_Vparty_5) .ret
@[simp] def b_Vparty_7 (_ : Unit) : EB := .seq (hid b_Vparty_2) (hid b_Vparty_6)
def c_Vparty : EB × List QOp × Nat := ((hid b_Vparty_7), [(.mov (.t 2))], 9)
theorem k_Vparty : cfun Try.prog 17 = some c_Vparty := by kernel_rfl

@[simp] def l_Vof_1 (_ : Unit) : List EOp := [⟨0, (some 3), none, (.q (.box 30 (.t 0))), []⟩, ⟨1, (some 6), none, (.q (.mov (.k (.bool false)))), []⟩]
@[simp] def b_Vof_2 (_ : Unit) : EB := reg0 (hid l_Vof_1) 2
@[simp] def l_Vof_5 (_ : Unit) : List EOp := [⟨12, (some 19), (some (13, false)), (.q (.eqa false 2 .i64 (.t 15) (.t 18))), []⟩, ⟨13, (some 20), none, (.q (.pick (.t 13) (.k (.bool true)) (.t 19))), []⟩, ⟨14, (some 6), none, (.q (.mov (.t 20))), []⟩]
@[simp] def l_Vof_4 (_ : Unit) : List EOp := ⟨6, (some 13), none, (.q (.mov (.t 12))), []⟩ :: ⟨7, (some 14), (some (13, false)), (.q (.fad 34 (.t 3))), []⟩ :: ⟨8, (some 15), (some (13, false)), (.q (.lda 2 (.t 14))), []⟩ :: ⟨9, (some 16), (some (13, false)), (.q (.mov (.t 2))), []⟩ :: ⟨10, (some 17), (some (13, false)), (.q (.mov (.t 1))), []⟩ :: ⟨11, (some 18), (some (13, false)), (.q (.build [(.int .i64 0), (.int .i64 0)] [(0, 1, (.t 16)), (1, 1, (.t 17))])), []⟩ :: hid l_Vof_5
@[simp] def l_Vof_3 (_ : Unit) : List EOp := ⟨0, (some 7), none, (.q (.fad 34 (.t 3))), []⟩ :: ⟨1, (some 8), none, (.q (.lda 2 (.t 7))), []⟩ :: ⟨2, (some 9), none, (.q (.mov (.t 1))), []⟩ :: ⟨3, (some 10), none, (.q (.mov (.t 2))), []⟩ :: ⟨4, (some 11), none, (.q (.build [(.int .i64 0), (.int .i64 0)] [(0, 1, (.t 9)), (1, 1, (.t 10))])), []⟩ :: ⟨5, (some 12), none, (.q (.eqa false 2 .i64 (.t 8) (.t 11))), []⟩ :: hid l_Vof_4
@[simp] def b_Vof_6 (_ : Unit) : EB := reg0 (hid l_Vof_3) 15
@[simp] def b_Vof_7 (_ : Unit) : EB := .seq (hid b_Vof_6) .ret
@[simp] def b_Vof_8 (_ : Unit) : EB := .seq (hid b_Vof_2) (hid b_Vof_7)
def c_Vof : EB × List QOp × Nat := ((hid b_Vof_8), [(.mov (.t 6))], 21)
theorem k_Vof : cfun Try.prog 18 = some c_Vof := by kernel_rfl


/-! ### routes -/
structure Prm where
  tx : List UInt8
  n : Int
  am : Int
  k0 : Int
  k1 : Int
  dl : Int
  fe : Int
structure Rte where
  f : Prm
  s : Prm
  a : Int
  b : Int
  c : Int
  am : Int
  fe : Int
def iC (n : Int) : EC := .fz (.lit (.int .i64 n))
def prmC (p : Prm) : List EC := hc p.tx ++ [iC p.n, iC p.am, iC p.k0, iC p.k1, iC p.dl, iC p.fe]
def rteC (r : Rte) : List EC := prmC r.f ++ (prmC r.s ++ [iC r.a, iC r.b, iC r.c, iC r.am, iC r.fe])
def PVv (p : Prm) : EV := .v (.agg (prmC p))
def RVv (r : Rte) : EV := .v (.agg (rteC r))
def Prm.ok (p : Prm) : Prop := p.tx.length = 32 ∧ i64 p.n ∧ i64 p.am ∧ i64 p.k0 ∧ i64 p.k1 ∧ i64 p.dl ∧ i64 p.fe
def Rte.ok (r : Rte) : Prop := r.f.ok ∧ r.s.ok ∧ i64 r.a ∧ i64 r.b ∧ i64 r.c ∧ i64 r.am ∧ i64 r.fe
section
variable {p : Prm} (h : p.tx.length = 32)
include h
theorem prmC_len : (prmC p).length = 38 := by simp [prmC, hc_len, h]
theorem pm_take : (prmC p).take 38 = prmC p := List.take_of_length_le (by rw [prmC_len h]; omega)
theorem pm_d34 : ((prmC p).drop 34).take 2 = [iC p.k0, iC p.k1] := by
  have e : (hc p.tx).length = 32 := by rw [hc_len, h]
  unfold prmC
  rw [List.drop_append, List.drop_of_length_le (by omega), e]
  rfl
theorem pm_34 : (prmC p)[34]? = some (iC p.k0) := by
  have e : (hc p.tx).length = 32 := by rw [hc_len, h]
  unfold prmC
  rw [List.getElem?_append_right (by omega), e]; rfl
theorem pm_35 : (prmC p)[35]? = some (iC p.k1) := by
  have e : (hc p.tx).length = 32 := by rw [hc_len, h]
  unfold prmC
  rw [List.getElem?_append_right (by omega), e]; rfl
end
theorem rt_t38 {r : Rte} (hf : r.f.tx.length = 32) : (rteC r).take 38 = prmC r.f := by unfold rteC; rw [← prmC_len hf, List.take_left]
theorem rt_d38 {r : Rte} (hf : r.f.tx.length = 32) : (rteC r).drop 38 = prmC r.s ++ [iC r.a, iC r.b, iC r.c, iC r.am, iC r.fe] := by unfold rteC; rw [← prmC_len hf, List.drop_left]
theorem rt_k1 {r : Rte} (hf : r.f.tx.length = 32) : ((rteC r).drop 34).take 2 = [iC r.f.k0, iC r.f.k1] := by
  unfold rteC
  rw [List.drop_append_of_le_length (by rw [prmC_len hf]; omega), List.take_append_of_le_length (by rw [List.length_drop, prmC_len hf]; omega), pm_d34 hf]
section
variable {r : Rte} (hf : r.f.tx.length = 32) (hs : r.s.tx.length = 32)
include hf hs
theorem rteC_len : (rteC r).length = 81 := by simp [rteC, prmC_len hf, prmC_len hs]
theorem rt_take : (rteC r).take 81 = rteC r := List.take_of_length_le (by rw [rteC_len hf hs]; omega)
theorem rt_s38 : ((rteC r).drop 38).take 38 = prmC r.s := by rw [rt_d38 hf, ← prmC_len hs, List.take_left]
theorem rt_d76 : (rteC r).drop 76 = [iC r.a, iC r.b, iC r.c, iC r.am, iC r.fe] := by
  rw [show 76 = 38 + 38 from rfl, ← List.drop_drop, rt_d38 hf, ← prmC_len hs, List.drop_left]
theorem rt_k2 : ((rteC r).drop 72).take 2 = [iC r.s.k0, iC r.s.k1] := by
  rw [show 72 = 38 + 34 from rfl, ← List.drop_drop, rt_d38 hf, List.drop_append_of_le_length (by rw [prmC_len hs]; omega), List.take_append_of_le_length (by rw [List.length_drop, prmC_len hs]; omega), pm_d34 hs]
theorem rt_at (i : Nat) : (rteC r)[76 + i]? = [iC r.a, iC r.b, iC r.c, iC r.am, iC r.fe][i]? := by
  rw [← List.getElem?_drop, rt_d76 hf hs]
theorem rt_76 : (rteC r)[76]? = some (iC r.a) := rt_at hf hs 0
theorem rt_77 : (rteC r)[77]? = some (iC r.b) := rt_at hf hs 1
theorem rt_78 : (rteC r)[78]? = some (iC r.c) := rt_at hf hs 2
theorem rt_79 : (rteC r)[79]? = some (iC r.am) := rt_at hf hs 3
theorem rt_80 : (rteC r)[80]? = some (iC r.fe) := rt_at hf hs 4
end
theorem conAll_mp (H : Nat → Option EO) (ids : List Nat) : ∀ l : List FV, conAll H ids (l.map EC.fz) = some (l.map EC.fz)
  | [] => rfl
  | a :: r => by simp only [List.map_cons, conAll, conC, conAll_mp H ids r]; rfl
theorem strAll_mp (ids : List Nat) : ∀ l : List FV, strAll ids (l.map EC.fz) = some (l.map EC.fz)
  | [] => rfl
  | a :: r => by simp only [List.map_cons, strAll, strC, strAll_mp ids r]; rfl
theorem frzAll_mp : ∀ l : List FV, frzAll (l.map EC.fz) = some l
  | [] => rfl
  | a :: r => by simp only [List.map_cons, frzAll, frz, frzAll_mp r]; rfl
theorem refs_mp : ∀ l : List FV, (l.map EC.fz).flatMap refsC = []
  | [] => rfl
  | a :: r => by simp only [List.map_cons, List.flatMap_cons, refs_mp r]; rfl
theorem fz_mp (ids : List Nat) : ∀ l : List FV, (l.map EC.fz).flatMap (fzC ids) = []
  | [] => rfl
  | a :: r => by simp only [List.map_cons, List.flatMap_cons, fz_mp ids r]; rfl
theorem ren_mp (g : Nat → Nat) : ∀ l : List FV, (l.map EC.fz).map (renC g) = l.map EC.fz
  | [] => rfl
  | a :: r => by simp only [List.map_cons, ren_mp g r]; rfl
def iF (n : Int) : FV := .lit (.int .i64 n)
def prmF (p : Prm) : List FV := hf p.tx ++ [iF p.n, iF p.am, iF p.k0, iF p.k1, iF p.dl, iF p.fe]
def rteF (r : Rte) : List FV := prmF r.f ++ (prmF r.s ++ [iF r.a, iF r.b, iF r.c, iF r.am, iF r.fe])
theorem prmF_fz (p : Prm) : (prmF p).map EC.fz = prmC p := by simp [prmF, prmC, iF, iC]
theorem rteF_fz (r : Rte) : (rteF r).map EC.fz = rteC r := by simp [rteF, rteC, prmF_fz, iF, iC]
@[simp] theorem conAll_prmC (H : Nat → Option EO) (ids : List Nat) (p : Prm) : conAll H ids (prmC p) = some (prmC p) := by rw [← prmF_fz]; exact conAll_mp H ids _
@[simp] theorem strAll_prmC (ids : List Nat) (p : Prm) : strAll ids (prmC p) = some (prmC p) := by rw [← prmF_fz]; exact strAll_mp ids _
@[simp] theorem frzAll_prmC (p : Prm) : frzAll (prmC p) = some (prmF p) := by rw [← prmF_fz]; exact frzAll_mp _
@[simp] theorem refs_prmC (p : Prm) : (prmC p).flatMap refsC = [] := by rw [← prmF_fz]; exact refs_mp _
@[simp] theorem fz_prmC (ids : List Nat) (p : Prm) : (prmC p).flatMap (fzC ids) = [] := by rw [← prmF_fz]; exact fz_mp ids _
@[simp] theorem ren_prmC (g : Nat → Nat) (p : Prm) : (prmC p).map (renC g) = prmC p := by rw [← prmF_fz]; exact ren_mp g _
@[simp] theorem conAll_rteC (H : Nat → Option EO) (ids : List Nat) (p : Rte) : conAll H ids (rteC p) = some (rteC p) := by rw [← rteF_fz]; exact conAll_mp H ids _
@[simp] theorem strAll_rteC (ids : List Nat) (p : Rte) : strAll ids (rteC p) = some (rteC p) := by rw [← rteF_fz]; exact strAll_mp ids _
@[simp] theorem frzAll_rteC (p : Rte) : frzAll (rteC p) = some (rteF p) := by rw [← rteF_fz]; exact frzAll_mp _
@[simp] theorem refs_rteC (p : Rte) : (rteC p).flatMap refsC = [] := by rw [← rteF_fz]; exact refs_mp _
@[simp] theorem fz_rteC (ids : List Nat) (p : Rte) : (rteC p).flatMap (fzC ids) = [] := by rw [← rteF_fz]; exact fz_mp ids _
@[simp] theorem ren_rteC (g : Nat → Nat) (p : Rte) : (rteC p).map (renC g) = rteC p := by rw [← rteF_fz]; exact ren_mp g _
theorem idx_of {l : List EC} {k : Nat} {c : EC} (e : l[k]? = some c) (h : k < l.length) : l[k]'h = c := by
  rw [List.getElem?_eq_getElem h] at e
  exact Option.some.inj e

theorem Vparty_ok (n : Int) : ECalls Try.prog 17 [I .i64 n] [] fun y H' => H' = [] ∧ y = .lit (.bool (decide (0 ≤ n ∧ n < 16))) := by
  refine ecalls k_Vparty ?_
  simp [c_Vparty, I]
  by_cases h : 0 ≤ n
  · simp [h]
    exact fin [] (by decide) rfl rfl rfl ⟨rfl, rfl⟩
  · simp [h]
    exact fin [] (by decide) rfl rfl rfl ⟨rfl, rfl⟩
def ofV (p : Prm) (a b : Int) : Bool := decide ((p.k0 = a ∧ p.k1 = b) ∨ (p.k0 = b ∧ p.k1 = a))

set_option maxHeartbeats 2000000 in
theorem Vof_ok (p : Prm) (a b : Int) (hp : p.tx.length = 32) : ECalls Try.prog 18 [PVv p, I .i64 a, I .i64 b] [] fun y H' => H' = [] ∧ y = .lit (.bool (ofV p a b)) := by
  have h1 := prmC_len hp
  have h2 := pm_take hp
  have h3 := pm_d34 hp
  refine ecalls k_Vof ?_
  simp [c_Vof, I, PVv, h1, h2, h3, iC]
  by_cases c1 : p.k0 = a ∧ p.k1 = b
  · have hv : ofV p a b = true := decide_eq_true (.inl c1)
    rw [hv]
    simp [c1.1, c1.2]
    exact fin [] (by decide) rfl rfl rfl ⟨rfl, rfl⟩
  · have c1' : ¬ p.k0 = a ∨ ¬ p.k1 = b := by omega
    have hv : ofV p a b = (decide (p.k0 = b) && decide (p.k1 = a)) := by
      unfold ofV
      by_cases c2 : p.k0 = b ∧ p.k1 = a
      · rw [decide_eq_true (.inr c2), decide_eq_true c2.1, decide_eq_true c2.2]; rfl
      · rw [decide_eq_false (by omega)]
        by_cases c3 : p.k0 = b
        · rw [decide_eq_true c3, decide_eq_false (fun h => c2 ⟨c3, h⟩)]; rfl
        · rw [decide_eq_false c3]; rfl
    rw [hv]
    simp [c1', h1, h2, h3, iC]
    refine alt (fun h => absurd h c1) (fun _ => ?_)
    simp
    exact fin [] (by decide) rfl rfl rfl ⟨rfl, by simp⟩

end Go.Proofs.Ytejjhgdnmknejaa
