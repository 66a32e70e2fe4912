import Derived.Test.YtpohjnhlhfbnaaaDoorAll12
import Derived.Test.YtpohjnhlhfbnaaaDoorAll14
import Derived.Test.YtpohjnhlhfbnaaaDoorAll11
import Derived.Test.YtpohjnhlhfbnaaaDoorAll10
namespace Go.Proofs.YtpohjnhlhfbnaaaDoor
open Go Go.EW
set_option linter.unusedSimpArgs false
set_option linter.unusedVariables false

@[simp] def l_RSettle_1 (_ : Unit) : List EOp := [⟨0, (some 3), none, (.q (.box 26 (.t 0))), []⟩, ⟨1, (some 6), none, (.q (.alloc 26 [(.int .i64 0), (.int .i64 0), (.int .i64 0), (.slice none 0 0), (.slice none 0 0)])), []⟩, ⟨2, (some 7), none, (.q (.mov (.k (.int .i64 0)))), []⟩]
@[simp] def b_RSettle_2 (_ : Unit) : EB := reg0 (hid l_RSettle_1) 3
@[simp] def l_RSettle_3 (_ : Unit) : List EOp := [⟨0, (some 11), none, (.q (.fad 3 (.t 3))), []⟩, ⟨1, (some 12), none, (.q (.ldc (.t 11))), []⟩, ⟨2, (some 13), none, (.q (.mov (.t 1))), []⟩, ⟨3, (some 14), none, (.call 79 [(.t 12), (.t 13)]), []⟩, ⟨4, (some 8), none, (.q (.mov (.t 14))), []⟩]
@[simp] def b_RSettle_4 (_ : Unit) : EB := reg0 (hid l_RSettle_3) 5
@[simp] def l_RSettle_5 (_ : Unit) : List EOp := [⟨0, (some 16), none, (.q (.lda 5 (.t 3))), []⟩, ⟨1, (some 17), none, (.call 39 [(.t 16)]), []⟩, ⟨2, (some 18), none, (.q (.un .not (.t 17))), []⟩, ⟨3, (some 15), none, (.q (.mov (.t 18))), []⟩]
@[simp] def b_RSettle_6 (_ : Unit) : EB := reg0 (hid l_RSettle_5) 4
@[simp] def l_RSettle_7 (_ : Unit) : List EOp := [⟨0, (some 19), none, (.q (.build [(.int .i64 0), (.int .i64 0), (.int .i64 0), (.slice none 0 0), (.slice none 0 0)] [])), []⟩, ⟨1, none, none, (.fz (.sto 5 (.t 6) (.t 19))), []⟩, ⟨2, (some 7), none, (.q (.mov (.k (.int .i64 1)))), []⟩]
@[simp] def b_RSettle_8 (_ : Unit) : EB := reg0 (hid l_RSettle_7) 3
@[simp] def b_RSettle_9 (_ : Unit) : EB := .seq (hid b_RSettle_8) .ret
@[simp] def l_RSettle_10 (_ : Unit) : List EOp := [⟨0, (some 21), none, (.q (.mov (.t 8))), []⟩, ⟨1, (some 22), none, (.q (.bin .lss (.t 21) (.k (.int .i64 0)))), []⟩, ⟨2, (some 20), none, (.q (.mov (.t 22))), []⟩]
@[simp] def b_RSettle_11 (_ : Unit) : EB := reg0 (hid l_RSettle_10) 3
@[simp] def l_RSettle_12 (_ : Unit) : List EOp := [⟨0, (some 23), none, (.q (.build [(.int .i64 0), (.int .i64 0), (.int .i64 0), (.slice none 0 0), (.slice none 0 0)] [])), []⟩, ⟨1, none, none, (.fz (.sto 5 (.t 6) (.t 23))), []⟩, ⟨2, (some 7), none, (.q (.mov (.k (.int .i64 8)))), []⟩]
@[simp] def b_RSettle_13 (_ : Unit) : EB := reg0 (hid l_RSettle_12) 3
@[simp] def b_RSettle_14 (_ : Unit) : EB := .seq (hid b_RSettle_13) .ret
@[simp] def l_RSettle_16 (_ : Unit) : List EOp := [⟨7, (some 32), none, (.q (.lda 32 (.t 31))), []⟩, ⟨1, (some 26), none, (.call 80 [(.t 25)]), [2, 3, 4, 5, 6, 7]⟩, ⟨8, (some 33), none, (.q (.eqa true 32 .u8 (.t 26) (.t 32))), []⟩, ⟨9, (some 24), none, (.q (.mov (.t 33))), []⟩]
@[simp] def l_RSettle_15 (_ : Unit) : List EOp := ⟨0, (some 25), none, (.q (.mov (.t 2))), []⟩ :: ⟨2, (some 27), none, (.q (.fad 3 (.t 3))), []⟩ :: ⟨3, (some 28), none, (.q (.ldc (.t 27))), []⟩ :: ⟨4, (some 29), none, (.q (.mov (.t 8))), []⟩ :: ⟨5, (some 30), none, (.q (.isl 36 (.t 28) (.t 29))), []⟩ :: ⟨6, (some 31), none, (.q (.fad 4 (.t 30))), []⟩ :: hid l_RSettle_16
@[simp] def b_RSettle_17 (_ : Unit) : EB := reg1 (hid l_RSettle_15) 10
@[simp] def l_RSettle_18 (_ : Unit) : List EOp := [⟨0, (some 34), none, (.q (.build [(.int .i64 0), (.int .i64 0), (.int .i64 0), (.slice none 0 0), (.slice none 0 0)] [])), []⟩, ⟨1, none, none, (.fz (.sto 5 (.t 6) (.t 34))), []⟩, ⟨2, (some 7), none, (.q (.mov (.k (.int .i64 22)))), []⟩]
@[simp] def b_RSettle_19 (_ : Unit) : EB := reg0 (hid l_RSettle_18) 3
@[simp] def b_RSettle_20 (_ : Unit) : EB := .seq (hid b_RSettle_19) .ret
@[simp] def b_RSettle_21 (_ : Unit) : EB := .cond (.t 24) (hid b_RSettle_20) .skip
@[simp] def b_RSettle_22 (_ : Unit) : EB := .seq (hid b_RSettle_17) (hid b_RSettle_21)
@[simp] def b_RSettle_23 (_ : Unit) : EB := .cond (.t 20) (hid b_RSettle_14) (hid b_RSettle_22)
@[simp] def b_RSettle_24 (_ : Unit) : EB := .seq (hid b_RSettle_11) (hid b_RSettle_23)
@[simp] def b_RSettle_25 (_ : Unit) : EB := .cond (.t 15) (hid b_RSettle_9) (hid b_RSettle_24)
@[simp] def b_RSettle_26 (_ : Unit) : EB := .seq (hid b_RSettle_6) (hid b_RSettle_25)
@[simp] def b_RSettle_27 (_ : Unit) : EB := .block 0 (hid b_RSettle_26)
@[simp] def l_RSettle_31 (_ : Unit) : List EOp := [⟨18, (some 10), none, (.q (.mov (.t 51))), []⟩]
@[simp] def l_RSettle_30 (_ : Unit) : List EOp := ⟨12, (some 48), none, (.q (.ldc (.t 47))), []⟩ :: ⟨13, (some 49), none, (.call 42 [(.t 42), (.t 48)]), []⟩ :: ⟨14, (some 35), none, (.q (.mov (.t 49))), []⟩ :: ⟨15, (some 50), none, (.q (.ext 0 (.t 35))), []⟩ :: ⟨16, (some 51), none, (.q (.ext 1 (.t 35))), []⟩ :: ⟨17, (some 9), none, (.q (.mov (.t 50))), []⟩ :: hid l_RSettle_31
@[simp] def l_RSettle_29 (_ : Unit) : List EOp := ⟨6, (some 42), none, (.q (.bin .sub (.k (.int .i64 1)) (.t 41))), []⟩ :: ⟨7, (some 43), none, (.q (.fad 3 (.t 3))), []⟩ :: ⟨8, (some 44), none, (.q (.ldc (.t 43))), []⟩ :: ⟨9, (some 45), none, (.q (.mov (.t 8))), []⟩ :: ⟨10, (some 46), none, (.q (.isl 36 (.t 44) (.t 45))), []⟩ :: ⟨11, (some 47), none, (.q (.fad 2 (.t 46))), []⟩ :: hid l_RSettle_30
@[simp] def l_RSettle_28 (_ : Unit) : List EOp := ⟨0, (some 36), none, (.q (.fad 3 (.t 3))), []⟩ :: ⟨1, (some 37), none, (.q (.ldc (.t 36))), []⟩ :: ⟨2, (some 38), none, (.q (.mov (.t 8))), []⟩ :: ⟨3, (some 39), none, (.q (.isl 36 (.t 37) (.t 38))), []⟩ :: ⟨4, (some 40), none, (.q (.fad 1 (.t 39))), []⟩ :: ⟨5, (some 41), none, (.q (.ldc (.t 40))), []⟩ :: hid l_RSettle_29
@[simp] def b_RSettle_32 (_ : Unit) : EB := reg0 (hid l_RSettle_28) 19
@[simp] def l_RSettle_34 (_ : Unit) : List EOp := [⟨7, (some 59), none, (.q (.fad 4 (.t 3))), []⟩, ⟨8, (some 60), none, (.q (.ldc (.t 59))), []⟩, ⟨6, (some 58), none, (.call 81 [(.t 56), (.t 57)]), [0, 1, 2, 7, 8]⟩, ⟨9, (some 61), none, (.call 40 [(.t 52), (.t 53), (.t 54), (.t 58), (.t 60)]), []⟩, ⟨10, none, none, (.fz (.sto 5 (.t 6) (.t 61))), []⟩, ⟨11, (some 7), none, (.q (.mov (.k (.int .i64 0)))), []⟩]
@[simp] def l_RSettle_33 (_ : Unit) : List EOp := ⟨0, (some 52), none, (.q (.lda 5 (.t 3))), []⟩ :: ⟨1, (some 53), none, (.q (.mov (.t 9))), []⟩ :: ⟨2, (some 54), none, (.q (.mov (.t 10))), []⟩ :: ⟨3, (some 55), none, (.q (.fad 3 (.t 3))), []⟩ :: ⟨4, (some 56), none, (.q (.ldc (.t 55))), []⟩ :: ⟨5, (some 57), none, (.q (.mov (.t 8))), []⟩ :: hid l_RSettle_34
@[simp] def b_RSettle_35 (_ : Unit) : EB := reg1 (hid l_RSettle_33) 12
@[simp] def b_RSettle_36 (_ : Unit) : EB := .seq (hid b_RSettle_35) .ret
@[simp] def b_RSettle_37 (_ : Unit) : EB := .seq (hid b_RSettle_32) (hid b_RSettle_36)
@[simp] def b_RSettle_38 (_ : Unit) : EB := .seq (hid b_RSettle_27) (hid b_RSettle_37)
@[simp] def b_RSettle_39 (_ : Unit) : EB := .seq (hid b_RSettle_4) (hid b_RSettle_38)
@[simp] def b_RSettle_40 (_ : Unit) : EB := .seq (hid b_RSettle_2) (hid b_RSettle_39)
def c_RSettle : EB × List QOp × Nat := ((hid b_RSettle_40), [(.lda 5 (.t 6)), (.mov (.t 7))], 62)
theorem k_RSettle : cfun Tryd.prog 35 = some c_RSettle := by kernel_rfl


set_option maxHeartbeats 4000000 in
theorem RSettle_ok (s : Sta) (x : Int) (b : List UInt8) (hs : s.ok) (hx64 : i64 x) (hbl : b.length ≤ 100000000) : ECalls Tryd.prog 35 [SV s, I .i64 x, Bs b] [] fun y H' => H' = [] ∧ y = RE (setS s x b) := by
  obtain ⟨ok1, ok2, ok3, ok4, ok5, ok6, ok7⟩ := id hs
  have hsl := sumS_len b
  refine ecalls k_RSettle ?_
  simp [c_RSettle, SV, staC, I, Bs, -errV_0]
  refine call0 (RpayAt_ok s.pays x ok4 ok6) (by simp [PL, I]) ?_
  rintro y H' ⟨rfl, r, hr, rfl⟩
  refine ⟨.inl (by simp), le_ok rfl, ?_⟩
  simp [I, -errV_0]
  refine call0 (Rright_ok s hs) (by simp [SV, staC]) ?_
  rintro y H' ⟨rfl, rfl⟩
  refine ⟨.inl (by simp), le_ok rfl, ?_⟩
  by_cases h0 : mayS s = true ∧ s.num ≠ 1099511627776
  rotate_left
  · have hx : nxt s = (zSta, 1) := by simp only [nxt, if_neg h0]
    have ht : takS s x = (zSta, zPay, 1) := by simp [takS, hx]
    have ha : setS s x b = (zSta, 1) := by simp [setS, ht]
    rw [ha, decide_eq_false h0]
    simp [RE, staC, zSta]
    refine finW _ (weak_nlB (o := 16) (k := 3) 36 rfl rfl) (finW _ (weak_nlB (o := 16) (k := 4) 3 rfl rfl) ?_)
    exact fin [] (by decide) rfl rfl rfl ⟨rfl, rfl⟩
  rw [decide_eq_true h0]
  have hx : nxt s = (⟨s.num + 1, s.h0, s.h1, s.pays, s.holds⟩, 0) := by simp only [nxt, if_pos h0]
  obtain ⟨hr', hpl', hhl, htot⟩ := mayS_t h0.1
  have hpw := payL_pw hpl'
  rcases FI_pos hpw hr with ⟨hf, rfl⟩ | ⟨hf, rfl⟩
  · have ht : takS s x = (zSta, zPay, 8) := by simp only [takS, hx]; rw [if_neg (by simp), if_pos hf]
    have ha : setS s x b = (zSta, 8) := by simp [setS, ht]
    rw [ha]
    simp [RE, staC, zSta]
    refine finW _ (weak_nlB (o := 16) (k := 3) 36 rfl rfl) (finW _ (weak_nlB (o := 16) (k := 4) 3 rfl rfl) ?_)
    exact fin [] (by decide) rfl rfl rfl ⟨rfl, rfl⟩
  obtain ⟨p, hc, hid⟩ := fnd_get (f := Pay.id) hf
  have hc' : s.pays[posI (s.pays.map (·.id)) x]? = some p := hc
  have ht : takS s x = (⟨s.num + 1, s.h0, s.h1, delP s.pays x, s.holds⟩, p, 0) := by
    simp only [takS, hx]; rw [if_neg (by simp), if_neg (by rw [hf]; simp), hc']; rfl
  have hfr : setS s x b = if sumS b ≠ p.lock then (zSta, 22) else (⟨s.num + 1, if p.fr = 0 then s.h0 else s.h0 + p.am, if p.fr = 0 then s.h1 + p.am else s.h1, delP s.pays x, s.holds⟩, 0) := by
    simp only [setS, ht]; rw [if_neg (by simp)]
  have hpv0 := payv_del s.pays x
  have hpl1 : (delP s.pays x).length = s.pays.length - 1 := by rw [delP_eq]; exact len_del (f := Pay.id) hc
  have hmem := List.mem_of_getElem? hc
  obtain ⟨pos, hpos⟩ : ∃ pos, posI (s.pays.map (·.id)) x = pos := ⟨_, rfl⟩
  rw [hpos] at hc' hpv0 ⊢
  have hlt : pos < s.pays.length := lt_len hc'
  have hge : (payv s.pays)[pos]'(by simp [hlt]) = payF p := by
    have e := payv_get hc'
    rw [List.getElem?_eq_getElem (by simp [hlt])] at e
    exact Option.some.inj e
  have hpo := ok4 p hmem
  have hfl := payF_len hpo.2.2.2.2
  have hle := payL_sum hpl' p hmem
  have hma := mayP_pos (payL_mem hpl' p hmem)
  obtain ⟨m1, m2, m3, m4, m5, m6, m7, m8⟩ := of_decide_eq_true (payL_mem hpl' p hmem)
  have hnn := sumH_nn hhl
  have hto : total s = s.h0 + s.h1 + sumP s.pays + sumH s.holds := rfl
  have hlk : p.lock.length = 32 := hpo.2.2.2.2
  rw [hfr]
  have hn0 : ¬ ((pos : Int) < 0) := by omega
  have hplk : (payC p).length = 36 := payC_len hlk
  simp [hn0, hlt, hge, hfl, payF, -errV_0]
  refine ⟨by omega, ?_⟩
  refine call0 (RSum_ok b hbl) (by simp [Bs]) ?_
  rintro y H' ⟨rfl, rfl⟩
  refine ⟨.inl (by simp), le_ok rfl, ?_⟩
  have hcn : Go.EW.hc [] = [] := rfl
  have hq : (List.map (fun b : UInt8 => (b.toNat : Int)) (sumS b) = List.map (fun b : UInt8 => (b.toNat : Int)) p.lock) ↔ sumS b = p.lock := ⟨hc_inj, fun e => by rw [e]⟩
  have hlt32 : List.take 32 p.lock = p.lock := List.take_of_length_le (by omega)
  by_cases he : sumS b = p.lock
  rotate_left
  · simp [hsl, hlk, hlt32, hcn, hq, he, RE, staC, zSta, -errV_0]
    refine finW _ (weak_nlB (o := 16) (k := 3) 36 rfl rfl) (finW _ (weak_nlB (o := 16) (k := 4) 3 rfl rfl) ?_)
    exact fin [] (by decide) rfl rfl rfl ⟨rfl, rfl⟩
  simp [hsl, hlk, hlt32, hcn, hq, he, hlt, hge, hfl, payF, -errV_0]
  obtain ⟨A, hA⟩ : ∃ A : Int, (if (1 - p.fr) = 0 then p.am else 0) = A := ⟨_, rfl⟩
  obtain ⟨B, hB⟩ : ∃ B : Int, (if (1 - p.fr) = 0 then 0 else p.am) = B := ⟨_, rfl⟩
  have hAB : 0 ≤ A ∧ 0 ≤ B ∧ A + B = p.am := by rw [← hA, ← hB]; split <;> omega
  have w1 : IntKind.i64.wrap (1 - p.fr) = 1 - p.fr := wrap_i64 (by omega) (by omega)
  have w2 : IntKind.i64.wrap (s.h0 + A) = s.h0 + A := wrap_i64 (by omega) (by omega)
  have w4 : IntKind.i64.wrap (s.h1 + B) = s.h1 + B := wrap_i64 (by omega) (by omega)
  have w5 : IntKind.i64.wrap (s.num + 1) = s.num + 1 := wrap_i64 (by omega) (by omega)
  rw [w1]
  refine call0 (Rto_ok (1 - p.fr) p.am) (by simp [I]) ?_
  rintro y H' ⟨rfl, rfl⟩
  refine ⟨.inl (by simp), le_ok rfl, ?_⟩
  rw [hA, hB]
  simp [-errV_0]
  have hd := Rdrop_ok s.pays pos hlt ok6
  rw [← hpv0, ← hpl1] at hd
  refine call0 hd (by simp [PL, I]) ?_
  rintro y H' ⟨rfl, rfl⟩
  refine ⟨.inl (by simp), by simp, ?_⟩
  simp [-errV_0]
  obtain ⟨L, hL⟩ : ∃ L, delP s.pays x = L := ⟨_, rfl⟩
  rw [hL]
  refine callH [800] (RwithP_ok s A B w5 w2 w4 L s.holds) (by simp [SV, staC, HL, I]) (by simp) (by simp) (by simp) (by simp) ?_
  rintro y H' ⟨rfl, rfl⟩
  refine ⟨.inl (by simp), by simp, ?_⟩
  simp [-errV_0]
  refine finW _ (weak_frz (o := 800) (ty := 54) (es := 36) (xs := payv L) rfl) ?_
  refine fin [] (by decide) rfl rfl rfl ⟨rfl, ?_⟩
  have e1 : (if p.fr = 0 then s.h0 else s.h0 + p.am) = s.h0 + A := by rw [← hA]; rcases m3 with e | e <;> simp [e]
  have e2 : (if p.fr = 0 then s.h1 + p.am else s.h1) = s.h1 + B := by rw [← hB]; rcases m3 with e | e <;> simp [e]
  rw [e1, e2]
  simp [RE, staC, List.take_of_length_le, -errV_0]

end Go.Proofs.YtpohjnhlhfbnaaaDoor

namespace Go.Proofs.YtpohjnhlhfbnaaaDoor
open Go Go.EW
set_option linter.unusedSimpArgs false
set_option linter.unusedVariables false

/-- A state that may stand behind s: as much in all, the next number. -/
def Gd (s t : Sta) : Prop := mayS t = true ∧ total t = total s ∧ t.num = s.num + 1 ∧ t.ok

theorem gd_mk {s : Sta} (h0 : mayS s = true ∧ s.num ≠ 1099511627776) {x y : Int} {ps : List Pay} {hl : List Hol} (hx : 0 ≤ x) (hy : 0 ≤ y) (hp : payL none ps = true) (hh : holL none hl = true)
    (po : ∀ p ∈ ps, p.ok) (ho : ∀ h ∈ hl, h.ok) (h8 : hl.length + ps.length ≤ 8) (ht : x + y + sumP ps + sumH hl = total s) : Gd s ⟨s.num + 1, x, y, ps, hl⟩ := by
  obtain ⟨hr, _, _, htot⟩ := mayS_t h0.1
  have n1 := sumP_nn hp
  have n2 := sumH_nn hh
  have h02 := h0.2
  have hm : mayS ⟨s.num + 1, x, y, ps, hl⟩ = true := mayS_mk (by dsimp only; omega) hp hh (by show x + y + sumP ps + sumH hl ≤ _; omega)
  exact ⟨hm, ht, rfl, may_ok hm po ho⟩
theorem nxt_zero {s : Sta} (h : ¬ (nxt s).2 ≠ 0) : mayS s = true ∧ s.num ≠ 1099511627776 := by
  unfold nxt at h
  split at h
  · rename_i h'; exact h'
  · simp at h
theorem delA_sub {α : Type} (f : α → Int) (l : List α) (x : Int) : (delA f l x).Sublist l := by
  unfold delA
  obtain ⟨n, hn⟩ : ∃ n, posI (l.map f) x = n := ⟨_, rfl⟩
  rw [hn]
  have h1 : (l.drop (n + 1)).Sublist (l.drop n) := by
    rw [← List.drop_drop]
    exact List.drop_sublist 1 _
  have h2 := (List.Sublist.refl (l.take n)).append h1
  rwa [List.take_append_drop] at h2
theorem payL_sub {l l' : List Pay} (h : payL none l = true) (hs : l'.Sublist l) : payL none l' = true := by
  obtain ⟨q1, q2, _⟩ := payL_iff.1 h
  exact payL_iff.2 ⟨fun p hp => q1 p (hs.subset hp), q2.sublist (hs.map _), fun q hq => by simp at hq⟩
theorem holL_sub {l l' : List Hol} (h : holL none l = true) (hs : l'.Sublist l) : holL none l' = true := by
  obtain ⟨q1, q2, _⟩ := holL_iff.1 h
  exact holL_iff.2 ⟨fun p hp => q1 p (hs.subset hp), q2.sublist (hs.map _), fun q hq => by simp at hq⟩
theorem moveS_gd {s : Sta} {a n : Int} (hs : s.ok) (h : (moveS s a n).2 = 0) : Gd s (moveS s a n).1 := by
  unfold moveS at h ⊢
  split at h
  · rename_i h1; exact absurd h h1
  rename_i h1
  have h0 := nxt_zero h1
  obtain ⟨hr, hpl, hh, htot⟩ := mayS_t h0.1
  obtain ⟨ok1, ok2, ok3, ok4, ok5, ok6, ok7⟩ := id hs
  have hto : total s = s.h0 + s.h1 + sumP s.pays + sumH s.holds := rfl
  rw [if_neg h1]
  split at h
  · simp at h
  rename_i h2
  rw [if_neg h2]
  split at h
  · simp at h
  rename_i h3
  rw [if_neg h3]
  by_cases h4 : (if a = 0 then s.h0 else s.h1) < n
  · rw [if_pos h4] at h; simp at h
  rw [if_neg h4]
  by_cases e : a = 0
  · rw [if_pos e]
    rw [if_pos e] at h4
    exact gd_mk h0 (by omega) (by omega) hpl hh ok4 ok5 (by omega) (by omega)
  · rw [if_neg e]
    rw [if_neg e] at h4
    exact gd_mk h0 (by omega) (by omega) hpl hh ok4 ok5 (by omega) (by omega)
theorem addP_gd {s : Sta} {p : Pay} (hs : s.ok) (hp : p.ok) (h : (addP s p).2 = 0) : Gd s (addP s p).1 := by
  obtain ⟨h1, h2, h3, h4, h5, h6, h7⟩ := addP_may h
  exact ⟨h6, h7, by rw [h5], addP_ok hs hp h⟩
theorem takS_gd {s : Sta} {x : Int} (h : (takS s x).2.2 = 0) : (mayS s = true ∧ s.num ≠ 1099511627776) ∧ (takS s x).1 = ⟨s.num + 1, s.h0, s.h1, delA Pay.id s.pays x, s.holds⟩ ∧ (takS s x).2.1 ∈ s.pays ∧ sumP (delA Pay.id s.pays x) = sumP s.pays - (takS s x).2.1.am ∧ (delA Pay.id s.pays x).length = s.pays.length - 1 ∧ 10 ≤ (takS s x).2.1.am := by
  unfold takS at h ⊢
  split at h
  · simp at h
  rename_i h1
  have h0 := nxt_zero h1
  obtain ⟨hr, hpl, hh, htot⟩ := mayS_t h0.1
  split at h
  · simp at h
  rename_i h2
  rw [if_neg h1, if_neg h2]
  have hf : fndI (s.pays.map Pay.id) x = true := by simpa using h2
  obtain ⟨b, hb, hid⟩ := fnd_get (f := Pay.id) hf
  have hb' : s.pays[posI (s.pays.map (·.id)) x]? = some b := hb
  have hmem := List.mem_of_getElem? hb
  refine ⟨h0, by rw [delP_eq], ?_, ?_, len_del (f := Pay.id) hb, ?_⟩
  · show (s.pays[posI (s.pays.map (·.id)) x]?).getD zPay ∈ s.pays
    rw [hb']; exact hmem
  · have e := sum_del (f := Pay.id) (·.am) hb
    show sumP _ = sumP _ - ((s.pays[posI (s.pays.map (·.id)) x]?).getD zPay).am
    rw [hb']; exact e
  · show 10 ≤ ((s.pays[posI (s.pays.map (·.id)) x]?).getD zPay).am
    rw [hb']; exact (mayP_pos (payL_mem hpl b hmem)).2.1
theorem back_gd {s : Sta} {x u v : Int} (hs : s.ok) (h : (takS s x).2.2 = 0) (hu : s.h0 ≤ u) (hv : s.h1 ≤ v) (huv : u + v = s.h0 + s.h1 + (takS s x).2.1.am) : Gd s ⟨(takS s x).1.num, u, v, (takS s x).1.pays, s.holds⟩ := by
  obtain ⟨h0, e, hm, h5, h6, h7⟩ := takS_gd h
  obtain ⟨hr, hpl, hh, htot⟩ := mayS_t h0.1
  obtain ⟨ok1, ok2, ok3, ok4, ok5, ok6, ok7⟩ := id hs
  have hto : total s = s.h0 + s.h1 + sumP s.pays + sumH s.holds := rfl
  rw [e]
  show Gd s ⟨s.num + 1, u, v, delA Pay.id s.pays x, s.holds⟩
  have hsub := delA_sub Pay.id s.pays x
  exact gd_mk h0 (by omega) (by omega) (payL_sub hpl hsub) hh (fun p hp => ok4 p (hsub.subset hp)) ok5 (by omega) (by omega)
theorem falS_gd {s : Sta} {x : Int} (hs : s.ok) (h : (falS s x).2 = 0) : Gd s (falS s x).1 := by
  unfold falS at h ⊢
  split at h
  · rename_i h1; exact absurd h h1
  rename_i h1
  rw [if_neg h1]
  have ht : (takS s x).2.2 = 0 := Classical.not_not.1 h1
  obtain ⟨_, _, _, _, _, h7⟩ := takS_gd ht
  exact back_gd hs ht (by split <;> omega) (by split <;> omega) (by split <;> omega)
theorem setS_gd {s : Sta} {x : Int} {b : List UInt8} (hs : s.ok) (h : (setS s x b).2 = 0) : Gd s (setS s x b).1 := by
  unfold setS at h ⊢
  split at h
  · rename_i h1; exact absurd h h1
  rename_i h1
  rw [if_neg h1]
  split at h
  · simp at h
  rename_i h2
  rw [if_neg h2]
  have ht : (takS s x).2.2 = 0 := Classical.not_not.1 h1
  obtain ⟨_, _, _, _, _, h7⟩ := takS_gd ht
  exact back_gd hs ht (by split <;> omega) (by split <;> omega) (by split <;> omega)
theorem keeS_gd {s : Sta} {who : Int} {q : Hol} (hs : s.ok) (hq : q.ok) (h : (keeS s who q).2 = 0) : Gd s (keeS s who q).1 := by
  unfold keeS at h ⊢
  split at h
  · simp at h
  rename_i h1
  have h0 := nxt_zero h1
  obtain ⟨hr, hpl, hh, htot⟩ := mayS_t h0.1
  obtain ⟨ok1, ok2, ok3, ok4, ok5, ok6, ok7⟩ := id hs
  obtain ⟨q1, q2, _⟩ := holL_iff.1 hh
  have hto : total s = s.h0 + s.h1 + sumP s.pays + sumH s.holds := rfl
  rw [if_neg h1]
  split at h
  · simp at h
  rename_i c1
  split at h
  · simp at h
  rename_i c2
  split at h
  · simp at h
  rename_i c3
  split at h
  · simp at h
  rename_i c4
  split at h
  · simp at h
  rename_i c5
  split at h
  · simp at h
  rename_i c6
  rw [if_neg c1, if_neg c2, if_neg c3, if_neg c4, if_neg c5, if_neg c6]
  have hm : mayH q = true := by simpa using c3
  have hf : fndI (s.holds.map Hol.id) q.id = false := by simpa using c4
  have hs1 : sumH (insA Hol.id s.holds q) = sumH s.holds + q.am := sum_ins Hol.id (·.am) s.holds q
  have hl1 : (insA Hol.id s.holds q).length = s.holds.length + 1 := len_ins Hol.id s.holds q
  have hpi : holL none (insA Hol.id s.holds q) = true := holL_iff.2 ⟨fun b hb => by
      rcases mem_ins (f := Hol.id) hb with rfl | hb
      · exact hm
      · exact q1 b hb, by
      rw [map_ins]
      exact pw_ins q2 hf, fun q hq => by simp at hq⟩
  unfold sideS at c6
  refine gd_mk h0 ?_ ?_ hpl hpi ok4 ?_ (by omega) ?_
  · split
    · rename_i e; rw [if_pos e] at c6; omega
    · omega
  · split
    · omega
    · rename_i e; rw [if_neg e] at c6; omega
  · intro b hb
    rcases mem_ins (f := Hol.id) hb with rfl | hb
    · exact hq
    · exact ok5 b hb
  · rw [hs1]; split <;> omega
theorem freS_gd {s : Sta} {x a : Int} (hs : s.ok) (h : (freS s x a).2 = 0) : Gd s (freS s x a).1 := by
  unfold freS at h ⊢
  split at h
  · simp at h
  rename_i h1
  have h0 := nxt_zero h1
  obtain ⟨hr, hpl, hh, htot⟩ := mayS_t h0.1
  obtain ⟨ok1, ok2, ok3, ok4, ok5, ok6, ok7⟩ := id hs
  have hto : total s = s.h0 + s.h1 + sumP s.pays + sumH s.holds := rfl
  rw [if_neg h1]
  split at h
  · simp at h
  rename_i b hb
  split at h
  · simp at h
  rename_i c1
  split at h
  · simp at h
  rename_i c2
  rw [if_neg c1, if_neg c2]
  have hsub := delA_sub Hol.id s.holds x
  have e : sumH (delA Hol.id s.holds x) = sumH s.holds - b.am := sum_del (f := Hol.id) (·.am) hb
  have hl := len_del (f := Hol.id) hb
  exact gd_mk h0 (by omega) (by omega) hpl (holL_sub hh hsub) ok4 (fun p hp => ok5 p (hsub.subset hp)) (by omega) (by omega)

end Go.Proofs.YtpohjnhlhfbnaaaDoor

namespace Go.Proofs.YtpohjnhlhfbnaaaDoor
open Go Go.EW
set_option linter.unusedSimpArgs false
set_option linter.unusedVariables false

theorem resS_ok {s : Sta} {a n : Int} (hs : s.ok) (hm : s.small) : (resS s a n).1.ok ∧ (resS s a n).1.small ∧ ((resS s a n).2 = 0 → totS (resS s a n).1 = totS s + n ∧ 0 ≤ totS s ∧ totS s ≤ 1125899906842624) := by
  have hz := zSta_ok
  obtain ⟨ok1, ok2, ok3, ok4, ok5, ok6, ok7⟩ := id hs
  unfold resS
  split
  · rename_i h; exact ⟨hz.1, hz.2, fun h' => absurd h' h⟩
  rename_i h1
  have h0 : mayS s = true ∧ s.num ≠ 1099511627776 := by
    unfold nxt at h1
    split at h1
    · rename_i h; exact h
    · simp at h1
  have hb := mayS_b h0.1
  obtain ⟨hr, hp, hh, htot⟩ := mayS_t h0.1
  have n1 := sumP_nn hp
  have n2 := sumH_nn hh
  have hts : totS s = total s := by rw [totS, if_pos h0.1]
  split
  · exact ⟨hz.1, hz.2, fun h' => absurd h' (by simp)⟩
  rename_i h2
  have key : ∀ x y : Int, 0 ≤ x → 0 ≤ y → x + y = s.h0 + s.h1 + n → n ≤ 1125899906842624 - total s → (Sta.mk (s.num + 1) x y s.pays s.holds).ok ∧ (Sta.mk (s.num + 1) x y s.pays s.holds).small ∧ ((0 : Nat) = 0 → totS (Sta.mk (s.num + 1) x y s.pays s.holds) = totS s + n ∧ 0 ≤ totS s ∧ totS s ≤ 1125899906842624) := by
    intro x y hx hy hxy hn
    have ht2 : total (Sta.mk (s.num + 1) x y s.pays s.holds) = total s + n := by simp [total]; omega
    have hle : x ≤ 1125899906842624 ∧ y ≤ 1125899906842624 := by simp [total] at hn; omega
    have hm2 : mayS ⟨s.num + 1, x, y, s.pays, s.holds⟩ = true := by
      simp only [mayS, hp, hh, Bool.and_true, Bool.and_eq_true, decide_eq_true_eq, ht2]
      have := h0.2
      refine ⟨?_, by omega⟩
      omega
    refine ⟨⟨by unfold i64; simp; omega, by unfold i64; simp; omega, by unfold i64; simp; omega, ok4, ok5, ok6, ok7⟩, hm, fun _ => ?_⟩
    rw [totS, if_pos hm2, hts, ht2]
    refine ⟨rfl, ?_, htot⟩
    simp [total]; omega
  by_cases h5 : a = 0
  · simp only [h5, if_true]
    split
    · exact ⟨hz.1, hz.2, fun h' => absurd h' (by simp)⟩
    split
    · exact ⟨hz.1, hz.2, fun h' => absurd h' (by simp)⟩
    exact key _ _ (by omega) (by omega) (by omega) (by omega)
  · simp only [h5, if_false]
    split
    · exact ⟨hz.1, hz.2, fun h' => absurd h' (by simp)⟩
    split
    · exact ⟨hz.1, hz.2, fun h' => absurd h' (by simp)⟩
    exact key _ _ (by omega) (by omega) (by omega) (by omega)

set_option maxHeartbeats 2000000 in
theorem StateSizes_ok (s : Sta) (a b : Int) (hs : s.ok) (ha : i64 a) (hb : i64 b) : ECalls Tryd.prog 4 [SV s, I .i64 a, I .i64 b] [] fun y H' => H' = [] ∧ y = .lit (.bool true) := by
  refine ecalls k_StateSizes ?_
  simp [c_StateSizes, SV, staC, I]
  refine call0 (longState_ok s hs) (by simp [Ptr, I, EV.lit, Bs, SV, staC, SE, RE]) ?_
  rintro y H' ⟨rfl, rfl⟩
  refine ⟨.inl (by simp [Ptr, I, EV.lit, Bs, SV, staC, SE, RE]), le_ok rfl, ?_⟩
  simp
  refine alt (fun hl => ?_) (fun hl => ?_)
  · simp
    refine call0 (sure_ok) (by simp [Ptr, I, EV.lit, Bs, SV, staC, SE, RE]) ?_
    rintro y H' ⟨rfl, rfl⟩
    refine ⟨.inl (by simp [Ptr, I, EV.lit, Bs, SV, staC, SE, RE]), le_ok rfl, ?_⟩
    simp [Ptr, I, EV.lit, Bs, SV, staC, SE, RE]
    exact fin [] (by decide) rfl rfl rfl ⟨rfl, rfl⟩
  have hsm := (longS_small (by simpa using hl)).1
  obtain ⟨q1, q2, q3⟩ := resS_ok (a := a) (n := b) hs hsm
  simp
  refine call0 (giveState_ok s hs hsm) (by simp [Ptr, I, EV.lit, Bs, SV, staC, SE, RE]) ?_
  rintro y H' ⟨rfl, rfl⟩
  refine ⟨.inl (by simp [Ptr, I, EV.lit, Bs, SV, staC, SE, RE]), le_ok rfl, ?_⟩
  simp [Ptr, I, EV.lit, Bs, SV, staC, SE, RE]
  refine call0 (Resize_ok s a b hs ha hb) (by simp [Ptr, I, EV.lit, Bs, SV, staC, SE, RE]) ?_
  rintro y H' ⟨rfl, rfl⟩
  refine ⟨.inl (by simp [Ptr, I, EV.lit, Bs, SV, staC, SE, RE]), le_ok rfl, ?_⟩
  simp [Ptr, I, EV.lit, Bs, SV, staC, SE, RE]
  refine call0 (RResize_ok s a b hs ha hb) (by simp [Ptr, I, EV.lit, Bs, SV, staC, SE, RE]) ?_
  rintro y H' ⟨rfl, rfl⟩
  refine ⟨.inl (by simp [Ptr, I, EV.lit, Bs, SV, staC, SE, RE]), le_ok rfl, ?_⟩
  simp [Ptr, I, EV.lit, Bs, SV, staC, SE, RE]
  refine call0 (same_ok (resS s a b).1 (resS s a b).2 q1 q2) (by simp [Ptr, I, EV.lit, Bs, SV, staC, SE, RE]) ?_
  rintro y H' ⟨rfl, rfl⟩
  refine ⟨.inl (by simp [Ptr, I, EV.lit, Bs, SV, staC, SE, RE]), le_ok rfl, ?_⟩
  rcases Nat.eq_zero_or_pos (resS s a b).2 with he | he
  · obtain ⟨t1, t2, t3⟩ := q3 he
    have w1 : IntKind.i64.wrap (totS (resS s a b).1 - b) = totS s := by rw [wrap_i64 (by omega) (by omega)]; omega
    simp [he]
    refine call0 (Total_ok (resS s a b).1 q1) (by simp [Ptr, I, EV.lit, Bs, SV, staC, SE, RE]) ?_
    rintro y H' ⟨rfl, rfl⟩
    refine ⟨.inl (by simp [Ptr, I, EV.lit, Bs, SV, staC, SE, RE]), le_ok rfl, ?_⟩
    simp [Ptr, I, EV.lit, Bs, SV, staC, SE, RE]
    simp [w1]
    refine call0 (RTotal_ok s hs) (by simp [Ptr, I, EV.lit, Bs, SV, staC, SE, RE]) ?_
    rintro y H' ⟨rfl, rfl⟩
    refine ⟨.inl (by simp [Ptr, I, EV.lit, Bs, SV, staC, SE, RE]), le_ok rfl, ?_⟩
    simp [Ptr, I, EV.lit, Bs, SV, staC, SE, RE]
    refine call0 (sure_ok) (by simp [Ptr, I, EV.lit, Bs, SV, staC, SE, RE]) ?_
    rintro y H' ⟨rfl, rfl⟩
    refine ⟨.inl (by simp [Ptr, I, EV.lit, Bs, SV, staC, SE, RE]), le_ok rfl, ?_⟩
    simp [Ptr, I, EV.lit, Bs, SV, staC, SE, RE]
    exact fin [] (by decide) rfl rfl rfl ⟨rfl, rfl⟩
  · have he' : (resS s a b).2 ≠ 0 := by omega
    simp [he']
    refine call0 (sure_ok) (by simp [Ptr, I, EV.lit, Bs, SV, staC, SE, RE]) ?_
    rintro y H' ⟨rfl, rfl⟩
    refine ⟨.inl (by simp [Ptr, I, EV.lit, Bs, SV, staC, SE, RE]), le_ok rfl, ?_⟩
    simp [Ptr, I, EV.lit, Bs, SV, staC, SE, RE]
    exact fin [] (by decide) rfl rfl rfl ⟨rfl, rfl⟩

end Go.Proofs.YtpohjnhlhfbnaaaDoor

namespace Go.Proofs.YtpohjnhlhfbnaaaDoor
open Go Go.EW
set_option linter.unusedSimpArgs false
set_option linter.unusedVariables false

@[simp] def l_StatePays_1 (_ : Unit) : List EOp := [⟨0, (some 3), none, (.q (.box 26 (.t 0))), []⟩, ⟨1, (some 4), none, (.q (.box 54 (.t 1))), []⟩, ⟨2, (some 6), none, (.q (.mov (.k (.bool false)))), []⟩]
@[simp] def b_StatePays_2 (_ : Unit) : EB := reg0 (hid l_StatePays_1) 3
@[simp] def l_StatePays_3 (_ : Unit) : List EOp := [⟨0, (some 20), none, (.q (.lda 5 (.t 3))), []⟩, ⟨1, (some 21), none, (.call 10 [(.t 20)]), []⟩]
@[simp] def b_StatePays_4 (_ : Unit) : EB := reg0 (hid l_StatePays_3) 2
@[simp] def l_StatePays_5 (_ : Unit) : List EOp := [⟨0, (some 22), none, (.call 11 []), []⟩, ⟨1, (some 6), none, (.q (.mov (.t 22))), []⟩]
@[simp] def b_StatePays_6 (_ : Unit) : EB := reg0 (hid l_StatePays_5) 2
@[simp] def b_StatePays_7 (_ : Unit) : EB := .seq (hid b_StatePays_6) .ret
@[simp] def b_StatePays_8 (_ : Unit) : EB := .cond (.t 21) (hid b_StatePays_7) .skip
@[simp] def b_StatePays_9 (_ : Unit) : EB := .seq (hid b_StatePays_4) (hid b_StatePays_8)
@[simp] def l_StatePays_10 (_ : Unit) : List EOp := [⟨0, (some 23), none, (.q (.lda 5 (.t 3))), []⟩, ⟨1, (some 24), none, (.call 13 [(.t 23)]), []⟩, ⟨2, (some 7), none, (.q (.alloc 32 [(.int .i64 0), (.int .i64 0), (.int .i64 0), (.slice none 0 0), (.slice none 0 0)])), []⟩, ⟨3, none, none, (.fz (.sto 5 (.t 7) (.t 24))), []⟩]
@[simp] def b_StatePays_11 (_ : Unit) : EB := reg0 (hid l_StatePays_10) 4
@[simp] def l_StatePays_13 (_ : Unit) : List EOp := [⟨6, (some 8), none, (.q (.alloc 32 [(.int .i64 0), (.int .i64 0), (.int .i64 0), (.slice none 0 0), (.slice none 0 0)])), []⟩, ⟨7, none, none, (.fz (.sto 5 (.t 8) (.t 29))), []⟩, ⟨8, (some 9), none, (.q (.mov (.t 30))), []⟩]
@[simp] def l_StatePays_12 (_ : Unit) : List EOp := ⟨0, (some 26), none, (.q (.lda 5 (.t 7))), []⟩ :: ⟨1, (some 27), none, (.q (.lda 36 (.t 4))), []⟩ :: ⟨2, (some 28), none, (.call 23 [(.t 26), (.t 27)]), []⟩ :: ⟨3, (some 25), none, (.q (.mov (.t 28))), []⟩ :: ⟨4, (some 29), none, (.q (.ext 0 (.t 25))), []⟩ :: ⟨5, (some 30), none, (.q (.ext 1 (.t 25))), []⟩ :: hid l_StatePays_13
@[simp] def b_StatePays_14 (_ : Unit) : EB := reg0 (hid l_StatePays_12) 9
@[simp] def l_StatePays_16 (_ : Unit) : List EOp := [⟨6, (some 10), none, (.q (.alloc 26 [(.int .i64 0), (.int .i64 0), (.int .i64 0), (.slice none 0 0), (.slice none 0 0)])), []⟩, ⟨7, none, none, (.fz (.sto 5 (.t 10) (.t 35))), []⟩, ⟨8, (some 11), none, (.q (.mov (.t 36))), []⟩]
@[simp] def l_StatePays_15 (_ : Unit) : List EOp := ⟨0, (some 32), none, (.q (.lda 5 (.t 3))), []⟩ :: ⟨1, (some 33), none, (.q (.lda 36 (.t 4))), []⟩ :: ⟨2, (some 34), none, (.call 34 [(.t 32), (.t 33)]), []⟩ :: ⟨3, (some 31), none, (.q (.mov (.t 34))), []⟩ :: ⟨4, (some 35), none, (.q (.ext 0 (.t 31))), []⟩ :: ⟨5, (some 36), none, (.q (.ext 1 (.t 31))), []⟩ :: hid l_StatePays_16
@[simp] def b_StatePays_17 (_ : Unit) : EB := reg0 (hid l_StatePays_15) 9
@[simp] def l_StatePays_19 (_ : Unit) : List EOp := [⟨6, (some 43), none, (.q (.ext 0 (.t 37))), []⟩, ⟨7, (some 44), none, (.q (.ext 1 (.t 37))), []⟩, ⟨8, (some 12), none, (.q (.alloc 32 [(.int .i64 0), (.int .i64 0), (.int .i64 0), (.slice none 0 0), (.slice none 0 0)])), []⟩, ⟨9, none, none, (.fz (.sto 5 (.t 12) (.t 43))), []⟩, ⟨10, (some 13), none, (.q (.mov (.t 44))), []⟩]
@[simp] def l_StatePays_18 (_ : Unit) : List EOp := ⟨0, (some 38), none, (.q (.lda 5 (.t 7))), []⟩ :: ⟨1, (some 39), none, (.q (.fad 0 (.t 4))), []⟩ :: ⟨2, (some 40), none, (.q (.ldc (.t 39))), []⟩ :: ⟨3, (some 41), none, (.q (.mov (.t 2))), []⟩ :: ⟨4, (some 42), none, (.call 24 [(.t 38), (.t 40), (.t 41)]), []⟩ :: ⟨5, (some 37), none, (.q (.mov (.t 42))), []⟩ :: hid l_StatePays_19
@[simp] def b_StatePays_20 (_ : Unit) : EB := reg0 (hid l_StatePays_18) 11
@[simp] def l_StatePays_22 (_ : Unit) : List EOp := [⟨6, (some 51), none, (.q (.ext 0 (.t 45))), []⟩, ⟨7, (some 52), none, (.q (.ext 1 (.t 45))), []⟩, ⟨8, (some 14), none, (.q (.alloc 26 [(.int .i64 0), (.int .i64 0), (.int .i64 0), (.slice none 0 0), (.slice none 0 0)])), []⟩, ⟨9, none, none, (.fz (.sto 5 (.t 14) (.t 51))), []⟩, ⟨10, (some 15), none, (.q (.mov (.t 52))), []⟩]
@[simp] def l_StatePays_21 (_ : Unit) : List EOp := ⟨0, (some 46), none, (.q (.lda 5 (.t 3))), []⟩ :: ⟨1, (some 47), none, (.q (.fad 0 (.t 4))), []⟩ :: ⟨2, (some 48), none, (.q (.ldc (.t 47))), []⟩ :: ⟨3, (some 49), none, (.q (.mov (.t 2))), []⟩ :: ⟨4, (some 50), none, (.call 35 [(.t 46), (.t 48), (.t 49)]), []⟩ :: ⟨5, (some 45), none, (.q (.mov (.t 50))), []⟩ :: hid l_StatePays_22
@[simp] def b_StatePays_23 (_ : Unit) : EB := reg0 (hid l_StatePays_21) 11
@[simp] def l_StatePays_25 (_ : Unit) : List EOp := [⟨6, (some 59), none, (.q (.ext 1 (.t 53))), []⟩, ⟨7, (some 16), none, (.q (.alloc 32 [(.int .i64 0), (.int .i64 0), (.int .i64 0), (.slice none 0 0), (.slice none 0 0)])), []⟩, ⟨8, none, none, (.fz (.sto 5 (.t 16) (.t 58))), []⟩, ⟨9, (some 17), none, (.q (.mov (.t 59))), []⟩]
@[simp] def l_StatePays_24 (_ : Unit) : List EOp := ⟨0, (some 54), none, (.q (.lda 5 (.t 7))), []⟩ :: ⟨1, (some 55), none, (.q (.fad 0 (.t 4))), []⟩ :: ⟨2, (some 56), none, (.q (.ldc (.t 55))), []⟩ :: ⟨3, (some 57), none, (.call 25 [(.t 54), (.t 56)]), []⟩ :: ⟨4, (some 53), none, (.q (.mov (.t 57))), []⟩ :: ⟨5, (some 58), none, (.q (.ext 0 (.t 53))), []⟩ :: hid l_StatePays_25
@[simp] def b_StatePays_26 (_ : Unit) : EB := reg0 (hid l_StatePays_24) 10
@[simp] def l_StatePays_28 (_ : Unit) : List EOp := [⟨6, (some 66), none, (.q (.ext 1 (.t 60))), []⟩, ⟨7, (some 18), none, (.q (.alloc 26 [(.int .i64 0), (.int .i64 0), (.int .i64 0), (.slice none 0 0), (.slice none 0 0)])), []⟩, ⟨8, none, none, (.fz (.sto 5 (.t 18) (.t 65))), []⟩, ⟨9, (some 19), none, (.q (.mov (.t 66))), []⟩]
@[simp] def l_StatePays_27 (_ : Unit) : List EOp := ⟨0, (some 61), none, (.q (.lda 5 (.t 3))), []⟩ :: ⟨1, (some 62), none, (.q (.fad 0 (.t 4))), []⟩ :: ⟨2, (some 63), none, (.q (.ldc (.t 62))), []⟩ :: ⟨3, (some 64), none, (.call 36 [(.t 61), (.t 63)]), []⟩ :: ⟨4, (some 60), none, (.q (.mov (.t 64))), []⟩ :: ⟨5, (some 65), none, (.q (.ext 0 (.t 60))), []⟩ :: hid l_StatePays_28
@[simp] def b_StatePays_29 (_ : Unit) : EB := reg0 (hid l_StatePays_27) 10
@[simp] def l_StatePays_35 (_ : Unit) : List EOp := [⟨30, (some 97), none, (.q (.pick (.t 95) (.t 96) (.k (.bool false)))), []⟩, ⟨31, (some 6), none, (.q (.mov (.t 97))), []⟩]
@[simp] def l_StatePays_34 (_ : Unit) : List EOp := ⟨24, (some 91), (some (86, true)), (.call 33 [(.t 90)]), [22]⟩ :: ⟨25, (some 92), (some (86, true)), (.q (.b2s (.t 91))), []⟩ :: ⟨26, (some 93), (some (86, true)), (.q (.bin .eql (.t 89) (.t 92))), []⟩ :: ⟨27, (some 94), none, (.q (.pick (.t 86) (.t 93) (.k (.bool false)))), []⟩ :: ⟨28, (some 95), none, (.q (.mov (.t 94))), []⟩ :: ⟨29, (some 96), (some (95, true)), (.call 11 []), []⟩ :: hid l_StatePays_35
@[simp] def l_StatePays_33 (_ : Unit) : List EOp := ⟨18, (some 85), none, (.q (.pick (.t 79) (.t 84) (.k (.bool false)))), []⟩ :: ⟨19, (some 86), none, (.q (.mov (.t 85))), []⟩ :: ⟨20, (some 87), (some (86, true)), (.q (.lda 5 (.t 7))), []⟩ :: ⟨23, (some 90), (some (86, true)), (.q (.lda 5 (.t 3))), []⟩ :: ⟨21, (some 88), (some (86, true)), (.call 22 [(.t 87)]), [23]⟩ :: ⟨22, (some 89), (some (86, true)), (.q (.b2s (.t 88))), []⟩ :: hid l_StatePays_34
@[simp] def l_StatePays_32 (_ : Unit) : List EOp := ⟨12, (some 79), none, (.q (.mov (.t 78))), []⟩ :: ⟨13, (some 80), (some (79, true)), (.q (.lda 5 (.t 16))), []⟩ :: ⟨14, (some 81), (some (79, true)), (.q (.mov (.t 17))), []⟩ :: ⟨15, (some 82), (some (79, true)), (.q (.lda 5 (.t 18))), []⟩ :: ⟨16, (some 83), (some (79, true)), (.q (.mov (.t 19))), []⟩ :: ⟨17, (some 84), (some (79, true)), (.call 15 [(.t 80), (.t 81), (.t 82), (.t 83)]), []⟩ :: hid l_StatePays_33
@[simp] def l_StatePays_31 (_ : Unit) : List EOp := ⟨6, (some 73), (some (72, true)), (.q (.lda 5 (.t 12))), []⟩ :: ⟨7, (some 74), (some (72, true)), (.q (.mov (.t 13))), []⟩ :: ⟨8, (some 75), (some (72, true)), (.q (.lda 5 (.t 14))), []⟩ :: ⟨9, (some 76), (some (72, true)), (.q (.mov (.t 15))), []⟩ :: ⟨10, (some 77), (some (72, true)), (.call 15 [(.t 73), (.t 74), (.t 75), (.t 76)]), []⟩ :: ⟨11, (some 78), none, (.q (.pick (.t 72) (.t 77) (.k (.bool false)))), []⟩ :: hid l_StatePays_32
@[simp] def l_StatePays_30 (_ : Unit) : List EOp := ⟨0, (some 67), none, (.q (.lda 5 (.t 8))), []⟩ :: ⟨1, (some 68), none, (.q (.mov (.t 9))), []⟩ :: ⟨2, (some 69), none, (.q (.lda 5 (.t 10))), []⟩ :: ⟨3, (some 70), none, (.q (.mov (.t 11))), []⟩ :: ⟨4, (some 71), none, (.call 15 [(.t 67), (.t 68), (.t 69), (.t 70)]), []⟩ :: ⟨5, (some 72), none, (.q (.mov (.t 71))), []⟩ :: hid l_StatePays_31
@[simp] def b_StatePays_36 (_ : Unit) : EB := reg1 (hid l_StatePays_30) 32
@[simp] def b_StatePays_37 (_ : Unit) : EB := .seq (hid b_StatePays_36) .ret
@[simp] def b_StatePays_38 (_ : Unit) : EB := .seq (hid b_StatePays_29) (hid b_StatePays_37)
@[simp] def b_StatePays_39 (_ : Unit) : EB := .seq (hid b_StatePays_26) (hid b_StatePays_38)
@[simp] def b_StatePays_40 (_ : Unit) : EB := .seq (hid b_StatePays_23) (hid b_StatePays_39)
@[simp] def b_StatePays_41 (_ : Unit) : EB := .seq (hid b_StatePays_20) (hid b_StatePays_40)
@[simp] def b_StatePays_42 (_ : Unit) : EB := .seq (hid b_StatePays_17) (hid b_StatePays_41)
@[simp] def b_StatePays_43 (_ : Unit) : EB := .seq (hid b_StatePays_14) (hid b_StatePays_42)
@[simp] def b_StatePays_44 (_ : Unit) : EB := .seq (hid b_StatePays_11) (hid b_StatePays_43)
@[simp] def b_StatePays_45 (_ : Unit) : EB := .seq (hid b_StatePays_9) (hid b_StatePays_44)
@[simp] def b_StatePays_46 (_ : Unit) : EB := .seq (hid b_StatePays_2) (hid b_StatePays_45)
def c_StatePays : EB × List QOp × Nat := ((hid b_StatePays_46), [(.mov (.t 6))], 98)
theorem k_StatePays : cfun Tryd.prog 9 = some c_StatePays := by kernel_rfl


/-- A payment of nothing, as a value; as it reads. -/
def zPayV : Array Value := (List.replicate 4 (Value.int .i64 0) ++ List.replicate 32 (Value.int .u8 0)).toArray
def zPayD {H : Type} : DataW H := .agg [.lit (.int .i64 0), .lit (.int .i64 0), .lit (.int .i64 0), .lit (.int .i64 0), .agg (List.replicate 32 (.lit (.int .u8 0)))]
theorem ite_z {c : Prop} [Decidable c] {a b : Sta × Nat} (ha : a.1 = zSta) (hb : b.2 ≠ 0 → b.1 = zSta) : (if c then a else b).2 ≠ 0 → (if c then a else b).1 = zSta := by
  split
  · exact fun _ => ha
  · exact hb
theorem addP_z {s : Sta} {p : Pay} : (addP s p).2 ≠ 0 → (addP s p).1 = zSta := by
  unfold addP
  exact ite_z rfl (ite_z rfl (ite_z rfl (ite_z rfl (ite_z rfl (ite_z rfl (ite_z rfl fun h => absurd rfl h))))))
theorem takS_z {s : Sta} {x : Int} (h : (takS s x).2.2 ≠ 0) : (takS s x).1 = zSta := by
  unfold takS at h ⊢
  repeat' split
  all_goals first | rfl | (simp_all)
theorem falS_z {s : Sta} {x : Int} (h : (falS s x).2 ≠ 0) : (falS s x).1 = zSta := by
  unfold falS at h ⊢
  split
  · rfl
  · rename_i h1; rw [if_neg h1] at h; exact absurd rfl h
theorem setS_z {s : Sta} {x : Int} {b : List UInt8} (h : (setS s x b).2 ≠ 0) : (setS s x b).1 = zSta := by
  unfold setS at h ⊢
  split
  · rfl
  · split
    · rfl
    · rename_i h1 h2; rw [if_neg h1, if_neg h2] at h; exact absurd rfl h
theorem addP_h {s : Sta} {p : Pay} (h : (addP s p).2 = 0) : (addP s p).1.holds = s.holds ∧ (addP s p).1.pays.length = s.pays.length + 1 ∧ s.pays.length + s.holds.length < 8 := by
  obtain ⟨h1, h2, h3, h4, h5, h6, h7⟩ := addP_may h
  obtain ⟨⟨_, _, _, _, _, _, _, h8⟩, _⟩ := mayS_t h6
  rw [h5] at h8 ⊢
  have hl : (insP s.pays p).length = s.pays.length + 1 := len_ins Pay.id s.pays p
  dsimp only at h8 ⊢
  exact ⟨rfl, hl, by omega⟩
theorem falS_h {s : Sta} {x : Int} (h : (falS s x).2 = 0) : (falS s x).1.holds = s.holds ∧ (falS s x).1.pays.length ≤ s.pays.length := by
  unfold falS at h ⊢
  split at h
  · rename_i h1; exact absurd h h1
  rename_i h1
  rw [if_neg h1]
  obtain ⟨_, e, _, _, h5, _⟩ := takS_gd (Classical.not_not.1 h1)
  exact ⟨rfl, by show (takS s x).1.pays.length ≤ _; rw [e]; show (delA Pay.id s.pays x).length ≤ _; omega⟩
theorem setS_h {s : Sta} {x : Int} {b : List UInt8} (h : (setS s x b).2 = 0) : (setS s x b).1.holds = s.holds ∧ (setS s x b).1.pays.length ≤ s.pays.length := by
  unfold setS at h ⊢
  split at h
  · rename_i h1; exact absurd h h1
  rename_i h1
  rw [if_neg h1]
  split at h
  · simp at h
  rename_i h2
  rw [if_neg h2]
  obtain ⟨_, e, _, _, h5, _⟩ := takS_gd (Classical.not_not.1 h1)
  exact ⟨rfl, by show (takS s x).1.pays.length ≤ _; rw [e]; show (delA Pay.id s.pays x).length ≤ _; omega⟩
theorem zSta_sm : zSta.ok ∧ zSta.small := zSta_ok
theorem addP_sm {s : Sta} {p : Pay} (hs : s.ok) (hm : s.small) (hp : p.ok) : (addP s p).1.ok ∧ (addP s p).1.small := by
  by_cases h : (addP s p).2 = 0
  · obtain ⟨h1, h2, h3⟩ := addP_h h
    obtain ⟨_, _, _, h4⟩ := addP_gd hs hp h
    exact ⟨h4, by omega, by rw [h1]; exact hm.2.1, by rw [h1]; exact hm.2.2⟩
  · rw [addP_z h]; exact zSta_ok
theorem falS_sm {s : Sta} {x : Int} (hs : s.ok) (hm : s.small) : (falS s x).1.ok ∧ (falS s x).1.small := by
  by_cases h : (falS s x).2 = 0
  · obtain ⟨h1, h2⟩ := falS_h h
    obtain ⟨_, _, _, h4⟩ := falS_gd hs h
    exact ⟨h4, by have := hm.1; omega, by rw [h1]; exact hm.2.1, by rw [h1]; exact hm.2.2⟩
  · rw [falS_z h]; exact zSta_ok
theorem setS_sm {s : Sta} {x : Int} {b : List UInt8} (hs : s.ok) (hm : s.small) : (setS s x b).1.ok ∧ (setS s x b).1.small := by
  by_cases h : (setS s x b).2 = 0
  · obtain ⟨h1, h2⟩ := setS_h h
    obtain ⟨_, _, _, h4⟩ := setS_gd hs h
    exact ⟨h4, by have := hm.1; omega, by rw [h1]; exact hm.2.1, by rw [h1]; exact hm.2.2⟩
  · rw [setS_z h]; exact zSta_ok

set_option maxHeartbeats 4000000 in
theorem StatePays_ok (s : Sta) (p : Pay) (b : List UInt8) (hs : s.ok) (hp : p.ok) (hb : b.length ≤ 100000000) : ECalls Tryd.prog 9 [SV s, .v (.agg (payC p)), Bs b] [] fun y H' => H' = [] ∧ y = .lit (.bool true) := by
  have hx : i64 p.id := ⟨hp.1.1, hp.1.2⟩
  have hpt := payC_take hp.2.2.2.2
  have hpl := payC_len hp.2.2.2.2
  refine ecalls k_StatePays ?_
  simp [c_StatePays, SV, staC, I, Bs, hc0']
  refine call0 (longState_ok s hs) (by simp [Ptr, I, EV.lit, Bs, SV, staC, SE, RE, hc0']) ?_
  rintro y H' ⟨rfl, rfl⟩
  refine ⟨.inl (by simp [Ptr, I, EV.lit, Bs, SV, staC, SE, RE, hc0']), le_ok rfl, ?_⟩
  simp
  refine alt (fun hl => ?_) (fun hl => ?_)
  · simp [hl]
    refine call0 (sure_ok) (by simp [Ptr, I, EV.lit, Bs, SV, staC, SE, RE, hc0']) ?_
    rintro y H' ⟨rfl, rfl⟩
    refine ⟨.inl (by simp [Ptr, I, EV.lit, Bs, SV, staC, SE, RE, hc0']), le_ok rfl, ?_⟩
    simp [Ptr, I, EV.lit, Bs, SV, staC, SE, RE, hc0']
    exact fin [] (by decide) rfl rfl rfl ⟨rfl, rfl⟩
  have hsm := (longS_small (by simpa using hl)).1
  obtain ⟨q1, q2⟩ := addP_sm (p := p) hs hsm hp
  obtain ⟨q3, q4⟩ := setS_sm (x := p.id) (b := b) hs hsm
  obtain ⟨q5, q6⟩ := falS_sm (x := p.id) hs hsm
  simp [hl]
  refine call0 (giveState_ok s hs hsm) (by simp [Ptr, I, EV.lit, Bs, SV, staC, SE, RE, hc0']) ?_
  rintro y H' ⟨rfl, rfl⟩
  refine ⟨.inl (by simp [Ptr, I, EV.lit, Bs, SV, staC, SE, RE, hc0']), le_ok rfl, ?_⟩
  simp [SV, staC, hpt, hpl, pc0, pc1, pc2, pd1, pd2, pe0, pe1, pe2]
  refine call0 (SAdd_ok s p hs hp) (by simp [SV, staC]) ?_
  rintro y H' ⟨rfl, rfl⟩
  refine ⟨.inl (by simp), le_ok rfl, ?_⟩
  simp [SE, staC, hpt, hpl, pc0, pe0]
  refine call0 (RAdd_ok s p hs hp) (by simp [SV, staC]) ?_
  rintro y H' ⟨rfl, rfl⟩
  refine ⟨.inl (by simp), le_ok rfl, ?_⟩
  simp [RE, staC, hpt, hpl, pc0, pe0]
  refine call0 (SSettle_ok s p.id b hs hx hb) (by simp [SV, staC, I, Bs]) ?_
  rintro y H' ⟨rfl, rfl⟩
  refine ⟨.inl (by simp), le_ok rfl, ?_⟩
  simp [SE, staC, hpt, hpl, pc0, pe0]
  refine call0 (RSettle_ok s p.id b hs hx hb) (by simp [SV, staC, I, Bs]) ?_
  rintro y H' ⟨rfl, rfl⟩
  refine ⟨.inl (by simp), le_ok rfl, ?_⟩
  simp [RE, staC, hpt, hpl, pc0, pe0]
  refine call0 (SFail_ok s p.id hs hx) (by simp [SV, staC, I]) ?_
  rintro y H' ⟨rfl, rfl⟩
  refine ⟨.inl (by simp), le_ok rfl, ?_⟩
  simp [SE, staC, hpt, hpl, pc0, pe0]
  refine call0 (RFail_ok s p.id hs hx) (by simp [SV, staC, I]) ?_
  rintro y H' ⟨rfl, rfl⟩
  refine ⟨.inl (by simp), le_ok rfl, ?_⟩
  simp [RE, staC, hpt, hpl, pc0, pe0]
  refine call0 (same_ok (addP s p).1 (addP s p).2 q1 q2) (by simp [Ptr, I, EV.lit, Bs, SV, staC, SE, RE, hc0']) ?_
  rintro y H' ⟨rfl, rfl⟩
  refine ⟨.inl (by simp [Ptr, I, EV.lit, Bs, SV, staC, SE, RE, hc0']), le_ok rfl, ?_⟩
  simp [Ptr, I, EV.lit, Bs, SV, staC, SE, RE, hc0']
  refine call0 (same_ok (setS s p.id b).1 (setS s p.id b).2 q3 q4) (by simp [Ptr, I, EV.lit, Bs, SV, staC, SE, RE, hc0']) ?_
  rintro y H' ⟨rfl, rfl⟩
  refine ⟨.inl (by simp [Ptr, I, EV.lit, Bs, SV, staC, SE, RE, hc0']), le_ok rfl, ?_⟩
  simp [Ptr, I, EV.lit, Bs, SV, staC, SE, RE, hc0']
  refine call0 (same_ok (falS s p.id).1 (falS s p.id).2 q5 q6) (by simp [Ptr, I, EV.lit, Bs, SV, staC, SE, RE, hc0']) ?_
  rintro y H' ⟨rfl, rfl⟩
  refine ⟨.inl (by simp [Ptr, I, EV.lit, Bs, SV, staC, SE, RE, hc0']), le_ok rfl, ?_⟩
  simp [Ptr, I, EV.lit, Bs, SV, staC, SE, RE, hc0']
  refine call0 (Encode_ok s hs hsm) (by simp [Ptr, I, EV.lit, Bs, SV, staC, SE, RE, hc0']) ?_
  rintro y H' ⟨rfl, rfl⟩
  refine ⟨.inl (by simp [Ptr, I, EV.lit, Bs, SV, staC, SE, RE, hc0']), le_ok rfl, ?_⟩
  simp [Ptr, I, EV.lit, Bs, SV, staC, SE, RE, hc0']
  refine call0 (REncode_ok s hs hsm) (by simp [Ptr, I, EV.lit, Bs, SV, staC, SE, RE, hc0']) ?_
  rintro y H' ⟨rfl, rfl⟩
  refine ⟨.inl (by simp [Ptr, I, EV.lit, Bs, SV, staC, SE, RE, hc0']), le_ok rfl, ?_⟩
  simp [Ptr, I, EV.lit, Bs, SV, staC, SE, RE, hc0']
  refine call0 (sure_ok) (by simp [Ptr, I, EV.lit, Bs, SV, staC, SE, RE, hc0']) ?_
  rintro y H' ⟨rfl, rfl⟩
  refine ⟨.inl (by simp [Ptr, I, EV.lit, Bs, SV, staC, SE, RE, hc0']), le_ok rfl, ?_⟩
  simp [Ptr, I, EV.lit, Bs, SV, staC, SE, RE, hc0']
  exact fin [] (by decide) rfl rfl rfl ⟨rfl, rfl⟩

end Go.Proofs.YtpohjnhlhfbnaaaDoor
