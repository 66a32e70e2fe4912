import Derived.Test.YtdeeophiffchjaaDoorAll7
import Derived.Test.YtdeeophiffchjaaDoorProg
import Derived.Test.YtdeeophiffchjaaDoorAll5
import Derived.Lib.TrailingZeros
namespace Go.Proofs.YtdeeophiffchjaaDoor
open Go Go.EW
set_option linter.unusedSimpArgs false
set_option linter.unusedVariables false

theorem wrw_app (l r : List UInt32) : wrw l ++ wrw r = wrw (l ++ r) := by simp [wrw]

theorem mW_mI (b : List UInt8) : mW b 16 = mI b 16 := by
  unfold mW mI upW
  refine List.map_congr_left fun j hj => ?_
  rw [if_pos (List.mem_range.1 hj)]
theorem xW_xorS {h v : List UInt32} (hh : h.length = 8) : xW h v 8 = xorS h v 8 := by
  match h, hh with
  | [h0, h1, h2, h3, h4, h5, h6, h7], _ =>
    simp [xW, xF, xorS, g, List.range_succ, UInt32.xor_assoc]

set_option maxRecDepth 8000 in
set_option maxHeartbeats 8000000 in
theorem Btk_ok (h : List UInt32) (b : List UInt8) (t : Nat) (last : Bool) (hh : h.length = 8) (hb : b.length = 64) (ht : t < 18446744073709551616) :
    ECalls Tryd.prog 56 [FW h, Bs b, .lit (.int .u64 t), .lit (.bool last)] [] fun y H' => H' = [some (.row 90 1 (wrw (takeS h b t last)))] ∧ y = .v (.c (.row 0 8)) := by
  refine ecalls k_Btk ?_
  simp [c_Btk, FW, Bs]
  refine loopW _ (weak_nilR 9 90 1 rfl (by decide)) ?_
  simp
  refine loopW _ (weak_norm [48] (bk0 h b t last 0 .any .any) (bh0 b 0) (by simp [bk0, NV, FW, Bs]) (by simp [bh0, mW, wrw]) (by simp [bh0]) (by simp) (by simp [bh0])) (bk_words h b t last hb _ ?_)
  simp [bk0, bh0, NV, FW, Bs, hh]
  refine call0 Bbegin_ok (by simp) ?_
  rintro y H' ⟨rfl, rfl⟩
  refine ⟨.inl (by simp), by simp, ?_⟩
  have fl : firstW.length = 8 := rfl
  have tf : List.take 8 (wrw firstW) = wrw firstW := List.take_of_length_le (by simp; decide)
  simp [hh, fl, tf, wrw_app]
  obtain ⟨v0, h0⟩ : ∃ w, h ++ firstW = w := ⟨_, rfl⟩
  have e0 : v0.length = 16 := by rw [← h0, List.length_append, hh, fl]
  have wl0 : IntKind.u32.wrap ((t : Int) % 4294967296) = wi (lo32 t) := by rw [← wi_lo]; simp only [u32_mod]; omega
  have tm : ((t : Int)).tmod 4294967296 = (t : Int) % 4294967296 := Int.tmod_eq_emod_of_nonneg (by omega)
  have td : ((t : Int)).tdiv 4294967296 = (t : Int) / 4294967296 := Int.tdiv_eq_ediv_of_nonneg (by omega)
  obtain ⟨v1, h1⟩ : ∃ w, v0.set 12 (g v0 12 ^^^ lo32 t) = w := ⟨_, rfl⟩
  have e1 : v1.length = 16 := by rw [← h1, List.length_set]; exact e0
  obtain ⟨v2, h2⟩ : ∃ w, v1.set 13 (g v1 13 ^^^ hi32 t) = w := ⟨_, rfl⟩
  have e2 : v2.length = 16 := by rw [← h2, List.length_set]; exact e1
  have hini : iniS h t last = if last then v2.set 14 (~~~ g v2 14) else v2 := by unfold iniS; simp only [h0, h1, h2]
  have wu : IntKind.u64.wrap ((t : Int) / 4294967296) = (t : Int) / 4294967296 := wrap_u64 (by omega) (by omega)
  simp [h0, e0, wrw_gE', wrw_set, wi_lo, wl0, tm, td, wu, wi_hi, wi_xor, h1, e1, h2, e2]
  obtain ⟨v3, h3⟩ : ∃ w, iniS h t last = w := ⟨_, rfl⟩
  have e3 : v3.length = 16 := by rw [← h3, hini]; split <;> simp [e2]
  have xn : ibit .xor .u32 (wi (g v2 14)) 4294967295 = wi (~~~ g v2 14) := by
    have := wi_xor (g v2 14) 0xffffffff
    rw [show wi 0xffffffff = 4294967295 from rfl] at this
    rw [this, show g v2 14 ^^^ 0xffffffff = ~~~ g v2 14 from UInt32.toBitVec_inj.1 (by rw [UInt32.toBitVec_xor, UInt32.toBitVec_not]; exact BitVec.xor_allOnes)]
  refine alt (fun hl => ?_) (fun hl => ?_)
  case' refine_1 =>
    have h14 : v2.set 14 (~~~ g v2 14) = v3 := by rw [← h3, hini, if_pos hl]
    simp [e2, wrw_gE', wrw_set, xn, h14]
  case' refine_2 =>
    have h14 : v2 = v3 := by rw [← h3, hini, if_neg (by simpa using hl)]
    simp [h14]
  all_goals
    refine loopW _ (weak_norm [0, 113] (bk2 h 0 .any .any) (bh4 (mW b 16) v3) (by simp [bk2, NV, FW, tabF, List.range_succ, nF, qpA, qpB, qpC, qpD]) (by simp [bh4]) (by simp [bh4]) (by simp) (by simp)) (bk_rnds h (mW b 16) v3 (mW_len b 16) e3 _ ?_)
    have er : (rndsS (mW b 16) v3 10).length = 16 := by rw [rndsS_len]; exact e3
    simp [bk2, bh4, NV, FW]
    refine loopW _ (weak_nilR 17 90 1 rfl (by decide)) ?_
    simp
    refine loopW _ (weak_norm [1, 66] (bk6 h 0 .any .any) (bh6 h (rndsS (mW b 16) v3 10) 0) (by simp [bk6, NV, FW]) (by simp [bh6, xW, wrw]) (by simp [bh6]) (by simp) (by simp)) (bk_xor h _ hh er _ ?_)
    simp [bk6, bh6, NV, FW]
    refine fin [1] (by decide) rfl rfl rfl ⟨?_, rfl⟩
    have ht2 : takeS h b t last = xW h (rndsS (mW b 16) v3 10) 8 := by
      unfold takeS
      rw [h3, ← mW_mI, xW_xorS hh]
    rw [ht2]

end Go.Proofs.YtdeeophiffchjaaDoor

namespace Go.Proofs.YtdeeophiffchjaaDoor
open Go Go.EW
set_option linter.unusedSimpArgs false
set_option linter.unusedVariables false

/-- The rest of a message, block by block: what stands so far, how many bytes were taken, what is left (the last block is never taken before the end). -/
def kS : Nat → List UInt32 → Nat → List UInt8 → List UInt32
  | 0, h, t, r => takeS h (padS r) (t + r.length) true
  | k + 1, h, t, r => if r.length ≤ 64 then takeS h (padS r) (t + r.length) true else kS k (takeS h (r.take 64) (t + 64) false) (t + 64) (r.drop 64)
theorem wstep_skip (h : List UInt32) (w : List UInt8) (t : Nat) (r : List UInt8) (hw : w.length = 64) : wstep (h, w, t, r) = wstep (takeS h w (t + 64) false, [], t + 64, r) := by
  simp [wstep, wst1, hw]
theorem wall_kS (N : Nat) : ∀ (k : Nat) (h : List UInt32) (t : Nat) (r : List UInt8), h.length = 8 → Wok' N (h, [], t, r) → r.length ≤ 64 * (k + 1) → finS (wall (h, [], t, r)) = outS (kS k h t r) := by
  intro k
  induction k with
  | zero =>
    intro h t r hh o hr
    by_cases h0 : r = []
    · subst h0
      rw [wall_nil rfl]
      simp [finS, kS]
    · rw [wall_step o h0]
      have e : wstep (h, [], t, r) = (h, r, t, []) := by simp [wstep, wst1, wst2, Nat.min_eq_left (show r.length ≤ 64 by omega)]
      rw [e, wall_nil rfl]
      simp [finS, kS]
  | succ k ih =>
    intro h t r hh o hr
    by_cases h64 : r.length ≤ 64
    · by_cases h0 : r = []
      · subst h0
        rw [wall_nil rfl]
        simp [finS, kS]
      · rw [wall_step o h0]
        have e : wstep (h, [], t, r) = (h, r, t, []) := by simp [wstep, wst1, wst2, Nat.min_eq_left h64]
        rw [e, wall_nil rfl]
        simp [finS, kS, h64]
    · have h0 : r ≠ [] := by rintro rfl; simp at h64
      have e : wstep (h, [], t, r) = (h, r.take 64, t, r.drop 64) := by simp [wstep, wst1, wst2, Nat.min_eq_right (show 64 ≤ r.length by omega)]
      have o1 := wstep_ok o
      rw [e] at o1
      have hd : r.drop 64 ≠ [] := by
        intro hd
        have := congrArg List.length hd
        simp at this
        omega
      have ht : (r.take 64).length = 64 := by simp; omega
      have o2 : Wok' N (takeS h (r.take 64) (t + 64) false, [], t + 64, r.drop 64) := by
        have := wst1_ok o1
        simpa [wst1, ht] using this
      rw [wall_step o h0, e, wall_step o1 hd, wstep_skip _ _ _ _ ht, ← wall_step o2 hd]
      rw [ih _ _ _ (by rw [takeS_len]; exact hh) o2 (by simp; omega)]
      simp [kS, h64]

end Go.Proofs.YtdeeophiffchjaaDoor

namespace Go.Proofs.YtdeeophiffchjaaDoor
open Go Go.EW
set_option linter.unusedSimpArgs false
set_option linter.unusedVariables false

/-- A row that is made and handed back may be handed back as one that is only looked at. -/
theorem ecalls_frz {P : Program} {f : FuncId} {args : List EV} {ty es : Nat} {xs : List (List FV)} (h : ECalls P f args [] fun y H' => H' = [some (.row ty es xs)] ∧ y = .v (.c (.row 0 xs.length))) : ECalls P f args [] fun y H' => H' = [] ∧ y = .v (.c (.fz (.sl es xs))) := by
  intro ρ Φ w vals r ha
  refine (h ρ Φ w vals r ha).mono ?_
  rintro e w' ⟨y, H', v, ρ', Φ', he, ⟨rfl, rfl⟩, hlen, hv, hr⟩
  have hw := weak_frz (m := 0) (n := 1) (T := [.v (.c (.row 0 xs.length))]) (H := ofO [some (.row ty es xs)]) (o := 0) (ty := ty) (es := es) (xs := xs) rfl
  obtain ⟨⟨X, hX, r1, a1, _, _⟩, _⟩ := hw w ρ Φ { tmps := #[v], defers := [] } w' ⟨⟨⟨fun o => o < 1, ρ', Φ', w'⟩, rfl, hr, All2.cons hv All2.nil, rfl, fun i hi => hi⟩, Nat.zero_le _⟩
  obtain ⟨XU, Xρ, XΦ, Xw⟩ := X
  obtain rfl : Xw = w' := hX
  refine ⟨_, [], v, Xρ, XΦ, he, ⟨rfl, rfl⟩, Nat.zero_le _, ?_, ?_⟩
  · have := a1.head
    simp at this
    exact this
  · refine ⟨r1.os, r1.tape, r1.output, r1.size, r1.block, fun o ho => absurd ho (Nat.not_lt_zero _), ?_, ?_, ?_, ?_, r1.fro, r1.phi, r1.glob⟩
    · intro o x hx; simp [ofO] at hx
    · intro o o' x x' b hx; simp [ofO] at hx
    · intro o x b hx; simp [ofO] at hx
    · intro o x b hx; simp [ofO] at hx

end Go.Proofs.YtdeeophiffchjaaDoor

namespace Go.Proofs.YtdeeophiffchjaaDoor
open Go Go.EW
set_option linter.unusedSimpArgs false
set_option linter.unusedVariables false

/-! ### the message in blocks -/
/-- How long the message is, padded. -/
def tgt (n : Nat) : Nat := if n = 0 then 64 else (n + 63) / 64 * 64
def padK (b : List UInt8) (k : Nat) : List UInt8 := b ++ List.replicate (k - b.length) 0
theorem padK_len {b : List UInt8} {k : Nat} (h : b.length ≤ k) : (padK b k).length = k := by simp [padK]; omega
theorem padK_0 (b : List UInt8) : padK b b.length = b := by simp [padK]
theorem padK_succ {b : List UInt8} {k : Nat} (h : b.length ≤ k) : padK b k ++ [0] = padK b (k + 1) := by
  unfold padK
  rw [show k + 1 - b.length = (k - b.length) + 1 by omega, List.replicate_succ', List.append_assoc]
theorem tgt_ge (n : Nat) : n ≤ tgt n := by unfold tgt; split <;> omega
theorem tgt_pos (n : Nat) : 64 ≤ tgt n := by unfold tgt; split <;> omega
theorem tgt_mod (n : Nat) : tgt n % 64 = 0 := by unfold tgt; split <;> omega
theorem tgt_le (n : Nat) : tgt n ≤ n + 64 := by unfold tgt; split <;> omega
theorem tgt_lt {n k : Nat} (h : n ≤ k) (h1 : k < tgt n) : k % 64 ≠ 0 ∨ k = 0 := by unfold tgt at h1; split at h1 <;> omega
theorem tgt_last {n j : Nat} (h : 64 * j < tgt n) : 64 * j + 64 = tgt n ↔ n ≤ 64 * j + 64 := by unfold tgt at *; split at h <;> simp_all <;> omega
theorem blk_last {b : List UInt8} {j : Nat} (h : 64 * j < tgt b.length) (h2 : b.length ≤ 64 * j + 64) : ((padK b (tgt b.length)).drop (64 * j)).take 64 = padS (b.drop (64 * j)) := by
  have e := (tgt_last h).2 h2
  have hle : 64 * j ≤ b.length := by unfold tgt at h; split at h <;> omega
  unfold padK padS
  rw [List.drop_append_of_le_length hle, List.take_of_length_le (by simp; omega)]
  congr 2
  simp
  omega
theorem blk_mid {b : List UInt8} {j : Nat} (h2 : 64 * j + 64 < b.length) (k : Nat) : ((padK b k).drop (64 * j)).take 64 = (b.drop (64 * j)).take 64 := by
  unfold padK
  rw [List.drop_append_of_le_length (by omega), List.take_append_of_le_length (by simp; omega)]

/-- The words behind the block j of n. -/
theorem kS_len : ∀ (k : Nat) (h : List UInt32) (t : Nat) (r : List UInt8), (kS k h t r).length = h.length
  | 0, h, t, r => takeS_len _ _ _ _
  | k + 1, h, t, r => by
    unfold kS
    split
    · exact takeS_len _ _ _ _
    · rw [kS_len k, takeS_len]
theorem sumS_kS (b : List UInt8) : sumS b = outS (kS (tgt b.length / 64 - 1) ini8 0 b) := by
  have h := tgt_ge b.length
  have h1 := tgt_pos b.length
  have h2 := tgt_mod b.length
  exact wall_kS _ _ ini8 0 b rfl (w00_ok b) (by omega)

end Go.Proofs.YtdeeophiffchjaaDoor

namespace Go.Proofs.YtdeeophiffchjaaDoor
open Go Go.EW
set_option linter.unusedSimpArgs false
set_option linter.unusedVariables false

@[simp] def l_BKeyed_1 (_ : Unit) : List EOp := [⟨0, (some 4), none, (.q (.alloc 35 zU8)), []⟩, ⟨1, (some 5), none, (.q (.mov (.k (.int .i64 0)))), []⟩]
@[simp] def b_BKeyed_2 (_ : Unit) : EB := reg0 (hid l_BKeyed_1) 2
@[simp] def l_BKeyed_3 (_ : Unit) : List EOp := [⟨0, (some 6), none, (.q (.alloc 35 zU8)), []⟩]
@[simp] def b_BKeyed_4 (_ : Unit) : EB := reg0 (hid l_BKeyed_3) 1
@[simp] def l_BKeyed_5 (_ : Unit) : List EOp := [⟨0, (some 12), none, (.q (.mov (.t 0))), []⟩, ⟨1, (some 13), none, (.q (.len (.t 12))), []⟩, ⟨2, (some 14), none, (.q (.bin .gtr (.t 13) (.k (.int .i64 32)))), []⟩]
@[simp] def b_BKeyed_6 (_ : Unit) : EB := reg0 (hid l_BKeyed_5) 3
@[simp] def l_BKeyed_7 (_ : Unit) : List EOp := [⟨0, (some 15), none, (.q (.lda 32 (.t 6))), []⟩, ⟨1, none, none, (.sto 32 (.t 4) (.t 15)), []⟩, ⟨2, (some 5), none, (.q (.mov (.k (.int .i64 2)))), []⟩]
@[simp] def b_BKeyed_8 (_ : Unit) : EB := reg0 (hid l_BKeyed_7) 3
@[simp] def b_BKeyed_9 (_ : Unit) : EB := .seq (hid b_BKeyed_8) .ret
@[simp] def b_BKeyed_10 (_ : Unit) : EB := .cond (.t 14) (hid b_BKeyed_9) .skip
@[simp] def b_BKeyed_11 (_ : Unit) : EB := .seq (hid b_BKeyed_6) (hid b_BKeyed_10)
@[simp] def l_BKeyed_12 (_ : Unit) : List EOp := [⟨0, (some 16), none, (.call 55 []), []⟩, ⟨1, (some 7), none, (.q (.mov (.t 16))), []⟩]
@[simp] def b_BKeyed_13 (_ : Unit) : EB := reg0 (hid l_BKeyed_12) 2
@[simp] def l_BKeyed_15 (_ : Unit) : List EOp := [⟨6, (some 23), none, (.q (.len (.t 22))), []⟩, ⟨7, (some 24), none, (.q (.bin .mul (.k (.int .i64 256)) (.t 23))), []⟩, ⟨8, (some 25), none, (.q (.cnv .u32 (.t 24))), []⟩, ⟨9, (some 26), none, (.q (.bin .xor (.t 21) (.t 25))), []⟩, ⟨10, (some 27), none, (.q (.isl 1 (.t 17) (.k (.int .i64 0)))), []⟩, ⟨11, none, none, (.sto 1 (.t 27) (.t 26)), []⟩]
@[simp] def l_BKeyed_14 (_ : Unit) : List EOp := ⟨0, (some 17), none, (.q (.mov (.t 7))), []⟩ :: ⟨1, (some 18), none, (.q (.mov (.t 7))), []⟩ :: ⟨2, (some 19), none, (.q (.isl 1 (.t 18) (.k (.int .i64 0)))), []⟩ :: ⟨3, (some 20), none, (.q (.ldc (.t 19))), []⟩ :: ⟨4, (some 21), none, (.q (.bin .xor (.t 20) (.k (.int .u32 16842784)))), []⟩ :: ⟨5, (some 22), none, (.q (.mov (.t 0))), []⟩ :: hid l_BKeyed_15
@[simp] def b_BKeyed_16 (_ : Unit) : EB := reg0 (hid l_BKeyed_14) 12
@[simp] def l_BKeyed_17 (_ : Unit) : List EOp := [⟨0, (some 8), none, (.q (.mov (.k (.slice none 0 0)))), []⟩]
@[simp] def b_BKeyed_18 (_ : Unit) : EB := reg0 (hid l_BKeyed_17) 1
@[simp] def l_BKeyed_19 (_ : Unit) : List EOp := [⟨0, (some 28), none, (.q (.mov (.t 0))), []⟩, ⟨1, (some 29), none, (.q (.len (.t 28))), []⟩, ⟨2, (some 30), none, (.q (.bin .gtr (.t 29) (.k (.int .i64 0)))), []⟩]
@[simp] def b_BKeyed_20 (_ : Unit) : EB := reg0 (hid l_BKeyed_19) 3
@[simp] def l_BKeyed_21 (_ : Unit) : List EOp := [⟨0, (some 31), none, (.q (.mov (.t 8))), []⟩, ⟨1, (some 32), none, (.q (.mov (.t 0))), []⟩, ⟨2, (some 33), none, (.app 5 1 1 (.t 31) (.t 32)), []⟩, ⟨3, (some 8), none, (.q (.mov (.t 33))), []⟩]
@[simp] def b_BKeyed_22 (_ : Unit) : EB := reg0 (hid l_BKeyed_21) 4
@[simp] def l_BKeyed_23 (_ : Unit) : List EOp := [⟨0, (some 34), none, (.q (.mov (.t 8))), []⟩, ⟨1, (some 35), none, (.q (.len (.t 34))), []⟩, ⟨2, (some 36), none, (.q (.bin .lss (.t 35) (.k (.int .i64 64)))), []⟩]
@[simp] def b_BKeyed_24 (_ : Unit) : EB := reg0 (hid l_BKeyed_23) 3
@[simp] def b_BKeyed_25 (_ : Unit) : EB := .cond (.t 36) .skip (.exit 0)
@[simp] def b_BKeyed_26 (_ : Unit) : EB := .seq (hid b_BKeyed_24) (hid b_BKeyed_25)
@[simp] def l_BKeyed_27 (_ : Unit) : List EOp := [⟨0, (some 37), none, (.q (.mov (.t 8))), []⟩, ⟨1, (some 38), none, (.q (.bsl 1 [(.int .u8 0)] 1 [(0, (.k (.int .u8 0)))])), []⟩, ⟨2, (some 39), none, (.app 5 1 1 (.t 37) (.t 38)), []⟩, ⟨3, (some 8), none, (.q (.mov (.t 39))), []⟩]
@[simp] def b_BKeyed_28 (_ : Unit) : EB := reg0 (hid l_BKeyed_27) 4
@[simp] def b_BKeyed_29 (_ : Unit) : EB := .block 1 (hid b_BKeyed_28)
@[simp] def b_BKeyed_30 (_ : Unit) : EB := .seq (hid b_BKeyed_26) (hid b_BKeyed_29)
@[simp] def b_BKeyed_31 (_ : Unit) : EB := .loop (hid b_BKeyed_30)
@[simp] def b_BKeyed_32 (_ : Unit) : EB := .block 0 (hid b_BKeyed_31)
@[simp] def b_BKeyed_33 (_ : Unit) : EB := .seq (hid b_BKeyed_22) (hid b_BKeyed_32)
@[simp] def b_BKeyed_34 (_ : Unit) : EB := .cond (.t 30) (hid b_BKeyed_33) .skip
@[simp] def b_BKeyed_35 (_ : Unit) : EB := .seq (hid b_BKeyed_20) (hid b_BKeyed_34)
@[simp] def l_BKeyed_36 (_ : Unit) : List EOp := [⟨0, (some 40), none, (.q (.mov (.t 8))), []⟩, ⟨1, (some 41), none, (.q (.mov (.t 1))), []⟩, ⟨2, (some 42), none, (.app 5 1 1 (.t 40) (.t 41)), []⟩, ⟨3, (some 8), none, (.q (.mov (.t 42))), []⟩]
@[simp] def b_BKeyed_37 (_ : Unit) : EB := reg0 (hid l_BKeyed_36) 4
@[simp] def l_BKeyed_38 (_ : Unit) : List EOp := [⟨0, (some 43), none, (.q (.mov (.t 8))), []⟩, ⟨1, (some 44), none, (.q (.len (.t 43))), []⟩, ⟨2, (some 9), none, (.q (.mov (.t 44))), []⟩]
@[simp] def b_BKeyed_39 (_ : Unit) : EB := reg0 (hid l_BKeyed_38) 3
@[simp] def l_BKeyed_41 (_ : Unit) : List EOp := [⟨6, (some 51), (some (49, false)), (.q (.len (.t 50))), []⟩, ⟨7, (some 52), (some (49, false)), (.q (.bin .eql (.t 51) (.k (.int .i64 0)))), []⟩, ⟨8, (some 53), none, (.q (.pick (.t 49) (.k (.bool true)) (.t 52))), []⟩]
@[simp] def l_BKeyed_40 (_ : Unit) : List EOp := ⟨0, (some 45), none, (.q (.mov (.t 8))), []⟩ :: ⟨1, (some 46), none, (.q (.len (.t 45))), []⟩ :: ⟨2, (some 47), none, (.q (.bin .rem (.t 46) (.k (.int .i64 64)))), []⟩ :: ⟨3, (some 48), none, (.q (.bin .neq (.t 47) (.k (.int .i64 0)))), []⟩ :: ⟨4, (some 49), none, (.q (.mov (.t 48))), []⟩ :: ⟨5, (some 50), (some (49, false)), (.q (.mov (.t 8))), []⟩ :: hid l_BKeyed_41
@[simp] def b_BKeyed_42 (_ : Unit) : EB := reg0 (hid l_BKeyed_40) 9
@[simp] def b_BKeyed_43 (_ : Unit) : EB := .cond (.t 53) .skip (.exit 2)
@[simp] def b_BKeyed_44 (_ : Unit) : EB := .seq (hid b_BKeyed_42) (hid b_BKeyed_43)
@[simp] def l_BKeyed_45 (_ : Unit) : List EOp := [⟨0, (some 54), none, (.q (.mov (.t 8))), []⟩, ⟨1, (some 55), none, (.q (.bsl 1 [(.int .u8 0)] 1 [(0, (.k (.int .u8 0)))])), []⟩, ⟨2, (some 56), none, (.app 5 1 1 (.t 54) (.t 55)), []⟩, ⟨3, (some 8), none, (.q (.mov (.t 56))), []⟩]
@[simp] def b_BKeyed_46 (_ : Unit) : EB := reg0 (hid l_BKeyed_45) 4
@[simp] def b_BKeyed_47 (_ : Unit) : EB := .block 3 (hid b_BKeyed_46)
@[simp] def b_BKeyed_48 (_ : Unit) : EB := .seq (hid b_BKeyed_44) (hid b_BKeyed_47)
@[simp] def b_BKeyed_49 (_ : Unit) : EB := .loop (hid b_BKeyed_48)
@[simp] def b_BKeyed_50 (_ : Unit) : EB := .block 2 (hid b_BKeyed_49)
@[simp] def l_BKeyed_51 (_ : Unit) : List EOp := [⟨0, (some 10), none, (.q (.mov (.k (.int .i64 0)))), []⟩]
@[simp] def b_BKeyed_52 (_ : Unit) : EB := reg0 (hid l_BKeyed_51) 1
@[simp] def l_BKeyed_53 (_ : Unit) : List EOp := [⟨0, (some 57), none, (.q (.mov (.t 10))), []⟩, ⟨1, (some 58), none, (.q (.mov (.t 8))), []⟩, ⟨2, (some 59), none, (.q (.len (.t 58))), []⟩, ⟨3, (some 60), none, (.q (.bin .lss (.t 57) (.t 59))), []⟩]
@[simp] def b_BKeyed_54 (_ : Unit) : EB := reg0 (hid l_BKeyed_53) 4
@[simp] def b_BKeyed_55 (_ : Unit) : EB := .cond (.t 60) .skip (.exit 4)
@[simp] def b_BKeyed_56 (_ : Unit) : EB := .seq (hid b_BKeyed_54) (hid b_BKeyed_55)
@[simp] def l_BKeyed_59 (_ : Unit) : List EOp := [⟨12, (some 75), none, (.q (.bin .add (.t 74) (.k (.int .i64 64)))), []⟩, ⟨13, (some 76), none, (.q (.mov (.t 8))), []⟩, ⟨14, (some 77), none, (.q (.len (.t 76))), []⟩, ⟨15, (some 78), none, (.q (.bin .eql (.t 75) (.t 77))), []⟩, ⟨16, (some 79), none, (.call 56 [(.t 63), (.t 68), (.t 73), (.t 78)]), []⟩, ⟨17, (some 7), none, (.q (.mov (.t 79))), []⟩]
@[simp] def l_BKeyed_58 (_ : Unit) : List EOp := ⟨6, (some 69), none, (.q (.mov (.t 9))), []⟩ :: ⟨7, (some 70), none, (.q (.mov (.t 10))), []⟩ :: ⟨8, (some 71), none, (.q (.bin .add (.t 70) (.k (.int .i64 64)))), []⟩ :: ⟨9, (some 72), none, (.q (.minmax false [(.t 69), (.t 71)])), []⟩ :: ⟨10, (some 73), none, (.q (.cnv .u64 (.t 72))), []⟩ :: ⟨11, (some 74), none, (.q (.mov (.t 10))), []⟩ :: hid l_BKeyed_59
@[simp] def l_BKeyed_57 (_ : Unit) : List EOp := ⟨0, (some 63), none, (.q (.mov (.t 7))), []⟩ :: ⟨1, (some 64), none, (.q (.mov (.t 8))), []⟩ :: ⟨2, (some 65), none, (.q (.mov (.t 10))), []⟩ :: ⟨3, (some 66), none, (.q (.mov (.t 10))), []⟩ :: ⟨4, (some 67), none, (.q (.bin .add (.t 66) (.k (.int .i64 64)))), []⟩ :: ⟨5, (some 68), none, (.q (.ssl 1 (.t 64) (some (.t 65)) (some (.t 67)))), []⟩ :: hid l_BKeyed_58
@[simp] def b_BKeyed_60 (_ : Unit) : EB := reg0 (hid l_BKeyed_57) 18
@[simp] def b_BKeyed_61 (_ : Unit) : EB := .block 5 (hid b_BKeyed_60)
@[simp] def l_BKeyed_62 (_ : Unit) : List EOp := [⟨0, (some 61), none, (.q (.mov (.t 10))), []⟩, ⟨1, (some 62), none, (.q (.bin .add (.t 61) (.k (.int .i64 64)))), []⟩, ⟨2, (some 10), none, (.q (.mov (.t 62))), []⟩]
@[simp] def b_BKeyed_63 (_ : Unit) : EB := reg0 (hid l_BKeyed_62) 3
@[simp] def b_BKeyed_64 (_ : Unit) : EB := .seq (hid b_BKeyed_61) (hid b_BKeyed_63)
@[simp] def b_BKeyed_65 (_ : Unit) : EB := .seq (hid b_BKeyed_56) (hid b_BKeyed_64)
@[simp] def b_BKeyed_66 (_ : Unit) : EB := .loop (hid b_BKeyed_65)
@[simp] def b_BKeyed_67 (_ : Unit) : EB := .block 4 (hid b_BKeyed_66)
@[simp] def b_BKeyed_68 (_ : Unit) : EB := .seq (hid b_BKeyed_52) (hid b_BKeyed_67)
@[simp] def l_BKeyed_69 (_ : Unit) : List EOp := [⟨0, (some 11), none, (.q (.mov (.k (.int .i64 0)))), []⟩]
@[simp] def b_BKeyed_70 (_ : Unit) : EB := reg0 (hid l_BKeyed_69) 1
@[simp] def l_BKeyed_71 (_ : Unit) : List EOp := [⟨0, (some 80), none, (.q (.mov (.t 11))), []⟩, ⟨1, (some 81), none, (.q (.bin .lss (.t 80) (.k (.int .i64 32)))), []⟩]
@[simp] def b_BKeyed_72 (_ : Unit) : EB := reg0 (hid l_BKeyed_71) 2
@[simp] def b_BKeyed_73 (_ : Unit) : EB := .cond (.t 81) .skip (.exit 6)
@[simp] def b_BKeyed_74 (_ : Unit) : EB := .seq (hid b_BKeyed_72) (hid b_BKeyed_73)
@[simp] def l_BKeyed_77 (_ : Unit) : List EOp := [⟨12, none, none, (.sto 1 (.t 95) (.t 94)), []⟩]
@[simp] def l_BKeyed_76 (_ : Unit) : List EOp := ⟨6, (some 90), none, (.q (.mov (.t 11))), []⟩ :: ⟨7, (some 91), none, (.q (.bin .rem (.t 90) (.k (.int .i64 4)))), []⟩ :: ⟨8, (some 92), none, (.q (.bin .mul (.k (.int .i64 8)) (.t 91))), []⟩ :: ⟨9, (some 93), none, (.q (.bin .shr (.t 89) (.t 92))), []⟩ :: ⟨10, (some 94), none, (.q (.cnv .u8 (.t 93))), []⟩ :: ⟨11, (some 95), none, (.q (.iad 32 1 (.t 6) (.t 84))), []⟩ :: hid l_BKeyed_77
@[simp] def l_BKeyed_75 (_ : Unit) : List EOp := ⟨0, (some 84), none, (.q (.mov (.t 11))), []⟩ :: ⟨1, (some 85), none, (.q (.mov (.t 7))), []⟩ :: ⟨2, (some 86), none, (.q (.mov (.t 11))), []⟩ :: ⟨3, (some 87), none, (.q (.bin .quo (.t 86) (.k (.int .i64 4)))), []⟩ :: ⟨4, (some 88), none, (.q (.isl 1 (.t 85) (.t 87))), []⟩ :: ⟨5, (some 89), none, (.q (.ldc (.t 88))), []⟩ :: hid l_BKeyed_76
@[simp] def b_BKeyed_78 (_ : Unit) : EB := reg0 (hid l_BKeyed_75) 13
@[simp] def b_BKeyed_79 (_ : Unit) : EB := .block 7 (hid b_BKeyed_78)
@[simp] def l_BKeyed_80 (_ : Unit) : List EOp := [⟨0, (some 82), none, (.q (.mov (.t 11))), []⟩, ⟨1, (some 83), none, (.q (.bin .add (.t 82) (.k (.int .i64 1)))), []⟩, ⟨2, (some 11), none, (.q (.mov (.t 83))), []⟩]
@[simp] def b_BKeyed_81 (_ : Unit) : EB := reg0 (hid l_BKeyed_80) 3
@[simp] def b_BKeyed_82 (_ : Unit) : EB := .seq (hid b_BKeyed_79) (hid b_BKeyed_81)
@[simp] def b_BKeyed_83 (_ : Unit) : EB := .seq (hid b_BKeyed_74) (hid b_BKeyed_82)
@[simp] def b_BKeyed_84 (_ : Unit) : EB := .loop (hid b_BKeyed_83)
@[simp] def b_BKeyed_85 (_ : Unit) : EB := .block 6 (hid b_BKeyed_84)
@[simp] def b_BKeyed_86 (_ : Unit) : EB := .seq (hid b_BKeyed_70) (hid b_BKeyed_85)
@[simp] def l_BKeyed_87 (_ : Unit) : List EOp := [⟨0, (some 96), none, (.q (.lda 32 (.t 6))), []⟩, ⟨1, none, none, (.sto 32 (.t 4) (.t 96)), []⟩, ⟨2, (some 5), none, (.q (.mov (.k (.int .i64 0)))), []⟩]
@[simp] def b_BKeyed_88 (_ : Unit) : EB := reg0 (hid l_BKeyed_87) 3
@[simp] def b_BKeyed_89 (_ : Unit) : EB := .seq (hid b_BKeyed_88) .ret
@[simp] def b_BKeyed_90 (_ : Unit) : EB := .seq (hid b_BKeyed_86) (hid b_BKeyed_89)
@[simp] def b_BKeyed_91 (_ : Unit) : EB := .seq (hid b_BKeyed_68) (hid b_BKeyed_90)
@[simp] def b_BKeyed_92 (_ : Unit) : EB := .seq (hid b_BKeyed_50) (hid b_BKeyed_91)
@[simp] def b_BKeyed_93 (_ : Unit) : EB := .seq (hid b_BKeyed_39) (hid b_BKeyed_92)
@[simp] def b_BKeyed_94 (_ : Unit) : EB := .seq (hid b_BKeyed_37) (hid b_BKeyed_93)
@[simp] def b_BKeyed_95 (_ : Unit) : EB := .seq (hid b_BKeyed_35) (hid b_BKeyed_94)
@[simp] def b_BKeyed_96 (_ : Unit) : EB := .seq (hid b_BKeyed_18) (hid b_BKeyed_95)
@[simp] def b_BKeyed_97 (_ : Unit) : EB := .seq (hid b_BKeyed_16) (hid b_BKeyed_96)
@[simp] def b_BKeyed_98 (_ : Unit) : EB := .seq (hid b_BKeyed_13) (hid b_BKeyed_97)
@[simp] def b_BKeyed_99 (_ : Unit) : EB := .seq (hid b_BKeyed_11) (hid b_BKeyed_98)
@[simp] def b_BKeyed_100 (_ : Unit) : EB := .seq (hid b_BKeyed_4) (hid b_BKeyed_99)
@[simp] def b_BKeyed_101 (_ : Unit) : EB := .seq (hid b_BKeyed_2) (hid b_BKeyed_100)
def c_BKeyed : EB × List QOp × Nat := ((hid b_BKeyed_101), [(.lda 32 (.t 4)), (.mov (.t 5))], 97)
theorem k_BKeyed : cfun Tryd.prog 48 = some c_BKeyed := by kernel_rfl

@[simp] def l_RSum_1 (_ : Unit) : List EOp := [⟨0, (some 2), none, (.q (.alloc 35 zU8)), []⟩]
@[simp] def b_RSum_2 (_ : Unit) : EB := reg0 (hid l_RSum_1) 1
@[simp] def l_RSum_4 (_ : Unit) : List EOp := [⟨6, none, none, (.sto 32 (.t 3) (.t 8)), []⟩, ⟨7, (some 4), none, (.q (.mov (.t 9))), []⟩]
@[simp] def l_RSum_3 (_ : Unit) : List EOp := ⟨0, (some 6), none, (.q (.mov (.t 0))), []⟩ :: ⟨1, (some 7), none, (.call 48 [(.k (.slice none 0 0)), (.t 6)]), []⟩ :: ⟨2, (some 5), none, (.q (.mov (.t 7))), []⟩ :: ⟨3, (some 8), none, (.q (.ext 0 (.t 5))), []⟩ :: ⟨4, (some 9), none, (.q (.ext 1 (.t 5))), []⟩ :: ⟨5, (some 3), none, (.q (.alloc 35 zU8)), []⟩ :: hid l_RSum_4
@[simp] def b_RSum_5 (_ : Unit) : EB := reg0 (hid l_RSum_3) 8
@[simp] def l_RSum_6 (_ : Unit) : List EOp := [⟨0, (some 10), none, (.q (.lda 32 (.t 3))), []⟩, ⟨1, none, none, (.sto 32 (.t 2) (.t 10)), []⟩]
@[simp] def b_RSum_7 (_ : Unit) : EB := reg0 (hid l_RSum_6) 2
@[simp] def b_RSum_8 (_ : Unit) : EB := .seq (hid b_RSum_7) .ret
@[simp] def b_RSum_9 (_ : Unit) : EB := .seq (hid b_RSum_5) (hid b_RSum_8)
@[simp] def b_RSum_10 (_ : Unit) : EB := .seq (hid b_RSum_2) (hid b_RSum_9)
def c_RSum : EB × List QOp × Nat := ((hid b_RSum_10), [(.lda 32 (.t 2))], 11)
theorem k_RSum : cfun Tryd.prog 35 = some c_RSum := by kernel_rfl


set_option maxRecDepth 8000 in
set_option maxHeartbeats 8000000 in
theorem BKeyed_ok (b : List UInt8) (hb : b.length ≤ 100000000) : ECalls Tryd.prog 48 [.lit (.slice none 0 0), Bs b] [] fun y H' => H' = [] ∧ y = .tup [.agg (hc (sumS b)), .c (.fz (.lit (.int .i64 0)))] := by
  have fl : firstW.length = 8 := rfl
  have hx : ibit .xor .u32 (wi (g firstW 0)) 16842784 = wi (g firstW 0 ^^^ 0x01010020) := wi_xor (g firstW 0) 0x01010020
  have hx2 : ibit .xor .u32 (wi (g firstW 0 ^^^ 0x01010020)) 0 = wi (g firstW 0 ^^^ 0x01010020) := by
    have := wi_xor (g firstW 0 ^^^ 0x01010020) 0
    rw [show wi 0 = 0 from rfl] at this
    rw [this, UInt32.xor_zero]
  have hi8 : firstW.set 0 (g firstW 0 ^^^ 0x01010020) = ini8 := rfl
  refine ecalls k_BKeyed ?_
  simp [c_BKeyed, Bs]
  refine call0 Bbegin_ok (by simp) ?_
  rintro y H' ⟨rfl, rfl⟩
  refine ⟨.inl (by simp), by simp, ?_⟩
  have w0 : IntKind.i64.wrap 0 = 0 := by decide +kernel
  have w1 : IntKind.u32.wrap 0 = 0 := by decide +kernel
  simp [fl, wrw_gE', wrw_set, hx, hx2, hi8, w0, w1]
  have hg0 := tgt_ge b.length
  have hg1 := tgt_pos b.length
  have hg2 := tgt_mod b.length
  have hg3 := tgt_le b.length
  refine ⟨by omega, ?_⟩
  refine eloop (α := Nat) (fun k => b.length ≤ k ∧ k ≤ tgt b.length) (fun k => tgt b.length - k)
    (fun k => [.any, .any, .any, .any, .v (.c (.ptr 0 0)), .any, .v (.c (.ptr 1 0)), .v (.c (.row 2 8)), .v (.c (.row 3 k)), NV b.length, .any, .any, .any, .any, .any, .any, .any, .any, .any, .any, .any, .any, .any, .any, .any, .any, .any, .any, .any, .any, .any, .any, .any, .any, .any, .any, .any, .any, .any, .any, .any, .any, .any, .any, .any, .any, .any, .any, .any, .any, .any, .any, .any, .any, .any, .any, .any, .any, .any, .any, .any, .any, .any, .any, .any, .any, .any, .any, .any, .any, .any, .any, .any, .any, .any, .any, .any, .any, .any, .any, .any, .any, .any, .any, .any, .any, .any, .any, .any, .any, .any, .any, .any, .any, .any, .any, .any])
    (fun k => [some (.box 35 (hc hz)), some (.box 35 (hc hz)), some (.row 90 1 (wrw ini8)), some (.row 5 1 (bsv (padK b k)))]) b.length [0, 32, 96, 416]
    ⟨Nat.le_refl _, hg0⟩ (by simp [NV]) (by simp [padK_0]) (by simp) (by simp) (by simp) ?_
  rintro k ⟨hk, hkt⟩
  have hpl := padK_len hk
  have tm : (k : Int).tmod 64 = ((k % 64 : Nat) : Int) := rfl
  by_cases hlt : k < tgt b.length
  · have hc := tgt_lt hk hlt
    have hps := padK_succ hk
    have hpb : bsv (padK b k) ++ [[.lit (.int .u8 0)]] = bsv (padK b (k + 1)) := by rw [← hps]; simp [bsv, cb]
    by_cases hm : k % 64 = 0
    · have hm' : (k : Int) % 64 = 0 := by omega
      have hk0 : k = 0 := by omega
      subst hk0
      simp [NV, hpl, hps]
      exact round 1 [0, 1, 2, 180] ⟨by omega, by omega⟩ (by omega) (by simp [NV]) (by simp [hpb]) (by simp) (by simp) (by simp)
    · have hm' : ¬ (k : Int) % 64 = 0 := by omega
      simp [NV, hpl, tm, hm', hps, -Int.natCast_add]
      refine ⟨by omega, ?_⟩
      exact round (k + 1) [0, 1, 2, 180] ⟨by omega, by omega⟩ (by omega) (by simp [NV]) (by simp [hpb]) (by simp) (by simp) (by simp)
  · have hkt2 : k = tgt b.length := by omega
    subst hkt2
    have hn0 : ¬ tgt b.length = 0 := by omega
    simp [NV, hpl, tm, hg2, hn0]
    refine loopW _ (weak_frz (o := 2) (ty := 90) (es := 1) (xs := wrw ini8) rfl) (loopW _ (weak_frz (o := 3) (ty := 5) (es := 1) (xs := bsv (padK b (tgt b.length))) rfl) ?_)
    have tf8 : List.take 8 (wrw ini8) = wrw ini8 := List.take_of_length_le (by simp; decide)
    have tfb : List.take (tgt b.length) (bsv (padK b (tgt b.length))) = bsv (padK b (tgt b.length)) := List.take_of_length_le (by simp [hpl])
    have fz2 : List.map (fzE 3 1 (bsv (padK b (tgt b.length))) ∘ fzE 2 1 (wrw ini8)) (hc hz) = hc hz := by rw [← List.map_map]; rfl
    obtain ⟨A, hA⟩ : ∃ A, kS (tgt b.length / 64 - 1) ini8 0 b = A := ⟨_, rfl⟩
    have A8 : A.length = 8 := by rw [← hA, kS_len]; rfl
    have hs : sumS b = outS A := by rw [sumS_kS, hA]
    refine eloop (α := List UInt32 × Nat) (fun a => a.1.length = 8 ∧ 64 * a.2 ≤ tgt b.length ∧ (64 * a.2 < tgt b.length → kS (tgt b.length / 64 - 1 - a.2) a.1 (64 * a.2) (b.drop (64 * a.2)) = A) ∧ (64 * a.2 = tgt b.length → a.1 = A)) (fun a => tgt b.length - 64 * a.2)
      (fun a => [.any, .any, .any, .any, .v (.c (.ptr 0 0)), .any, .v (.c (.ptr 1 0)), FW a.1, Bs (padK b (tgt b.length)), NV b.length, NV ((64 * a.2 : Nat) : Int), .any, .any, .any, .any, .any, .any, .any, .any, .any, .any, .any, .any, .any, .any, .any, .any, .any, .any, .any, .any, .any, .any, .any, .any, .any, .any, .any, .any, .any, .any, .any, .any, .any, .any, .any, .any, .any, .any, .any, .any, .any, .any, .any, .any, .any, .any, .any, .any, .any, .any, .any, .any, .any, .any, .any, .any, .any, .any, .any, .any, .any, .any, .any, .any, .any, .any, .any, .any, .any, .any, .any, .any, .any, .any, .any, .any, .any, .any, .any, .any, .any, .any, .any, .any, .any, .any])
      (fun _ => [some (.box 35 (hc hz)), some (.box 35 (hc hz))]) (ini8, 0) [0, 1]
      ⟨rfl, by omega, fun _ => by simpa using hA, fun h => absurd h (by dsimp only; omega)⟩ (by simp [NV, FW, Bs, fzEO, hpl, tf8, tfb]) (by simp [fz2]) (by simp) (by simp) (by simp) ?_
    rintro ⟨h, j⟩ ⟨h8, hj, hA1, hA2⟩
    dsimp only at h8 hj hA1 hA2
    by_cases hlt2 : 64 * j < tgt b.length
    · have htl := tgt_last hlt2
      obtain ⟨J, hJ⟩ : ∃ J, 64 * j = J := ⟨_, rfl⟩
      have hcj : ((64 : Int) * (j : Int)) = (J : Int) := by omega
      have wJ : IntKind.i64.wrap ((J : Int) + 64) = ((J + 64 : Nat) : Int) := by rw [wrap_i64 (by omega) (by omega)]; omega
      have hmn := i64_min (J + 64) b.length
      obtain ⟨t', ht'⟩ : ∃ t', min b.length (J + 64) = t' := ⟨_, rfl⟩
      rw [ht'] at hmn
      have wt : IntKind.u64.wrap (t' : Int) = (t' : Int) := u64_nat (by omega)
      obtain ⟨B, hB⟩ : ∃ B, List.drop J (List.take (J + 64) (padK b (tgt b.length))) = B := ⟨_, rfl⟩
      have hB2 : ((padK b (tgt b.length)).drop J).take 64 = B := by rw [← hB, List.drop_take]; congr 1; omega
      have hB64 : B.length = 64 := by rw [← hB2, List.length_take, List.length_drop, hpl]; omega
      obtain ⟨L, hL⟩ : ∃ L, decide (((J + 64 : Nat) : Int) = ((tgt b.length : Nat) : Int)) = L := ⟨_, rfl⟩
      have e8 : (wrw (takeS h B t' L)).length = 8 := by rw [wrw_len, takeS_len]; exact h8
      have hk1 := Btk_ok h B t' L h8 hB64 (by omega)
      rw [← e8] at hk1
      have hk2 := ecalls_frz hk1
      rw [hJ] at hA1 htl
      have hnext : (64 * (j + 1) < tgt b.length → kS (tgt b.length / 64 - 1 - (j + 1)) (takeS h B t' L) (64 * (j + 1)) (b.drop (64 * (j + 1))) = A) ∧ (64 * (j + 1) = tgt b.length → takeS h B t' L = A) := by
        have ha := hA1 (by omega)
        rcases Nat.lt_or_ge (J + 64) b.length with hq | hq
        · have hLf : L = false := by rw [← hL]; exact decide_eq_false (by omega)
          have htt : t' = J + 64 := by omega
          have hBm : B = (b.drop J).take 64 := by
            have := blk_mid (b := b) (j := j) (by omega) (tgt b.length)
            rw [hJ, hB2] at this
            exact this
          obtain ⟨K, hK⟩ : ∃ K, tgt b.length / 64 - 1 - j = K + 1 := ⟨tgt b.length / 64 - 1 - j - 1, by omega⟩
          rw [hK, kS, if_neg (by rw [List.length_drop]; omega), List.drop_drop, ← hBm] at ha
          rw [hLf, htt]
          refine ⟨fun _ => ?_, fun h => by omega⟩
          rw [show tgt b.length / 64 - 1 - (j + 1) = K by omega, show 64 * (j + 1) = J + 64 by omega]
          exact ha
        · have he := htl.2 hq
          have hLt : L = true := by rw [← hL]; exact decide_eq_true (by omega)
          have hBl := blk_last (b := b) (j := j) hlt2 (by omega)
          rw [hJ, hB2] at hBl
          have hz0 : tgt b.length / 64 - 1 - j = 0 := by omega
          rw [hz0, kS, List.length_drop, ← hBl, ← hLt] at ha
          refine ⟨fun h => by omega, fun _ => ?_⟩
          by_cases hJn : J ≤ b.length
          · rw [show t' = J + (b.length - J) by omega]
            exact ha
          · exfalso
            unfold tgt at he hlt2
            split at he <;> omega
      simp [NV, FW, Bs, hpl, hcj, wJ, hmn, wt, hB, hL, show J < tgt b.length by omega, -Int.natCast_add]
      refine ⟨by omega, ?_⟩
      refine call0 hk2 (by simp [FW, Bs]) ?_
      rintro y H' ⟨rfl, rfl⟩
      refine ⟨.inl (by simp), le_ok rfl, ?_⟩
      have wJ2 : ((J + 64 : Nat) : Int) = 64 * ((j + 1 : Nat) : Int) := by omega
      simp [NV, FW, Bs, hpl, hcj, wJ, -Int.natCast_add]
      exact round (takeS h B t' L, j + 1) [0, 1] ⟨by dsimp only; rw [takeS_len]; exact h8, by dsimp only; omega, hnext.1, hnext.2⟩ (by dsimp only; omega) (by simp [NV, FW, Bs, wJ2]) (by simp) (by simp) (by simp) (by simp)
    · have he : 64 * j = tgt b.length := by omega
      have hh := hA2 he
      have hcj : ((64 : Int) * (j : Int)) = ((tgt b.length : Nat) : Int) := by omega
      subst hh
      simp [NV, FW, Bs, hpl, hcj]
      refine eloop (α := Nat) (fun i => i ≤ 32) (fun i => 32 - i)
        (fun i => [.any, .any, .any, .any, .v (.c (.ptr 0 0)), .any, .v (.c (.ptr 1 0)), FW h, .any, .any, .any, NV i, .any, .any, .any, .any, .any, .any, .any, .any, .any, .any, .any, .any, .any, .any, .any, .any, .any, .any, .any, .any, .any, .any, .any, .any, .any, .any, .any, .any, .any, .any, .any, .any, .any, .any, .any, .any, .any, .any, .any, .any, .any, .any, .any, .any, .any, .any, .any, .any, .any, .any, .any, .any, .any, .any, .any, .any, .any, .any, .any, .any, .any, .any, .any, .any, .any, .any, .any, .any, .any, .any, .any, .any, .any, .any, .any, .any, .any, .any, .any, .any, .any, .any, .any, .any, .any])
        (fun i => [some (.box 35 (hc hz)), some (.box 35 (hc (oI h i)))]) 0 [0, 1]
        (by omega) (by simp [NV, FW]) (by simp [oI_0]) (by simp) (by simp) (by simp) ?_
      intro i hi
      simp [NV, FW]
      refine alt (fun hp => ?_) (fun hp => ?_)
      · have il : i < 32 := by omega
        have q1 : i / 4 < 8 := by omega
        have q1' : i / 4 ≤ 7 := by omega
        have q2 : (i : Int).tdiv 4 = ((i / 4 : Nat) : Int) := rfl
        have q3 : (i : Int).tmod 4 = ((i % 4 : Nat) : Int) := rfl
        have q4 : IntKind.i64.wrap ((i / 4 : Nat) : Int) = ((i / 4 : Nat) : Int) := wrap_i64 (by omega) (by omega)
        have q5 : IntKind.i64.wrap (8 * ((i % 4 : Nat) : Int)) = ((8 * (i % 4) : Nat) : Int) := by rw [wrap_i64 (by omega) (by omega)]; omega
        have wi1 : IntKind.i64.wrap ((i : Int) + 1) = ((i + 1 : Nat) : Int) := wrap_i64 (by omega) (by omega)
        obtain ⟨d, hd⟩ : ∃ d, i / 4 = d := ⟨_, rfl⟩
        obtain ⟨k, hk⟩ : ∃ k, 8 * (i % 4) = k := ⟨_, rfl⟩
        rw [hd] at q1 q1' q2 q4
        rw [hk] at q5
        have d8 : (d : Int) < 8 := by omega
        have sh := wi_shr (g h d) k (by omega)
        have ou : IntKind.u8.wrap (wi (shr (g h d) k)) = ((outB h i).toNat : Int) := by unfold outB; rw [hd, hk]; exact u8_shr _ _
        simp [q2, q3, q4, q5, wi1, q1, q1', d8, A8, wrw_gE', sh, ou, oI_len, il, hc_put, -Int.natCast_add, -Int.natCast_mul, -Int.natCast_ediv, -Int.natCast_emod]
        exact ⟨by omega, by omega, round (i + 1) [0, 1] (by omega) (by omega) (by simp [NV, FW]) (by simp [oI_set h il]) (by simp) (by simp) (by simp)⟩
      · have h32 : i = 32 := by omega
        subst h32
        have ol := outS_len h
        obtain ⟨O, hO⟩ : ∃ O, outS h = O := ⟨_, rfl⟩
        rw [hO] at hs ol
        simp [oI_32, hO, ol, hs]
        have ot : List.take 32 O = O := List.take_of_length_le (by omega)
        exact fin [] (by decide) (v := .tup [.agg (hc O), .c (.fz (.lit (.int .i64 0)))]) (by simp [resV, resT, evT, asT, fzEO, ot, ol]) (by simp [conR, conTs, conT, ot, ol]) rfl ⟨rfl, rfl⟩

theorem RSum_ok (b : List UInt8) (hb : b.length ≤ 100000000) : ECalls Tryd.prog 35 [Bs b] [] fun y H' => H' = [] ∧ y = .v (.agg (hc (sumS b))) := by
  have hl := hc_tk (show (sumS b).length ≤ 32 by rw [sumS_len]; omega)
  refine ecalls k_RSum ?_
  simp [c_RSum, Bs]
  refine call0 (BKeyed_ok b hb) (by simp [Bs]) ?_
  rintro y H' ⟨rfl, rfl⟩
  refine ⟨.inl (by simp), le_ok rfl, ?_⟩
  simp [hl, sumS_len]
  exact fin [] (by decide) rfl rfl rfl ⟨rfl, rfl⟩

end Go.Proofs.YtdeeophiffchjaaDoor

namespace Go.Proofs.YtdeeophiffchjaaDoor
open Go Go.EW
set_option linter.unusedSimpArgs false
def R (o : Nat) (l : List UInt8) : EV := .v (.c (.row o l.length))
def RO (l : List UInt8) : EO := .row 5 1 (bsv l)
def Ptr (o : Nat) : EV := .v (.c (.ptr o 0))

def errV (e : Nat) : Value := if e = 0 then .nilIface else .iface 52 (.int .i64 e)
@[simp] theorem eqiv_errV (e : Nat) : eqiv (errV e) = some (decide (e = 0)) := by
  unfold errV
  split <;> simp [eqiv, *]
@[simp] theorem cst_errV (e : Nat) : cst (errV e) = .v (.c (.fz (.lit (errV e)))) := by
  unfold errV
  split <;> rfl
@[simp] theorem errV_0 : Value.nilIface = errV 0 := rfl
@[simp] theorem errV_1 : Value.iface 52 (.int .i64 1) = errV 1 := rfl
@[simp] theorem errV_2 : Value.iface 52 (.int .i64 2) = errV 2 := rfl
@[simp] theorem errV_3 : Value.iface 52 (.int .i64 3) = errV 3 := rfl

theorem drop_cons {α : Type} {b : List α} {i : Nat} {c : α} (h : b[i]? = some c) : b.drop i = c :: b.drop (i + 1) := by
  have hi : i < b.length := lt_len h
  rw [List.drop_eq_getElem_cons hi]
  congr 1
  rw [List.getElem?_eq_getElem hi] at h
  exact Option.some.inj h

end Go.Proofs.YtdeeophiffchjaaDoor

namespace Go.Proofs.YtdeeophiffchjaaDoor
open Go Go.EW
set_option linter.unusedSimpArgs false
set_option linter.unusedVariables false

@[simp] def l_TZ_1 (_ : Unit) : List EOp := [⟨0, (some 2), none, (.q (.mov (.k (.int .i64 0)))), []⟩]
@[simp] def b_TZ_2 (_ : Unit) : EB := reg0 (hid l_TZ_1) 1
@[simp] def l_TZ_3 (_ : Unit) : List EOp := [⟨0, (some 3), none, (.q (.mov (.t 0))), []⟩, ⟨1, (some 4), none, (.q (.bin .eql (.t 3) (.k (.int .u64 0)))), []⟩]
@[simp] def b_TZ_4 (_ : Unit) : EB := reg0 (hid l_TZ_3) 2
@[simp] def l_TZ_5 (_ : Unit) : List EOp := [⟨0, (some 2), none, (.q (.mov (.k (.int .i64 64)))), []⟩]
@[simp] def b_TZ_6 (_ : Unit) : EB := reg0 (hid l_TZ_5) 1
@[simp] def b_TZ_7 (_ : Unit) : EB := .seq (hid b_TZ_6) .ret
@[simp] def b_TZ_8 (_ : Unit) : EB := .cond (.t 4) (hid b_TZ_7) .skip
@[simp] def b_TZ_9 (_ : Unit) : EB := .seq (hid b_TZ_4) (hid b_TZ_8)
@[simp] def l_TZ_11 (_ : Unit) : List EOp := [⟨6, (some 11), none, (.q (.iad 64 1 (.k (.pointer (some ⟨1, 0, none⟩))) (.t 10))), []⟩, ⟨7, (some 12), none, (.q (.ldc (.t 11))), []⟩, ⟨8, (some 13), none, (.q (.cnv .i64 (.t 12))), []⟩, ⟨9, (some 2), none, (.q (.mov (.t 13))), []⟩]
@[simp] def l_TZ_10 (_ : Unit) : List EOp := ⟨0, (some 5), none, (.q (.mov (.t 0))), []⟩ :: ⟨1, (some 6), none, (.q (.mov (.t 0))), []⟩ :: ⟨2, (some 7), none, (.q (.un .neg (.t 6))), []⟩ :: ⟨3, (some 8), none, (.q (.bin .and (.t 5) (.t 7))), []⟩ :: ⟨4, (some 9), none, (.q (.bin .mul (.t 8) (.k (.int .u64 285870213051353865)))), []⟩ :: ⟨5, (some 10), none, (.q (.bin .shr (.t 9) (.k (.int .u64 58)))), []⟩ :: hid l_TZ_11
@[simp] def b_TZ_12 (_ : Unit) : EB := reg0 (hid l_TZ_10) 10
@[simp] def b_TZ_13 (_ : Unit) : EB := .seq (hid b_TZ_12) .ret
@[simp] def b_TZ_14 (_ : Unit) : EB := .seq (hid b_TZ_9) (hid b_TZ_13)
@[simp] def b_TZ_15 (_ : Unit) : EB := .seq (hid b_TZ_2) (hid b_TZ_14)
def c_TZ : EB × List QOp × Nat := ((hid b_TZ_15), [(.mov (.t 2))], 14)
theorem k_TZ : cfun Tryd.prog 40 = some c_TZ := by kernel_rfl

@[simp] def l_Lrank_1 (_ : Unit) : List EOp := [⟨0, (some 2), none, (.q (.mov (.k (.int .i64 0)))), []⟩]
@[simp] def b_Lrank_2 (_ : Unit) : EB := reg0 (hid l_Lrank_1) 1
@[simp] def l_Lrank_3 (_ : Unit) : List EOp := [⟨0, (some 3), none, (.q (.mov (.t 0))), []⟩, ⟨1, (some 4), none, (.q (.cnv .u64 (.t 3))), []⟩, ⟨2, (some 5), none, (.call 40 [(.t 4)]), []⟩, ⟨3, (some 6), none, (.q (.minmax false [(.k (.int .i64 40)), (.t 5)])), []⟩, ⟨4, (some 2), none, (.q (.mov (.t 6))), []⟩]
@[simp] def b_Lrank_4 (_ : Unit) : EB := reg0 (hid l_Lrank_3) 5
@[simp] def b_Lrank_5 (_ : Unit) : EB := .seq (hid b_Lrank_4) .ret
@[simp] def b_Lrank_6 (_ : Unit) : EB := .seq (hid b_Lrank_2) (hid b_Lrank_5)
def c_Lrank : EB × List QOp × Nat := ((hid b_Lrank_6), [(.mov (.t 2))], 7)
theorem k_Lrank : cfun Tryd.prog 26 = some c_Lrank := by kernel_rfl

@[simp] def l_Rpow_1 (_ : Unit) : List EOp := [⟨0, (some 2), none, (.q (.mov (.k (.int .i64 0)))), []⟩]
@[simp] def b_Rpow_2 (_ : Unit) : EB := reg0 (hid l_Rpow_1) 1
@[simp] def l_Rpow_3 (_ : Unit) : List EOp := [⟨0, (some 3), none, (.q (.mov (.k (.int .i64 1)))), []⟩]
@[simp] def b_Rpow_4 (_ : Unit) : EB := reg0 (hid l_Rpow_3) 1
@[simp] def l_Rpow_5 (_ : Unit) : List EOp := [⟨0, (some 4), none, (.q (.mov (.k (.int .i64 0)))), []⟩]
@[simp] def b_Rpow_6 (_ : Unit) : EB := reg0 (hid l_Rpow_5) 1
@[simp] def l_Rpow_7 (_ : Unit) : List EOp := [⟨0, (some 5), none, (.q (.mov (.t 4))), []⟩, ⟨1, (some 6), none, (.q (.mov (.t 0))), []⟩, ⟨2, (some 7), none, (.q (.bin .lss (.t 5) (.t 6))), []⟩]
@[simp] def b_Rpow_8 (_ : Unit) : EB := reg0 (hid l_Rpow_7) 3
@[simp] def b_Rpow_9 (_ : Unit) : EB := .cond (.t 7) .skip (.exit 0)
@[simp] def b_Rpow_10 (_ : Unit) : EB := .seq (hid b_Rpow_8) (hid b_Rpow_9)
@[simp] def l_Rpow_11 (_ : Unit) : List EOp := [⟨0, (some 10), none, (.q (.mov (.t 3))), []⟩, ⟨1, (some 11), none, (.q (.bin .mul (.k (.int .i64 2)) (.t 10))), []⟩, ⟨2, (some 3), none, (.q (.mov (.t 11))), []⟩]
@[simp] def b_Rpow_12 (_ : Unit) : EB := reg0 (hid l_Rpow_11) 3
@[simp] def b_Rpow_13 (_ : Unit) : EB := .block 1 (hid b_Rpow_12)
@[simp] def l_Rpow_14 (_ : Unit) : List EOp := [⟨0, (some 8), none, (.q (.mov (.t 4))), []⟩, ⟨1, (some 9), none, (.q (.bin .add (.t 8) (.k (.int .i64 1)))), []⟩, ⟨2, (some 4), none, (.q (.mov (.t 9))), []⟩]
@[simp] def b_Rpow_15 (_ : Unit) : EB := reg0 (hid l_Rpow_14) 3
@[simp] def b_Rpow_16 (_ : Unit) : EB := .seq (hid b_Rpow_13) (hid b_Rpow_15)
@[simp] def b_Rpow_17 (_ : Unit) : EB := .seq (hid b_Rpow_10) (hid b_Rpow_16)
@[simp] def b_Rpow_18 (_ : Unit) : EB := .loop (hid b_Rpow_17)
@[simp] def b_Rpow_19 (_ : Unit) : EB := .block 0 (hid b_Rpow_18)
@[simp] def b_Rpow_20 (_ : Unit) : EB := .seq (hid b_Rpow_6) (hid b_Rpow_19)
@[simp] def l_Rpow_21 (_ : Unit) : List EOp := [⟨0, (some 12), none, (.q (.mov (.t 3))), []⟩, ⟨1, (some 2), none, (.q (.mov (.t 12))), []⟩]
@[simp] def b_Rpow_22 (_ : Unit) : EB := reg0 (hid l_Rpow_21) 2
@[simp] def b_Rpow_23 (_ : Unit) : EB := .seq (hid b_Rpow_22) .ret
@[simp] def b_Rpow_24 (_ : Unit) : EB := .seq (hid b_Rpow_20) (hid b_Rpow_23)
@[simp] def b_Rpow_25 (_ : Unit) : EB := .seq (hid b_Rpow_4) (hid b_Rpow_24)
@[simp] def b_Rpow_26 (_ : Unit) : EB := .seq (hid b_Rpow_2) (hid b_Rpow_25)
def c_Rpow : EB × List QOp × Nat := ((hid b_Rpow_26), [(.mov (.t 2))], 13)
theorem k_Rpow : cfun Tryd.prog 33 = some c_Rpow := by kernel_rfl

@[simp] def l_RRank_1 (_ : Unit) : List EOp := [⟨0, (some 2), none, (.q (.mov (.k (.int .i64 0)))), []⟩]
@[simp] def b_RRank_2 (_ : Unit) : EB := reg0 (hid l_RRank_1) 1
@[simp] def l_RRank_3 (_ : Unit) : List EOp := [⟨0, (some 3), none, (.q (.mov (.k (.int .i64 0)))), []⟩]
@[simp] def b_RRank_4 (_ : Unit) : EB := reg0 (hid l_RRank_3) 1
@[simp] def l_RRank_6 (_ : Unit) : List EOp := [⟨6, (some 10), none, (.q (.pick (.t 6) (.t 9) (.k (.bool false)))), []⟩]
@[simp] def l_RRank_5 (_ : Unit) : List EOp := ⟨0, (some 4), none, (.q (.mov (.t 3))), []⟩ :: ⟨1, (some 5), none, (.q (.bin .lss (.t 4) (.k (.int .i64 40)))), []⟩ :: ⟨2, (some 6), none, (.q (.mov (.t 5))), []⟩ :: ⟨3, (some 7), (some (6, true)), (.q (.mov (.t 0))), []⟩ :: ⟨4, (some 8), (some (6, true)), (.q (.bin .rem (.t 7) (.k (.int .i64 2)))), []⟩ :: ⟨5, (some 9), (some (6, true)), (.q (.bin .eql (.t 8) (.k (.int .i64 0)))), []⟩ :: hid l_RRank_6
@[simp] def b_RRank_7 (_ : Unit) : EB := reg0 (hid l_RRank_5) 7
@[simp] def b_RRank_8 (_ : Unit) : EB := .cond (.t 10) .skip (.exit 0)
@[simp] def b_RRank_9 (_ : Unit) : EB := .seq (hid b_RRank_7) (hid b_RRank_8)
@[simp] def l_RRank_10 (_ : Unit) : List EOp := [⟨0, (some 11), none, (.q (.mov (.t 0))), []⟩, ⟨1, (some 12), none, (.q (.bin .quo (.t 11) (.k (.int .i64 2)))), []⟩, ⟨2, (some 0), none, (.q (.mov (.t 12))), []⟩]
@[simp] def b_RRank_11 (_ : Unit) : EB := reg0 (hid l_RRank_10) 3
@[simp] def l_RRank_12 (_ : Unit) : List EOp := [⟨0, (some 13), none, (.q (.mov (.t 3))), []⟩, ⟨1, (some 14), none, (.q (.bin .add (.t 13) (.k (.int .i64 1)))), []⟩, ⟨2, (some 3), none, (.q (.mov (.t 14))), []⟩]
@[simp] def b_RRank_13 (_ : Unit) : EB := reg0 (hid l_RRank_12) 3
@[simp] def b_RRank_14 (_ : Unit) : EB := .seq (hid b_RRank_11) (hid b_RRank_13)
@[simp] def b_RRank_15 (_ : Unit) : EB := .block 1 (hid b_RRank_14)
@[simp] def b_RRank_16 (_ : Unit) : EB := .seq (hid b_RRank_9) (hid b_RRank_15)
@[simp] def b_RRank_17 (_ : Unit) : EB := .loop (hid b_RRank_16)
@[simp] def b_RRank_18 (_ : Unit) : EB := .block 0 (hid b_RRank_17)
@[simp] def l_RRank_19 (_ : Unit) : List EOp := [⟨0, (some 15), none, (.q (.mov (.t 3))), []⟩, ⟨1, (some 2), none, (.q (.mov (.t 15))), []⟩]
@[simp] def b_RRank_20 (_ : Unit) : EB := reg0 (hid l_RRank_19) 2
@[simp] def b_RRank_21 (_ : Unit) : EB := .seq (hid b_RRank_20) .ret
@[simp] def b_RRank_22 (_ : Unit) : EB := .seq (hid b_RRank_18) (hid b_RRank_21)
@[simp] def b_RRank_23 (_ : Unit) : EB := .seq (hid b_RRank_4) (hid b_RRank_22)
@[simp] def b_RRank_24 (_ : Unit) : EB := .seq (hid b_RRank_2) (hid b_RRank_23)
def c_RRank : EB × List QOp × Nat := ((hid b_RRank_24), [(.mov (.t 2))], 16)
theorem k_RRank : cfun Tryd.prog 29 = some c_RRank := by kernel_rfl


theorem ibit_and_u64 (a b : Nat) (ha : a < 18446744073709551616) (hb : b < 18446744073709551616) : ibit .and .u64 (a : Int) (b : Int) = ((a &&& b : Nat) : Int) := by
  have hx : a &&& b < 2 ^ 64 := Nat.and_lt_two_pow _ (by omega)
  have h1 : (BitVec.ofInt 64 (a : Int)).toNat = a := by rw [BitVec.ofInt_natCast, BitVec.toNat_ofNat]; exact Nat.mod_eq_of_lt (by omega)
  have h2 : (BitVec.ofInt 64 (b : Int)).toNat = b := by rw [BitVec.ofInt_natCast, BitVec.toNat_ofNat]; exact Nat.mod_eq_of_lt (by omega)
  show IntKind.u64.wrap ((BitVec.ofInt 64 (a : Int) &&& BitVec.ofInt 64 (b : Int)).toNat : Int) = _
  rw [BitVec.toNat_and, h1, h2]
  exact wrap_u64 (by omega) (by omega)
theorem ibit_and_i64 (a b : Nat) (ha : a < 9223372036854775808) (hb : b < 9223372036854775808) : ibit .and .i64 (a : Int) (b : Int) = ((a &&& b : Nat) : Int) := by
  have hx : a &&& b < 2 ^ 63 := Nat.and_lt_two_pow _ (by omega)
  have h1 : (BitVec.ofInt 64 (a : Int)).toNat = a := by rw [BitVec.ofInt_natCast, BitVec.toNat_ofNat]; exact Nat.mod_eq_of_lt (by omega)
  have h2 : (BitVec.ofInt 64 (b : Int)).toNat = b := by rw [BitVec.ofInt_natCast, BitVec.toNat_ofNat]; exact Nat.mod_eq_of_lt (by omega)
  show IntKind.i64.wrap ((BitVec.ofInt 64 (a : Int) &&& BitVec.ofInt 64 (b : Int)).toNat : Int) = _
  rw [BitVec.toNat_and, h1, h2]
  exact wrap_i64 (by omega) (by omega)
theorem i64_odd (a : Nat) (ha : a < 9223372036854775808) : ibit .and .i64 (a : Int) 1 = ((a % 2 : Nat) : Int) := by
  have := ibit_and_i64 a 1 ha (by decide)
  rw [show ((1 : Nat) : Int) = 1 from rfl] at this
  rw [this, Nat.and_one_is_mod]

theorem rkF_ctz : ∀ (k f n : Nat), k ≤ f → min k (Lib.ctzFrom f n) = rkF k n
  | 0, f, n, _ => by simp [rkF]
  | k + 1, 0, n, h => by omega
  | k + 1, f + 1, n, h => by
    have ih := rkF_ctz k f (n / 2) (by omega)
    unfold rkF Lib.ctzFrom
    split
    · rw [if_neg (by omega)]; simp
    · rw [if_pos (by omega), ← ih]; omega
theorem rk_ctz (n : Nat) : min 40 (Lib.ctz 64 n) = rk n := by
  unfold Lib.ctz
  split
  · rename_i h; subst h; decide +kernel
  · exact rkF_ctz 40 64 n (by decide)

theorem db_cell {j k : Nat} (hj : j < 64) (h : Lib.deBruijn64tab.getD j 0 = k) : dbN[j]? = some (k : Int) := by
  have key : ∀ j, j < 64 → dbN[j]? = some ((Lib.deBruijn64tab.getD j 0 : Nat) : Int) := by decide +kernel
  rw [← h]
  exact key j hj

set_option maxHeartbeats 1000000 in
theorem TZ_ok (x : Nat) (hx : x < 18446744073709551616) : ECalls Tryd.prog 40 [.lit (.int .u64 x)] [] fun y H' => H' = [] ∧ y = NV (Lib.ctz 64 x) := by
  refine ecalls k_TZ ?_
  simp [c_TZ]
  refine alt (fun h0 => ?_) (fun h0 => ?_)
  · have : x = 0 := by omega
    subst this
    simp
    exact fin [] (by decide) rfl rfl rfl ⟨rfl, rfl⟩
  · have hx0 : x ≠ 0 := by omega
    obtain ⟨hlow, hk⟩ := Lib.lowest_bit 64 x hx0 hx
    obtain ⟨hi, htab⟩ := Lib.deBruijn64_at _ hk
    obtain ⟨k, hke⟩ : ∃ k, Lib.ctz 64 x = k := ⟨_, rfl⟩
    rw [hke] at hlow hk hi htab ⊢
    obtain ⟨j, hj⟩ : ∃ j, 2 ^ k * 285870213051353865 % 18446744073709551616 / 288230376151711744 = j := ⟨_, rfl⟩
    rw [hj] at hi htab
    have hc := db_cell hi htab
    have hp : 2 ^ k < 18446744073709551616 := by
      have := Nat.pow_lt_pow_right (show 1 < 2 by decide) hk
      simpa using this
    have e1 : IntKind.u64.wrap (-(x : Int)) = ((18446744073709551616 - x : Nat) : Int) := by
      simp [IntKind.wrap, IntKind.signed, IntKind.bits]; omega
    have e2 := ibit_and_u64 x (18446744073709551616 - x) hx (by omega)
    have hlow' : x &&& (18446744073709551616 - x) = 2 ^ k := hlow
    rw [hlow'] at e2
    obtain ⟨P, hP⟩ : ∃ P, 2 ^ k = P := ⟨_, rfl⟩
    rw [hP] at e2 hp hj
    have e3 : IntKind.u64.wrap ((P : Int) * 285870213051353865) = ((P * 285870213051353865 % 18446744073709551616 : Nat) : Int) := by
      simp [IntKind.wrap, IntKind.signed, IntKind.bits]
    have e4 := ishr_nat .u64 (P * 285870213051353865 % 18446744073709551616) 58 (by decide)
    rw [show (2 : Nat) ^ 58 = 288230376151711744 from rfl, hj] at e4
    rw [show ((58 : Nat) : Int) = 58 from rfl] at e4
    have w1 : IntKind.i64.wrap (k : Int) = (k : Int) := wrap_i64 (by omega) (by omega)
    obtain ⟨Q, hQ⟩ : ∃ Q, P * 285870213051353865 % 18446744073709551616 = Q := ⟨_, rfl⟩
    rw [hQ] at e3 e4
    obtain ⟨Y, hY⟩ : ∃ Y, 18446744073709551616 - x = Y := ⟨_, rfl⟩
    rw [hY] at e1 e2
    have hj64 : (j : Int) < 64 := by omega
    simp [e1, e2, e3, e4, hi, hj64, hc, w1, -Int.natCast_mul, -Int.natCast_emod]
    exact fin [] (by decide) rfl rfl rfl ⟨rfl, rfl⟩
theorem Lrank_ok (n : Nat) (hn : n < 9223372036854775808) : ECalls Tryd.prog 26 [NV n] [] fun y H' => H' = [] ∧ y = NV (rk n) := by
  have w1 : IntKind.u64.wrap (n : Int) = (n : Int) := wrap_u64 (by omega) (by omega)
  have hr := rk_ctz n
  refine ecalls k_Lrank ?_
  simp [c_Lrank, NV, w1]
  refine call0 (TZ_ok n (by omega)) (by simp) ?_
  rintro y H' ⟨rfl, rfl⟩
  refine ⟨.inl (by simp), le_ok rfl, ?_⟩
  obtain ⟨c, hc⟩ : ∃ c, Lib.ctz 64 n = c := ⟨_, rfl⟩
  rw [hc] at hr ⊢
  simp [NV]
  have hm : (if (c : Int) < 40 then (c : Int) else (40 : Int)) = ((rk n : Nat) : Int) := by rw [← hr]; split <;> omega
  rw [hm]
  exact fin [] (by decide) rfl rfl rfl ⟨rfl, rfl⟩

def pw (i : Nat) : Nat := 2 ^ i
theorem pw_succ (i : Nat) : pw (i + 1) = 2 * pw i := by unfold pw; rw [Nat.pow_succ, Nat.mul_comm]
theorem pw_le {i j : Nat} (h : i ≤ j) : pw i ≤ pw j := Nat.pow_le_pow_right (by decide) h
theorem Rpow_ok (k : Nat) (hk : k ≤ 61) : ECalls Tryd.prog 33 [NV k] [] fun y H' => H' = [] ∧ y = NV (pw k) := by
  refine ecalls k_Rpow ?_
  simp [c_Rpow, NV]
  refine eloop (α := Nat) (fun i => i ≤ k) (fun i => k - i) (fun i => [NV k, .any, .any, NV (pw i), NV i, .any, .any, .any, .any, .any, .any, .any, .any]) (fun _ => []) 0 []
    (Nat.zero_le _) (by simp [NV, pw]) (by simp) (by simp) (by simp) (by simp) ?_
  intro i hi
  have hp : pw i ≤ 2305843009213693952 := by
    have h := pw_le (show i ≤ 61 by omega)
    rw [show pw 61 = 2305843009213693952 from rfl] at h
    exact h
  have hs := pw_succ i
  simp [NV]
  refine alt (fun hlt => ?_) (fun hlt => ?_)
  · have w1 : IntKind.i64.wrap (2 * (pw i : Int)) = ((pw (i + 1) : Nat) : Int) := by rw [wrap_i64 (by omega) (by omega)]; omega
    have w2 : IntKind.i64.wrap ((i : Int) + 1) = ((i + 1 : Nat) : Int) := wrap_i64 (by omega) (by omega)
    simp [w1, w2, -Int.natCast_add]
    exact round (i + 1) [] (by omega) (by omega) (by simp [NV]) (by simp) (by simp) (by simp) (by simp)
  · have : i = k := by omega
    subst this
    simp
    exact fin [] (by decide) rfl rfl rfl ⟨rfl, rfl⟩

theorem RRank_ok (n : Nat) (hn : n < 9223372036854775808) : ECalls Tryd.prog 29 [NV n] [] fun y H' => H' = [] ∧ y = NV (rk n) := by
  obtain ⟨K, hK⟩ : ∃ K, rk n = K := ⟨_, rfl⟩
  rw [hK]
  refine ecalls k_RRank ?_
  simp [c_RRank, NV]
  refine eloop (α := Nat × Nat) (fun a => a.1 < 9223372036854775808 ∧ a.2 ≤ 40 ∧ a.2 + rkF (40 - a.2) a.1 = K) (fun a => 40 - a.2) (fun a => [NV a.1, .any, .any, NV a.2, .any, .any, .any, .any, .any, .any, .any, .any, .any, .any, .any, .any]) (fun _ => []) (n, 0) []
    ⟨hn, by dsimp only; omega, by simpa [rk] using hK⟩ (by simp [NV]) (by simp) (by simp) (by simp) (by simp) ?_
  rintro ⟨m, r⟩ ⟨hm, hr, he⟩
  dsimp only at hm hr he
  have t2 : (m : Int).tmod 2 = ((m % 2 : Nat) : Int) := rfl
  have d2 : (m : Int).tdiv 2 = ((m / 2 : Nat) : Int) := rfl
  have w1 : IntKind.i64.wrap ((m / 2 : Nat) : Int) = ((m / 2 : Nat) : Int) := wrap_i64 (by omega) (by omega)
  have w2 : IntKind.i64.wrap ((r : Int) + 1) = ((r + 1 : Nat) : Int) := wrap_i64 (by omega) (by omega)
  by_cases hlt : r < 40
  · obtain ⟨f, hf⟩ : ∃ f, 40 - r = f + 1 := ⟨40 - r - 1, by omega⟩
    rw [hf, rkF] at he
    have hl : (r : Int) < 40 := by omega
    by_cases hev : m % 2 = 0
    · rw [if_pos hev] at he
      simp [NV, hl, hlt, t2, hev, d2, w1, w2, -Int.natCast_add, -Int.natCast_ediv]
      exact round (m / 2, r + 1) [] ⟨by dsimp only; omega, by dsimp only; omega, by dsimp only; rw [show 40 - (r + 1) = f by omega]; omega⟩ (by dsimp only; omega) (by simp [NV]) (by simp) (by simp) (by simp) (by simp)
    · rw [if_neg hev] at he
      simp [NV, hl, hlt, t2, hev, -Int.natCast_add, -Int.natCast_emod]
      exact fin [] (by decide) rfl rfl rfl ⟨rfl, by rw [← he]; rfl⟩
  · have h40 : r = 40 := by omega
    subst h40
    simp [rkF] at he
    simp [NV]
    exact fin [] (by decide) rfl rfl rfl ⟨rfl, by rw [← he]; rfl⟩

end Go.Proofs.YtdeeophiffchjaaDoor

namespace Go.Proofs.YtdeeophiffchjaaDoor
open Go Go.EW
set_option linter.unusedSimpArgs false
set_option linter.unusedVariables false

@[simp] def l_Lclimb_1 (_ : Unit) : List EOp := [⟨0, (some 3), none, (.q (.box 35 (.t 0))), []⟩, ⟨1, (some 6), none, (.q (.alloc 35 zU8)), []⟩]
@[simp] def b_Lclimb_2 (_ : Unit) : EB := reg0 (hid l_Lclimb_1) 2
@[simp] def l_Lclimb_3 (_ : Unit) : List EOp := [⟨0, (some 8), none, (.q (.mov (.t 2))), []⟩, ⟨1, (some 9), none, (.q (.bin .sub (.t 8) (.k (.int .i64 1)))), []⟩, ⟨2, (some 7), none, (.q (.mov (.t 9))), []⟩]
@[simp] def b_Lclimb_4 (_ : Unit) : EB := reg0 (hid l_Lclimb_3) 3
@[simp] def l_Lclimb_5 (_ : Unit) : List EOp := [⟨0, (some 10), none, (.q (.mov (.t 7))), []⟩, ⟨1, (some 11), none, (.q (.bin .geq (.t 10) (.k (.int .i64 0)))), []⟩]
@[simp] def b_Lclimb_6 (_ : Unit) : EB := reg0 (hid l_Lclimb_5) 2
@[simp] def b_Lclimb_7 (_ : Unit) : EB := .cond (.t 11) .skip (.exit 0)
@[simp] def b_Lclimb_8 (_ : Unit) : EB := .seq (hid b_Lclimb_6) (hid b_Lclimb_7)
@[simp] def l_Lclimb_9 (_ : Unit) : List EOp := [⟨0, (some 14), none, (.q (.mov (.t 1))), []⟩, ⟨1, (some 15), none, (.q (.mov (.t 7))), []⟩, ⟨2, (some 16), none, (.q (.bin .shr (.t 14) (.t 15))), []⟩, ⟨3, (some 17), none, (.q (.bin .and (.t 16) (.k (.int .i64 1)))), []⟩, ⟨4, (some 18), none, (.q (.bin .eql (.t 17) (.k (.int .i64 1)))), []⟩]
@[simp] def b_Lclimb_10 (_ : Unit) : EB := reg0 (hid l_Lclimb_9) 5
@[simp] def l_Lclimb_12 (_ : Unit) : List EOp := [⟨6, (some 25), none, (.q (.bin .shl (.k (.int .u8 1)) (.t 24))), []⟩, ⟨7, (some 26), none, (.q (.bin .xor (.t 22) (.t 25))), []⟩, ⟨8, (some 27), none, (.q (.iad 32 1 (.t 3) (.t 20))), []⟩, ⟨9, none, none, (.sto 1 (.t 27) (.t 26)), []⟩]
@[simp] def l_Lclimb_11 (_ : Unit) : List EOp := ⟨0, (some 19), none, (.q (.mov (.t 7))), []⟩ :: ⟨1, (some 20), none, (.q (.bin .quo (.t 19) (.k (.int .i64 8)))), []⟩ :: ⟨2, (some 21), none, (.q (.iad 32 1 (.t 3) (.t 20))), []⟩ :: ⟨3, (some 22), none, (.q (.ldc (.t 21))), []⟩ :: ⟨4, (some 23), none, (.q (.mov (.t 7))), []⟩ :: ⟨5, (some 24), none, (.q (.bin .rem (.t 23) (.k (.int .i64 8)))), []⟩ :: hid l_Lclimb_12
@[simp] def b_Lclimb_13 (_ : Unit) : EB := reg0 (hid l_Lclimb_11) 10
@[simp] def l_Lclimb_14 (_ : Unit) : List EOp := [⟨0, (some 28), none, (.q (.sar 32 (.t 3) none none)), []⟩, ⟨1, (some 29), none, (.call 34 [(.t 28)]), []⟩, ⟨2, none, none, (.sto 32 (.t 3) (.t 29)), []⟩]
@[simp] def b_Lclimb_15 (_ : Unit) : EB := reg0 (hid l_Lclimb_14) 3
@[simp] def b_Lclimb_16 (_ : Unit) : EB := .seq (hid b_Lclimb_13) (hid b_Lclimb_15)
@[simp] def b_Lclimb_17 (_ : Unit) : EB := .cond (.t 18) (hid b_Lclimb_16) .skip
@[simp] def b_Lclimb_18 (_ : Unit) : EB := .seq (hid b_Lclimb_10) (hid b_Lclimb_17)
@[simp] def b_Lclimb_19 (_ : Unit) : EB := .block 1 (hid b_Lclimb_18)
@[simp] def l_Lclimb_20 (_ : Unit) : List EOp := [⟨0, (some 12), none, (.q (.mov (.t 7))), []⟩, ⟨1, (some 13), none, (.q (.bin .sub (.t 12) (.k (.int .i64 1)))), []⟩, ⟨2, (some 7), none, (.q (.mov (.t 13))), []⟩]
@[simp] def b_Lclimb_21 (_ : Unit) : EB := reg0 (hid l_Lclimb_20) 3
@[simp] def b_Lclimb_22 (_ : Unit) : EB := .seq (hid b_Lclimb_19) (hid b_Lclimb_21)
@[simp] def b_Lclimb_23 (_ : Unit) : EB := .seq (hid b_Lclimb_8) (hid b_Lclimb_22)
@[simp] def b_Lclimb_24 (_ : Unit) : EB := .loop (hid b_Lclimb_23)
@[simp] def b_Lclimb_25 (_ : Unit) : EB := .block 0 (hid b_Lclimb_24)
@[simp] def b_Lclimb_26 (_ : Unit) : EB := .seq (hid b_Lclimb_4) (hid b_Lclimb_25)
@[simp] def l_Lclimb_27 (_ : Unit) : List EOp := [⟨0, (some 30), none, (.q (.lda 32 (.t 3))), []⟩, ⟨1, none, none, (.sto 32 (.t 6) (.t 30)), []⟩]
@[simp] def b_Lclimb_28 (_ : Unit) : EB := reg0 (hid l_Lclimb_27) 2
@[simp] def b_Lclimb_29 (_ : Unit) : EB := .seq (hid b_Lclimb_28) .ret
@[simp] def b_Lclimb_30 (_ : Unit) : EB := .seq (hid b_Lclimb_26) (hid b_Lclimb_29)
@[simp] def b_Lclimb_31 (_ : Unit) : EB := .seq (hid b_Lclimb_2) (hid b_Lclimb_30)
def c_Lclimb : EB × List QOp × Nat := ((hid b_Lclimb_31), [(.lda 32 (.t 6))], 31)
theorem k_Lclimb : cfun Tryd.prog 23 = some c_Lclimb := by kernel_rfl


/-- One less. -/
def pr (k : Nat) : Int := (k : Int) - 1
theorem pr_succ (j : Nat) : pr (j + 1) = (j : Int) := by unfold pr; omega
theorem pr_0 : pr 0 = -1 := rfl
/-- A hash. -/
def HV (h : List UInt8) : EV := .v (.agg (hc h))

theorem frzAll_hc (l : List UInt8) : frzAll (Go.EW.hc l) = some (hf l) := by
  induction l with
  | nil => rfl
  | cons b r ih =>
    have e : Go.EW.hc (b :: r) = .fz (.lit (.int .u8 (b.toNat : Int))) :: Go.EW.hc r := rfl
    rw [e]
    simp only [frzAll, frz, ih]
    rfl
theorem hf_bsv (l : List UInt8) : (hf l).map (fun x => [x]) = bsv l := by simp [hf, bsv, cb]
theorem shl1_u8 {e : Nat} (h : e < 8) : ishl .u8 1 (e : Int) = ((UInt8.ofNat (2 ^ e)).toNat : Int) := by
  have key : ∀ e : Nat, e < 8 → ishl .u8 1 (e : Int) = ((UInt8.ofNat (2 ^ e)).toNat : Int) := by decide +kernel
  exact key e h

set_option maxHeartbeats 4000000 in
theorem Lclimb_ok (h : List UInt8) (n many : Nat) (h32 : h.length = 32) (hm : many ≤ 40) (hn : n < 9223372036854775808) : ECalls Tryd.prog 23 [HV h, NV n, NV many] [] fun y H' => H' = [] ∧ y = HV (clS n many h) := by
  obtain ⟨A, hA⟩ : ∃ A, clS n many h = A := ⟨_, rfl⟩
  have hcn : Go.EW.hc [] = [] := rfl
  have t32 : List.take 32 h = h := List.take_of_length_le (by omega)
  have w0 : IntKind.i64.wrap ((many : Int) - 1) = pr many := wrap_i64 (by omega) (by omega)
  rw [hA]
  refine ecalls k_Lclimb ?_
  simp [c_Lclimb, NV, HV, t32, h32, w0]
  refine eloop (α := Nat × List UInt8) (fun a => a.1 ≤ 40 ∧ a.2.length = 32 ∧ clS n a.1 a.2 = A) (fun a => a.1)
    (fun a => [.any, NV n, .any, .v (.c (.ptr 0 0)), .any, .any, .v (.c (.ptr 1 0)), NV (pr a.1), .any, .any, .any, .any, .any, .any, .any, .any, .any, .any, .any, .any, .any, .any, .any, .any, .any, .any, .any, .any, .any, .any, .any]) (fun a => [some (.box 35 (hc a.2)), some (.box 35 (hc hz))]) (many, h) [0, 16]
    ⟨hm, h32, hA⟩ (by simp [NV]) (by simp) (by simp) (by simp) (by simp) ?_
  rintro ⟨k, c⟩ ⟨hk, c32, hc⟩
  dsimp only at hk c32 hc
  have tc32 : List.take 32 c = c := List.take_of_length_le (by omega)
  rcases Nat.eq_zero_or_pos k with hk0 | hk0
  · subst hk0
    have hcA : c = A := hc
    subst hcA
    simp [NV, pr_0, tc32, c32]
    exact fin [] (by decide) (v := .v (.agg (Go.EW.hc c))) (by simp [resV, resT, evT, asT, fzEO, tc32, c32]) (by simp [conR, conTs, conT, tc32, c32]) rfl ⟨rfl, rfl⟩
  · obtain ⟨j, rfl⟩ : ∃ j, k = j + 1 := ⟨k - 1, by omega⟩
    have e1 := pr_succ j
    have s1 := ishr_nat .i64 n j (by simp [IntKind.bits]; omega)
    have s2 := i64_odd (n / 2 ^ j) (by have := Nat.div_le_self n (2 ^ j); omega)
    have hc' : clS n j (cl1 c n j) = A := hc
    obtain ⟨M, hM⟩ : ∃ M, n / 2 ^ j = M := ⟨_, rfl⟩
    rw [hM] at s1 s2
    have n0 : ¬ ((j : Int) < 0) := by omega
    have w1 : IntKind.i64.wrap ((j : Int) - 1) = pr j := wrap_i64 (by omega) (by omega)
    by_cases hod : M % 2 = 1
    · have hc1 : cl1 c n j = sumS (flp c j) := by unfold cl1; rw [hM, if_pos hod]
      rw [hc1] at hc'
      obtain ⟨d, hd⟩ : ∃ d, j / 8 = d := ⟨_, rfl⟩
      obtain ⟨e8, he8⟩ : ∃ e, j % 8 = e := ⟨_, rfl⟩
      have hd32 : d < 32 := by omega
      have hdc : d < c.length := by omega
      have he : e8 < 8 := by omega
      have q4 : IntKind.i64.wrap ((j : Int) / 8) = (d : Int) := by rw [wrap_i64 (by omega) (by omega)]; omega
      have q5 : (j : Int).tmod 8 = (e8 : Int) := by rw [← he8]; rfl
      obtain ⟨x, hx⟩ : ∃ x, c[d]? = some x := ⟨c[d], by simp [hdc]⟩
      have hrd : (Go.EW.hc (List.drop d c))[0]? = some (.fz (.lit (.int .u8 (x.toNat : Int)))) := by simp [Go.EW.hc, Go.EW.hf, hx]
      have hsl := shl1_u8 he
      have hfl : flp c j = c.set d (x ^^^ UInt8.ofNat (2 ^ e8)) := by unfold flp; rw [hd, he8, hx]; rfl
      obtain ⟨y8, hy8⟩ : ∃ y, UInt8.ofNat (2 ^ e8) = y := ⟨_, rfl⟩
      rw [hy8] at hsl hfl
      have hxo := ibit_xor_u8 x y8
      obtain ⟨z8, hz8⟩ : ∃ z, x ^^^ y8 = z := ⟨_, rfl⟩
      rw [hz8] at hxo hfl
      have n8 : ¬ ((e8 : Int) < 0) := by omega
      have dl : (d : Int) < 32 := by omega
      simp [NV, e1, n0, s1, s2, hod, q4, q5, hrd, hsl, hxo, n8, dl, hc_put hdc, -Int.natCast_emod]
      refine ⟨by omega, ?_⟩
      rw [← hfl]
      have hF32 : (flp c j).length = 32 := by rw [flp_len]; exact c32
      obtain ⟨F, hF⟩ : ∃ F, flp c j = F := ⟨_, rfl⟩
      rw [hF] at hF32 hc' ⊢
      have tF32 : List.take 32 F = F := List.take_of_length_le (by omega)
      have hS := sumS_len F
      have dF : List.drop 32 F = [] := List.drop_of_length_le (by omega)
      have tS : List.take 32 (sumS F) = sumS F := List.take_of_length_le (by omega)
      refine call0 (BSum_ok F (by omega)) (by simp [Bs, hF32, tF32, frzAll_hc, hf_bsv]) ?_
      rintro y H' ⟨rfl, rfl⟩
      refine ⟨.inr ⟨rfl, by simp⟩, le_ok rfl, ?_⟩
      simp [NV, n0, w1, hF32, hS, tS, hcn]
      exact round (j, sumS F) [0, 1] ⟨by dsimp only; omega, hS, hc'⟩ (by dsimp only; omega) (by simp [NV]) (by simp [hcn, tS, hS, dF]) (by simp) (by simp) (by simp)
    · have hc1 : cl1 c n j = c := by unfold cl1; rw [hM, if_neg hod]
      rw [hc1] at hc'
      have hod' : ¬ ((M % 2 : Nat) : Int) = 1 := by omega
      simp [NV, e1, n0, s1, s2, hod', w1, -Int.natCast_emod]
      exact round (j, c) [0, 1] ⟨by dsimp only; omega, c32, hc'⟩ (by dsimp only; omega) (by simp [NV]) (by simp) (by simp) (by simp) (by simp)

end Go.Proofs.YtdeeophiffchjaaDoor

namespace Go.Proofs.YtdeeophiffchjaaDoor
open Go Go.EW
set_option linter.unusedSimpArgs false
set_option linter.unusedVariables false

@[simp] def l_Rclimb_1 (_ : Unit) : List EOp := [⟨0, (some 3), none, (.q (.box 35 (.t 0))), []⟩, ⟨1, (some 6), none, (.q (.alloc 35 zU8)), []⟩]
@[simp] def b_Rclimb_2 (_ : Unit) : EB := reg0 (hid l_Rclimb_1) 2
@[simp] def l_Rclimb_3 (_ : Unit) : List EOp := [⟨0, (some 8), none, (.q (.mov (.t 2))), []⟩, ⟨1, (some 9), none, (.q (.bin .sub (.t 8) (.k (.int .i64 1)))), []⟩, ⟨2, (some 7), none, (.q (.mov (.t 9))), []⟩]
@[simp] def b_Rclimb_4 (_ : Unit) : EB := reg0 (hid l_Rclimb_3) 3
@[simp] def l_Rclimb_5 (_ : Unit) : List EOp := [⟨0, (some 10), none, (.q (.mov (.t 7))), []⟩, ⟨1, (some 11), none, (.q (.bin .geq (.t 10) (.k (.int .i64 0)))), []⟩]
@[simp] def b_Rclimb_6 (_ : Unit) : EB := reg0 (hid l_Rclimb_5) 2
@[simp] def b_Rclimb_7 (_ : Unit) : EB := .cond (.t 11) .skip (.exit 0)
@[simp] def b_Rclimb_8 (_ : Unit) : EB := .seq (hid b_Rclimb_6) (hid b_Rclimb_7)
@[simp] def l_Rclimb_9 (_ : Unit) : List EOp := [⟨0, (some 14), none, (.q (.mov (.t 1))), []⟩, ⟨1, (some 15), none, (.q (.mov (.t 7))), []⟩, ⟨2, (some 16), none, (.call 33 [(.t 15)]), []⟩, ⟨3, (some 17), none, (.q (.bin .quo (.t 14) (.t 16))), []⟩, ⟨4, (some 18), none, (.q (.bin .rem (.t 17) (.k (.int .i64 2)))), []⟩, ⟨5, (some 19), none, (.q (.bin .eql (.t 18) (.k (.int .i64 0)))), []⟩]
@[simp] def b_Rclimb_10 (_ : Unit) : EB := reg0 (hid l_Rclimb_9) 6
@[simp] def b_Rclimb_11 (_ : Unit) : EB := .cond (.t 19) (.exit 1) .skip
@[simp] def b_Rclimb_12 (_ : Unit) : EB := .seq (hid b_Rclimb_10) (hid b_Rclimb_11)
@[simp] def l_Rclimb_15 (_ : Unit) : List EOp := [⟨12, none, none, (.sto 1 (.t 31) (.t 30)), []⟩]
@[simp] def l_Rclimb_14 (_ : Unit) : List EOp := ⟨6, (some 26), none, (.q (.mov (.t 7))), []⟩ :: ⟨7, (some 27), none, (.q (.bin .rem (.t 26) (.k (.int .i64 8)))), []⟩ :: ⟨8, (some 28), none, (.call 33 [(.t 27)]), [0, 1, 2, 3, 4, 5]⟩ :: ⟨9, (some 29), none, (.q (.cnv .u8 (.t 28))), []⟩ :: ⟨10, (some 30), none, (.q (.bin .xor (.t 25) (.t 29))), []⟩ :: ⟨11, (some 31), none, (.q (.iad 32 1 (.t 3) (.t 21))), []⟩ :: hid l_Rclimb_15
@[simp] def l_Rclimb_13 (_ : Unit) : List EOp := ⟨0, (some 20), none, (.q (.mov (.t 7))), []⟩ :: ⟨1, (some 21), none, (.q (.bin .quo (.t 20) (.k (.int .i64 8)))), []⟩ :: ⟨2, (some 22), none, (.q (.mov (.t 7))), []⟩ :: ⟨3, (some 23), none, (.q (.bin .quo (.t 22) (.k (.int .i64 8)))), []⟩ :: ⟨4, (some 24), none, (.q (.iad 32 1 (.t 3) (.t 23))), []⟩ :: ⟨5, (some 25), none, (.q (.ldc (.t 24))), []⟩ :: hid l_Rclimb_14
@[simp] def b_Rclimb_16 (_ : Unit) : EB := reg1 (hid l_Rclimb_13) 13
@[simp] def l_Rclimb_17 (_ : Unit) : List EOp := [⟨0, (some 32), none, (.q (.sar 32 (.t 3) none none)), []⟩, ⟨1, (some 33), none, (.call 35 [(.t 32)]), []⟩, ⟨2, none, none, (.sto 32 (.t 3) (.t 33)), []⟩]
@[simp] def b_Rclimb_18 (_ : Unit) : EB := reg0 (hid l_Rclimb_17) 3
@[simp] def b_Rclimb_19 (_ : Unit) : EB := .seq (hid b_Rclimb_16) (hid b_Rclimb_18)
@[simp] def b_Rclimb_20 (_ : Unit) : EB := .seq (hid b_Rclimb_12) (hid b_Rclimb_19)
@[simp] def b_Rclimb_21 (_ : Unit) : EB := .block 1 (hid b_Rclimb_20)
@[simp] def l_Rclimb_22 (_ : Unit) : List EOp := [⟨0, (some 12), none, (.q (.mov (.t 7))), []⟩, ⟨1, (some 13), none, (.q (.bin .sub (.t 12) (.k (.int .i64 1)))), []⟩, ⟨2, (some 7), none, (.q (.mov (.t 13))), []⟩]
@[simp] def b_Rclimb_23 (_ : Unit) : EB := reg0 (hid l_Rclimb_22) 3
@[simp] def b_Rclimb_24 (_ : Unit) : EB := .seq (hid b_Rclimb_21) (hid b_Rclimb_23)
@[simp] def b_Rclimb_25 (_ : Unit) : EB := .seq (hid b_Rclimb_8) (hid b_Rclimb_24)
@[simp] def b_Rclimb_26 (_ : Unit) : EB := .loop (hid b_Rclimb_25)
@[simp] def b_Rclimb_27 (_ : Unit) : EB := .block 0 (hid b_Rclimb_26)
@[simp] def b_Rclimb_28 (_ : Unit) : EB := .seq (hid b_Rclimb_4) (hid b_Rclimb_27)
@[simp] def l_Rclimb_29 (_ : Unit) : List EOp := [⟨0, (some 34), none, (.q (.lda 32 (.t 3))), []⟩, ⟨1, none, none, (.sto 32 (.t 6) (.t 34)), []⟩]
@[simp] def b_Rclimb_30 (_ : Unit) : EB := reg0 (hid l_Rclimb_29) 2
@[simp] def b_Rclimb_31 (_ : Unit) : EB := .seq (hid b_Rclimb_30) .ret
@[simp] def b_Rclimb_32 (_ : Unit) : EB := .seq (hid b_Rclimb_28) (hid b_Rclimb_31)
@[simp] def b_Rclimb_33 (_ : Unit) : EB := .seq (hid b_Rclimb_2) (hid b_Rclimb_32)
def c_Rclimb : EB × List QOp × Nat := ((hid b_Rclimb_33), [(.lda 32 (.t 6))], 35)
theorem k_Rclimb : cfun Tryd.prog 24 = some c_Rclimb := by kernel_rfl

@[simp] def l_LMake_1 (_ : Unit) : List EOp := [⟨0, (some 2), none, (.q (.box 35 (.t 0))), []⟩, ⟨1, (some 4), none, (.q (.alloc 35 zU8)), []⟩, ⟨2, (some 5), none, (.q (.mov (.k .nilIface))), []⟩]
@[simp] def b_LMake_2 (_ : Unit) : EB := reg0 (hid l_LMake_1) 3
@[simp] def l_LMake_3 (_ : Unit) : List EOp := [⟨0, (some 6), none, (.q (.mov (.t 1))), []⟩, ⟨1, (some 7), none, (.q (.bin .lss (.t 6) (.k (.int .i64 0)))), []⟩, ⟨2, (some 8), none, (.q (.mov (.t 7))), []⟩, ⟨3, (some 9), (some (8, false)), (.q (.mov (.t 1))), []⟩, ⟨4, (some 10), (some (8, false)), (.q (.bin .gtr (.t 9) (.k (.int .i64 1099511627775)))), []⟩, ⟨5, (some 11), none, (.q (.pick (.t 8) (.k (.bool true)) (.t 10))), []⟩]
@[simp] def b_LMake_4 (_ : Unit) : EB := reg0 (hid l_LMake_3) 6
@[simp] def l_LMake_5 (_ : Unit) : List EOp := [⟨0, (some 12), none, (.q (.build zU8 [])), []⟩, ⟨1, (some 13), none, (.q (.mki 52 (.k (.int .i64 4)))), []⟩, ⟨2, none, none, (.sto 32 (.t 4) (.t 12)), []⟩, ⟨3, (some 5), none, (.q (.mov (.t 13))), []⟩]
@[simp] def b_LMake_6 (_ : Unit) : EB := reg0 (hid l_LMake_5) 4
@[simp] def b_LMake_7 (_ : Unit) : EB := .seq (hid b_LMake_6) .ret
@[simp] def b_LMake_8 (_ : Unit) : EB := .cond (.t 11) (hid b_LMake_7) .skip
@[simp] def b_LMake_9 (_ : Unit) : EB := .seq (hid b_LMake_4) (hid b_LMake_8)
@[simp] def l_LMake_10 (_ : Unit) : List EOp := [⟨0, (some 14), none, (.q (.lda 32 (.t 2))), []⟩, ⟨1, (some 15), none, (.q (.mov (.t 1))), []⟩, ⟨2, (some 16), none, (.call 23 [(.t 14), (.t 15), (.k (.int .i64 40))]), []⟩, ⟨3, none, none, (.sto 32 (.t 4) (.t 16)), []⟩, ⟨4, (some 5), none, (.q (.mov (.k .nilIface))), []⟩]
@[simp] def b_LMake_11 (_ : Unit) : EB := reg0 (hid l_LMake_10) 5
@[simp] def b_LMake_12 (_ : Unit) : EB := .seq (hid b_LMake_11) .ret
@[simp] def b_LMake_13 (_ : Unit) : EB := .seq (hid b_LMake_9) (hid b_LMake_12)
@[simp] def b_LMake_14 (_ : Unit) : EB := .seq (hid b_LMake_2) (hid b_LMake_13)
def c_LMake : EB × List QOp × Nat := ((hid b_LMake_14), [(.lda 32 (.t 4)), (.mov (.t 5))], 17)
theorem k_LMake : cfun Tryd.prog 11 = some c_LMake := by kernel_rfl

@[simp] def l_RMake_1 (_ : Unit) : List EOp := [⟨0, (some 2), none, (.q (.box 35 (.t 0))), []⟩, ⟨1, (some 4), none, (.q (.alloc 35 zU8)), []⟩, ⟨2, (some 5), none, (.q (.mov (.k (.int .i64 0)))), []⟩]
@[simp] def b_RMake_2 (_ : Unit) : EB := reg0 (hid l_RMake_1) 3
@[simp] def l_RMake_3 (_ : Unit) : List EOp := [⟨0, (some 6), none, (.q (.mov (.t 1))), []⟩, ⟨1, (some 7), none, (.q (.bin .lss (.t 6) (.k (.int .i64 0)))), []⟩, ⟨2, (some 8), none, (.q (.mov (.t 7))), []⟩, ⟨3, (some 9), (some (8, false)), (.q (.mov (.t 1))), []⟩, ⟨4, (some 10), (some (8, false)), (.q (.bin .gtr (.t 9) (.k (.int .i64 1099511627775)))), []⟩, ⟨5, (some 11), none, (.q (.pick (.t 8) (.k (.bool true)) (.t 10))), []⟩]
@[simp] def b_RMake_4 (_ : Unit) : EB := reg0 (hid l_RMake_3) 6
@[simp] def l_RMake_5 (_ : Unit) : List EOp := [⟨0, (some 12), none, (.q (.build zU8 [])), []⟩, ⟨1, none, none, (.sto 32 (.t 4) (.t 12)), []⟩, ⟨2, (some 5), none, (.q (.mov (.k (.int .i64 4)))), []⟩]
@[simp] def b_RMake_6 (_ : Unit) : EB := reg0 (hid l_RMake_5) 3
@[simp] def b_RMake_7 (_ : Unit) : EB := .seq (hid b_RMake_6) .ret
@[simp] def b_RMake_8 (_ : Unit) : EB := .cond (.t 11) (hid b_RMake_7) .skip
@[simp] def b_RMake_9 (_ : Unit) : EB := .seq (hid b_RMake_4) (hid b_RMake_8)
@[simp] def l_RMake_10 (_ : Unit) : List EOp := [⟨0, (some 13), none, (.q (.lda 32 (.t 2))), []⟩, ⟨1, (some 14), none, (.q (.mov (.t 1))), []⟩, ⟨2, (some 15), none, (.call 24 [(.t 13), (.t 14), (.k (.int .i64 40))]), []⟩, ⟨3, none, none, (.sto 32 (.t 4) (.t 15)), []⟩, ⟨4, (some 5), none, (.q (.mov (.k (.int .i64 0)))), []⟩]
@[simp] def b_RMake_11 (_ : Unit) : EB := reg0 (hid l_RMake_10) 5
@[simp] def b_RMake_12 (_ : Unit) : EB := .seq (hid b_RMake_11) .ret
@[simp] def b_RMake_13 (_ : Unit) : EB := .seq (hid b_RMake_9) (hid b_RMake_12)
@[simp] def b_RMake_14 (_ : Unit) : EB := .seq (hid b_RMake_2) (hid b_RMake_13)
def c_RMake : EB × List QOp × Nat := ((hid b_RMake_14), [(.lda 32 (.t 4)), (.mov (.t 5))], 16)
theorem k_RMake : cfun Tryd.prog 12 = some c_RMake := by kernel_rfl


set_option maxHeartbeats 4000000 in
theorem Rclimb_ok (h : List UInt8) (n many : Nat) (h32 : h.length = 32) (hm : many ≤ 40) (hn : n < 9223372036854775808) : ECalls Tryd.prog 24 [HV h, NV n, NV many] [] fun y H' => H' = [] ∧ y = HV (clS n many h) := by
  obtain ⟨A, hA⟩ : ∃ A, clS n many h = A := ⟨_, rfl⟩
  have hcn : Go.EW.hc [] = [] := rfl
  have t32 : List.take 32 h = h := List.take_of_length_le (by omega)
  have w0 : IntKind.i64.wrap ((many : Int) - 1) = pr many := wrap_i64 (by omega) (by omega)
  rw [hA]
  refine ecalls k_Rclimb ?_
  simp [c_Rclimb, NV, HV, t32, h32, w0]
  refine eloop (α := Nat × List UInt8) (fun a => a.1 ≤ 40 ∧ a.2.length = 32 ∧ clS n a.1 a.2 = A) (fun a => a.1)
    (fun a => [.any, NV n, .any, .v (.c (.ptr 0 0)), .any, .any, .v (.c (.ptr 1 0)), NV (pr a.1), .any, .any, .any, .any, .any, .any, .any, .any, .any, .any, .any, .any, .any, .any, .any, .any, .any, .any, .any, .any, .any, .any, .any, .any, .any, .any, .any]) (fun a => [some (.box 35 (hc a.2)), some (.box 35 (hc hz))]) (many, h) [0, 16]
    ⟨hm, h32, hA⟩ (by simp [NV]) (by simp) (by simp) (by simp) (by simp) ?_
  rintro ⟨k, c⟩ ⟨hk, c32, hc⟩
  dsimp only at hk c32 hc
  have tc32 : List.take 32 c = c := List.take_of_length_le (by omega)
  rcases Nat.eq_zero_or_pos k with hk0 | hk0
  · subst hk0
    have hcA : c = A := hc
    subst hcA
    simp [NV, pr_0, tc32, c32]
    exact fin [] (by decide) (v := .v (.agg (Go.EW.hc c))) (by simp [resV, resT, evT, asT, fzEO, tc32, c32]) (by simp [conR, conTs, conT, tc32, c32]) rfl ⟨rfl, rfl⟩
  · obtain ⟨j, rfl⟩ : ∃ j, k = j + 1 := ⟨k - 1, by omega⟩
    have e1 := pr_succ j
    have hc' : clS n j (cl1 c n j) = A := hc
    obtain ⟨M, hM⟩ : ∃ M, n / 2 ^ j = M := ⟨_, rfl⟩
    have n0 : ¬ ((j : Int) < 0) := by omega
    have w1 : IntKind.i64.wrap ((j : Int) - 1) = pr j := wrap_i64 (by omega) (by omega)
    have hpj : pw j = 2 ^ j := rfl
    have hp0 : ¬ pw j = 0 := by have := pow_pos' j; omega
    have hp0' : ¬ ((pw j : Nat) : Int) = 0 := by omega
    have s1 : (n : Int).tdiv ((pw j : Nat) : Int) = (M : Int) := by rw [← hM, ← hpj]; rfl
    have hMn : M ≤ n := by rw [← hM]; exact Nat.div_le_self _ _
    have wM : IntKind.i64.wrap (M : Int) = (M : Int) := wrap_i64 (by omega) (by omega)
    have s2 : (M : Int).tmod 2 = ((M % 2 : Nat) : Int) := rfl
    simp [NV, e1]
    refine call0 (Rpow_ok j (by omega)) (by simp [NV]) ?_
    rintro y H' ⟨rfl, rfl⟩
    refine ⟨.inl (by simp [NV]), le_ok rfl, ?_⟩
    by_cases hod : M % 2 = 1
    · have hc1 : cl1 c n j = sumS (flp c j) := by unfold cl1; rw [hM, if_pos hod]
      rw [hc1] at hc'
      obtain ⟨d, hd⟩ : ∃ d, j / 8 = d := ⟨_, rfl⟩
      obtain ⟨e8, he8⟩ : ∃ e, j % 8 = e := ⟨_, rfl⟩
      have hd32 : d < 32 := by omega
      have hdc : d < c.length := by omega
      have he : e8 < 8 := by omega
      have q4 : IntKind.i64.wrap ((j : Int) / 8) = (d : Int) := by rw [wrap_i64 (by omega) (by omega)]; omega
      have q5 : (j : Int).tmod 8 = (e8 : Int) := by rw [← he8]; rfl
      have n8 : ¬ ((e8 : Int) < 0) := by omega
      have dl : (d : Int) < 32 := by omega
      have hod0 : ¬ ((M % 2 : Nat) : Int) = 0 := by omega
      obtain ⟨x, hx⟩ : ∃ x, c[d]? = some x := ⟨c[d], by simp [hdc]⟩
      have hrd : (Go.EW.hc (List.drop d c))[0]? = some (.fz (.lit (.int .u8 (x.toNat : Int)))) := by simp [Go.EW.hc, Go.EW.hf, hx]
      have hfl : flp c j = c.set d (x ^^^ UInt8.ofNat (2 ^ e8)) := by unfold flp; rw [hd, he8, hx]; rfl
      have hpe : pw e8 < 256 := by
        have h := pw_le (show e8 ≤ 7 by omega)
        rw [show pw 7 = 128 from rfl] at h
        omega
      have hy8' : ((pw e8 : Nat) : Int) = ((UInt8.ofNat (2 ^ e8)).toNat : Int) := by
        rw [show UInt8.ofNat (2 ^ e8) = UInt8.ofNat (pw e8) from rfl, UInt8.toNat_ofNat', Nat.mod_eq_of_lt (by omega)]
      have wu : IntKind.u8.wrap ((pw e8 : Nat) : Int) = ((pw e8 : Nat) : Int) := by simp [IntKind.wrap, IntKind.bits, IntKind.signed]; omega
      rw [hy8'] at wu
      obtain ⟨y8, hy8⟩ : ∃ y, UInt8.ofNat (2 ^ e8) = y := ⟨_, rfl⟩
      rw [hy8] at hfl hy8' wu
      have hxo := ibit_xor_u8 x y8
      obtain ⟨z8, hz8⟩ : ∃ z, x ^^^ y8 = z := ⟨_, rfl⟩
      rw [hz8] at hxo hfl
      have hpw := Rpow_ok e8 (by omega)
      rw [hy8'] at hpw
      simp [NV, e1, n0, s1, s2, wM, hp0, hod, q4, q5, n8, dl, hrd, -Int.natCast_emod]
      refine call0 hpw (by simp [NV]) ?_
      rintro y H' ⟨rfl, rfl⟩
      refine ⟨.inl (by simp [NV]), le_ok rfl, ?_⟩
      have hF32 : (flp c j).length = 32 := by rw [flp_len]; exact c32
      obtain ⟨F, hF⟩ : ∃ F, flp c j = F := ⟨_, rfl⟩
      rw [hF] at hF32 hc' hfl
      have tF32 : List.take 32 F = F := List.take_of_length_le (by omega)
      have hS := sumS_len F
      have dF : List.drop 32 F = [] := List.drop_of_length_le (by omega)
      have tS : List.take 32 (sumS F) = sumS F := List.take_of_length_le (by omega)
      simp [NV, e1, n0, hrd, q4, dl, wu, hxo, hc_put hdc, ← hfl]
      refine ⟨by omega, ?_⟩
      refine call0 (RSum_ok F (by omega)) (by simp [Bs, hF32, tF32, frzAll_hc, hf_bsv]) ?_
      rintro y H' ⟨rfl, rfl⟩
      refine ⟨.inr ⟨rfl, by simp⟩, le_ok rfl, ?_⟩
      simp [NV, n0, w1, hF32, hS, tS, hcn]
      exact round (j, sumS F) [0, 1] ⟨by dsimp only; omega, hS, hc'⟩ (by dsimp only; omega) (by simp [NV]) (by simp [hcn, tS, hS, dF]) (by simp) (by simp) (by simp)
    · have hc1 : cl1 c n j = c := by unfold cl1; rw [hM, if_neg hod]
      rw [hc1] at hc'
      have hod0 : M % 2 = 0 := by omega
      simp [NV, e1, n0, s1, s2, wM, hp0, hod0, w1, -Int.natCast_emod]
      exact round (j, c) [0, 1] ⟨by dsimp only; omega, c32, hc'⟩ (by dsimp only; omega) (by simp [NV]) (by simp) (by simp) (by simp) (by simp)

/-- The secret of a number, from a root; the error. -/
def makS (h : List UInt8) (n : Int) : List UInt8 × Nat := if n < 0 ∨ 1099511627775 < n then (hz, 4) else (clS n.toNat 40 h, 0)
@[simp] theorem errV_4' : Value.iface 52 (.int .i64 4) = errV 4 := rfl
theorem LMake_ok (h : List UInt8) (n : Int) (h32 : h.length = 32) (hn : -9223372036854775808 ≤ n ∧ n ≤ 9223372036854775807) : ECalls Tryd.prog 11 [HV h, NV n] [] fun y H' => H' = [] ∧ y = .tup [.agg (hc (makS h n).1), .c (.fz (.lit (errV (makS h n).2)))] := by
  have t32 : List.take 32 h = h := List.take_of_length_le (by omega)
  have hcn : Go.EW.hc [] = [] := rfl
  have ht32 : List.take 32 (Go.EW.hc h) = Go.EW.hc h := List.take_of_length_le (by rw [hc_len]; omega)
  refine ecalls k_LMake ?_
  simp [c_LMake, NV, HV, t32, h32, ht32, -errV_0]
  by_cases h0 : n < 0
  · have hm : makS h n = (hz, 4) := by unfold makS; rw [if_pos (.inl h0)]
    have h0' : ¬ 0 ≤ n := by omega
    simp [h0, h0', hm, -errV_0]
    exact fin [] (by decide) rfl rfl rfl ⟨rfl, rfl⟩
  have h0' : 0 ≤ n := by omega
  by_cases h1 : 1099511627775 < n
  · have hm : makS h n = (hz, 4) := by unfold makS; rw [if_pos (.inr h1)]
    simp [h0, h0', h1, hm, -errV_0]
    exact fin [] (by decide) rfl rfl rfl ⟨rfl, rfl⟩
  have h1' : n ≤ 1099511627775 := by omega
  have hm : makS h n = (clS n.toNat 40 h, 0) := by unfold makS; rw [if_neg (by omega)]
  have hl := clS_len n.toNat 40 h h32
  have hcl := Lclimb_ok h n.toNat 40 h32 (by omega) (by omega)
  rw [show ((n.toNat : Nat) : Int) = n by omega] at hcl
  obtain ⟨A, hA⟩ : ∃ A, clS n.toNat 40 h = A := ⟨_, rfl⟩
  rw [hA] at hm hl hcl
  have tA : List.take 32 A = A := List.take_of_length_le (by omega)
  simp [h0, h0', h1, h1', hm, t32, h32, NV, -errV_0]
  refine call0 hcl (by simp [HV, NV]) ?_
  rintro y H' ⟨rfl, rfl⟩
  refine ⟨.inl (by simp [HV]), le_ok rfl, ?_⟩
  simp [HV, hl, tA, hcn, -errV_0]
  exact fin [] (by decide) (v := .tup [.agg (Go.EW.hc A), .c (.fz (.lit (errV 0)))]) (by simp [resV, resT, evT, asT, fzEO, tA, hl]) (by simp [conR, conTs, conT, tA, hl]) rfl ⟨rfl, rfl⟩
theorem RMake_ok (h : List UInt8) (n : Int) (h32 : h.length = 32) (hn : -9223372036854775808 ≤ n ∧ n ≤ 9223372036854775807) : ECalls Tryd.prog 12 [HV h, NV n] [] fun y H' => H' = [] ∧ y = .tup [.agg (hc (makS h n).1), .c (.fz (.lit (.int .i64 (makS h n).2)))] := by
  have t32 : List.take 32 h = h := List.take_of_length_le (by omega)
  have hcn : Go.EW.hc [] = [] := rfl
  have ht32 : List.take 32 (Go.EW.hc h) = Go.EW.hc h := List.take_of_length_le (by rw [hc_len]; omega)
  refine ecalls k_RMake ?_
  simp [c_RMake, NV, HV, t32, h32, ht32]
  by_cases h0 : n < 0
  · have hm : makS h n = (hz, 4) := by unfold makS; rw [if_pos (.inl h0)]
    have h0' : ¬ 0 ≤ n := by omega
    simp [h0, h0', hm]
    exact fin [] (by decide) rfl rfl rfl ⟨rfl, rfl⟩
  have h0' : 0 ≤ n := by omega
  by_cases h1 : 1099511627775 < n
  · have hm : makS h n = (hz, 4) := by unfold makS; rw [if_pos (.inr h1)]
    simp [h0, h0', h1, hm]
    exact fin [] (by decide) rfl rfl rfl ⟨rfl, rfl⟩
  have h1' : n ≤ 1099511627775 := by omega
  have hm : makS h n = (clS n.toNat 40 h, 0) := by unfold makS; rw [if_neg (by omega)]
  have hl := clS_len n.toNat 40 h h32
  have hcl := Rclimb_ok h n.toNat 40 h32 (by omega) (by omega)
  rw [show ((n.toNat : Nat) : Int) = n by omega] at hcl
  obtain ⟨A, hA⟩ : ∃ A, clS n.toNat 40 h = A := ⟨_, rfl⟩
  rw [hA] at hm hl hcl
  have tA : List.take 32 A = A := List.take_of_length_le (by omega)
  simp [h0, h0', h1, h1', hm, t32, h32, NV]
  refine call0 hcl (by simp [HV, NV]) ?_
  rintro y H' ⟨rfl, rfl⟩
  refine ⟨.inl (by simp [HV]), le_ok rfl, ?_⟩
  simp [HV, hl, tA, hcn]
  exact fin [] (by decide) (v := .tup [.agg (Go.EW.hc A), .c (.fz (.lit (.int .i64 0)))]) (by simp [resV, resT, evT, asT, fzEO, tA, hl]) (by simp [conR, conTs, conT, tA, hl]) rfl ⟨rfl, rfl⟩

end Go.Proofs.YtdeeophiffchjaaDoor

namespace Go.Proofs.YtdeeophiffchjaaDoor
open Go Go.EW
set_option linter.unusedSimpArgs false
set_option linter.unusedVariables false

@[simp] def l_Lmk_1 (_ : Unit) : List EOp := [⟨0, (some 2), none, (.q (.box 54 (.t 0))), []⟩, ⟨1, (some 4), none, (.q (.mov (.k (.bool false)))), []⟩]
@[simp] def b_Lmk_2 (_ : Unit) : EB := reg0 (hid l_Lmk_1) 2
@[simp] def l_Lmk_3 (_ : Unit) : List EOp := [⟨0, (some 6), none, (.q (.fad 0 (.t 2))), []⟩, ⟨1, (some 7), none, (.q (.ldc (.t 6))), []⟩, ⟨2, (some 8), none, (.call 26 [(.t 7)]), []⟩, ⟨3, (some 5), none, (.q (.mov (.t 8))), []⟩]
@[simp] def b_Lmk_4 (_ : Unit) : EB := reg0 (hid l_Lmk_3) 4
@[simp] def l_Lmk_6 (_ : Unit) : List EOp := [⟨6, (some 15), none, (.q (.bin .shr (.t 13) (.t 14))), []⟩, ⟨7, (some 16), none, (.q (.bin .eql (.t 12) (.t 15))), []⟩, ⟨8, (some 4), none, (.q (.mov (.t 16))), []⟩]
@[simp] def l_Lmk_5 (_ : Unit) : List EOp := ⟨0, (some 9), none, (.q (.fad 0 (.t 2))), []⟩ :: ⟨1, (some 10), none, (.q (.ldc (.t 9))), []⟩ :: ⟨2, (some 11), none, (.q (.mov (.t 5))), []⟩ :: ⟨3, (some 12), none, (.q (.bin .shr (.t 10) (.t 11))), []⟩ :: ⟨4, (some 13), none, (.q (.mov (.t 1))), []⟩ :: ⟨5, (some 14), none, (.q (.mov (.t 5))), []⟩ :: hid l_Lmk_6
@[simp] def b_Lmk_7 (_ : Unit) : EB := reg0 (hid l_Lmk_5) 9
@[simp] def b_Lmk_8 (_ : Unit) : EB := .seq (hid b_Lmk_7) .ret
@[simp] def b_Lmk_9 (_ : Unit) : EB := .seq (hid b_Lmk_4) (hid b_Lmk_8)
@[simp] def b_Lmk_10 (_ : Unit) : EB := .seq (hid b_Lmk_2) (hid b_Lmk_9)
def c_Lmk : EB × List QOp × Nat := ((hid b_Lmk_10), [(.mov (.t 4))], 17)
theorem k_Lmk : cfun Tryd.prog 30 = some c_Lmk := by kernel_rfl

@[simp] def l_Lof_1 (_ : Unit) : List EOp := [⟨0, (some 2), none, (.q (.box 54 (.t 0))), []⟩, ⟨1, (some 4), none, (.q (.alloc 35 zU8)), []⟩]
@[simp] def b_Lof_2 (_ : Unit) : EB := reg0 (hid l_Lof_1) 2
@[simp] def l_Lof_4 (_ : Unit) : List EOp := [⟨6, (some 11), none, (.call 23 [(.t 6), (.t 7), (.t 10)]), []⟩, ⟨7, none, none, (.sto 32 (.t 4) (.t 11)), []⟩]
@[simp] def l_Lof_3 (_ : Unit) : List EOp := ⟨0, (some 5), none, (.q (.fad 1 (.t 2))), []⟩ :: ⟨1, (some 6), none, (.q (.lda 32 (.t 5))), []⟩ :: ⟨2, (some 7), none, (.q (.mov (.t 1))), []⟩ :: ⟨3, (some 8), none, (.q (.fad 0 (.t 2))), []⟩ :: ⟨4, (some 9), none, (.q (.ldc (.t 8))), []⟩ :: ⟨5, (some 10), none, (.call 26 [(.t 9)]), [0, 1, 2]⟩ :: hid l_Lof_4
@[simp] def b_Lof_5 (_ : Unit) : EB := reg1 (hid l_Lof_3) 8
@[simp] def b_Lof_6 (_ : Unit) : EB := .seq (hid b_Lof_5) .ret
@[simp] def b_Lof_7 (_ : Unit) : EB := .seq (hid b_Lof_2) (hid b_Lof_6)
def c_Lof : EB × List QOp × Nat := ((hid b_Lof_7), [(.lda 32 (.t 4))], 12)
theorem k_Lof : cfun Tryd.prog 31 = some c_Lof := by kernel_rfl


/-! ### steps -/
def stpF (s : Stp) : List FV := .lit (.int .i64 s.num) :: hf s.sec
def stpC (s : Stp) : List EC := .fz (.lit (.int .i64 s.num)) :: hc s.sec
def stpv (l : List Stp) : List (List FV) := l.map stpF
def SLv (l : List Stp) : EV := .v (.c (.fz (.sl 33 (stpv l))))
/-- A step that may be. -/
structure Stp.ok (s : Stp) : Prop where
  lo : 0 ≤ s.num
  hi : s.num ≤ 1099511627776
  sec : s.sec.length = 32
@[simp] theorem stpv_len (l : List Stp) : (stpv l).length = l.length := by simp [stpv]
theorem stpv_get {l : List Stp} {i : Nat} {p : Stp} (h : l[i]? = some p) : (stpv l)[i]? = some (stpF p) := by simp [stpv, h]
theorem stpC_len {s : Stp} (h : s.sec.length = 32) : (stpC s).length = 33 := by simp [stpC, hc_len, h]
theorem stpF_len {s : Stp} (h : s.sec.length = 32) : (stpF s).length = 33 := by simp [stpF, hf, h]
theorem stpF_fz (s : Stp) : (stpF s).map EC.fz = stpC s := by simp [stpF, stpC]
theorem stpC_take {s : Stp} (h : s.sec.length = 32) : (stpC s).take 33 = stpC s := List.take_of_length_le (by rw [stpC_len h]; omega)
theorem sp0 (s : Stp) : (stpC s)[0]? = some (.fz (.lit (.int .i64 s.num))) := rfl
theorem se0 (s : Stp) (h : 0 < (stpC s).length) : (stpC s)[0]'h = .fz (.lit (.int .i64 s.num)) := rfl
theorem sd1 (s : Stp) : (stpC s).drop 1 = hc s.sec := rfl
theorem sd1' (s : Stp) : (stpC s).tail = hc s.sec := rfl
theorem st32 {s : Stp} (h : s.sec.length = 32) : (hc s.sec).take 32 = hc s.sec := List.take_of_length_le (by rw [hc_len]; omega)
@[simp] theorem conAll_stpC (H : Nat → Option EO) (ids : List Nat) (s : Stp) : conAll H ids (stpC s) = some (stpC s) := by simp [stpC, conAll, conC]
@[simp] theorem strAll_stpC (ids : List Nat) (s : Stp) : strAll ids (stpC s) = some (stpC s) := by simp [stpC, strAll, strC]
@[simp] theorem frzAll_stpC (s : Stp) : frzAll (stpC s) = some (stpF s) := by simp [stpC, stpF, frzAll, frz, frzAll_hc]
@[simp] theorem refs_stpC (s : Stp) : (stpC s).flatMap refsC = [] := by simp [stpC, refsC]
@[simp] theorem fz_stpC (ids : List Nat) (s : Stp) : (stpC s).flatMap (fzC ids) = [] := by simp [stpC, fzC]
@[simp] theorem ren_stpC (g : Nat → Nat) (s : Stp) : (stpC s).map (renC g) = stpC s := by simp [stpC, renC]

theorem Lmk_ok (s : Stp) (n : Nat) (hs : s.ok) (hn : n < 9223372036854775808) : ECalls Tryd.prog 30 [.v (.agg (stpC s)), NV n] [] fun y H' => H' = [] ∧ y = .lit (.bool (mkS s n)) := by
  obtain ⟨lo, hi, h32⟩ := id hs
  have hl := stpC_len h32
  have ht := stpC_take h32
  obtain ⟨a, ha⟩ : ∃ a : Nat, s.num.toNat = a := ⟨_, rfl⟩
  have han : s.num = (a : Int) := by omega
  have hmk : mkS s n = decide (a / 2 ^ rk a = n / 2 ^ rk a) := by unfold mkS; rw [ha]
  have hr := rk_le a
  have s1 := ishr_nat .i64 a (rk a) (by simp [IntKind.bits]; omega)
  have s2 := ishr_nat .i64 n (rk a) (by simp [IntKind.bits]; omega)
  have hrk := Lrank_ok a (by omega)
  rw [hmk]
  obtain ⟨r, hre⟩ : ∃ r, rk a = r := ⟨_, rfl⟩
  rw [hre] at s1 s2 hrk ⊢
  obtain ⟨u, hu⟩ : ∃ u, a / 2 ^ r = u := ⟨_, rfl⟩
  obtain ⟨v, hv⟩ : ∃ v, n / 2 ^ r = v := ⟨_, rfl⟩
  rw [hu] at s1 ⊢
  rw [hv] at s2 ⊢
  have hd : decide ((u : Int) = (v : Int)) = decide (u = v) := decide_eq_decide.2 Int.ofNat_inj
  have n0 : ¬ ((r : Int) < 0) := by omega
  refine ecalls k_Lmk ?_
  simp [c_Lmk, NV, hl, ht, sp0, se0, han]
  refine call0 hrk (by simp [NV]) ?_
  rintro y H' ⟨rfl, rfl⟩
  refine ⟨.inl (by simp [NV]), le_ok rfl, ?_⟩
  simp [NV, hl, ht, sp0, se0, han, n0, s1, s2]
  exact fin [] (by decide) rfl rfl rfl ⟨rfl, by rw [hd]⟩

theorem Lof_ok (s : Stp) (n : Nat) (hs : s.ok) (hn : n < 9223372036854775808) : ECalls Tryd.prog 31 [.v (.agg (stpC s)), NV n] [] fun y H' => H' = [] ∧ y = HV (ofS s n) := by
  obtain ⟨lo, hi, h32⟩ := id hs
  have hl := stpC_len h32
  have ht := stpC_take h32
  have hcn : hc [] = [] := rfl
  obtain ⟨a, ha⟩ : ∃ a : Nat, s.num.toNat = a := ⟨_, rfl⟩
  have han : s.num = (a : Int) := by omega
  have hr := rk_le a
  have hrk := Lrank_ok a (by omega)
  have hcl := Lclimb_ok s.sec n (rk a) h32 hr hn
  have hof : ofS s n = clS n (rk a) s.sec := by unfold ofS; rw [ha]
  have h2 := clS_len n (rk a) s.sec h32
  rw [hof]
  obtain ⟨A, hA⟩ : ∃ A, clS n (rk a) s.sec = A := ⟨_, rfl⟩
  rw [hA] at hcl h2 ⊢
  have tA : List.take 32 A = A := List.take_of_length_le (by omega)
  have ts := st32 h32
  refine ecalls k_Lof ?_
  simp [c_Lof, NV, HV, hl, ht, h32, sp0, se0, han, sd1, sd1', ts]
  refine call0 hrk (by simp [NV]) ?_
  rintro y H' ⟨rfl, rfl⟩
  refine ⟨.inl (by simp [NV]), le_ok rfl, ?_⟩
  simp [NV, HV, hl, ht, sp0, se0, han, sd1, sd1', ts]
  refine call0 hcl (by simp [NV, HV]) ?_
  rintro y H' ⟨rfl, rfl⟩
  refine ⟨.inl (by simp [NV, HV]), le_ok rfl, ?_⟩
  simp [HV, h2, tA, hcn]
  exact fin [] (by decide) (v := .v (.agg (hc A))) (by simp [resV, resT, evT, asT, fzEO, tA, h2]) (by simp [conR, conTs, conT, tA, h2]) rfl ⟨rfl, rfl⟩

end Go.Proofs.YtdeeophiffchjaaDoor

namespace Go.Proofs.YtdeeophiffchjaaDoor
open Go Go.EW
set_option linter.unusedSimpArgs false
set_option linter.unusedVariables false

@[simp] def l_Lagr_1 (_ : Unit) : List EOp := [⟨0, (some 2), none, (.q (.box 54 (.t 0))), []⟩, ⟨1, (some 4), none, (.q (.mov (.k (.bool false)))), []⟩]
@[simp] def b_Lagr_2 (_ : Unit) : EB := reg0 (hid l_Lagr_1) 2
@[simp] def l_Lagr_3 (_ : Unit) : List EOp := [⟨0, (some 5), none, (.q (.mov (.t 1))), []⟩, ⟨1, (some 6), none, (.q (.mkf 42 [(.t 2)])), []⟩, ⟨2, (some 7), none, (.call 41 [(.t 5), (.t 6)]), []⟩, ⟨3, (some 8), none, (.q (.un .not (.t 7))), []⟩, ⟨4, (some 4), none, (.q (.mov (.t 8))), []⟩]
@[simp] def b_Lagr_4 (_ : Unit) : EB := reg0 (hid l_Lagr_3) 5
@[simp] def b_Lagr_5 (_ : Unit) : EB := .seq (hid b_Lagr_4) .ret
@[simp] def b_Lagr_6 (_ : Unit) : EB := .seq (hid b_Lagr_2) (hid b_Lagr_5)
def c_Lagr : EB × List QOp × Nat := ((hid b_Lagr_6), [(.mov (.t 4))], 9)
theorem k_Lagr : cfun Tryd.prog 27 = some c_Lagr := by kernel_rfl

@[simp] def l_Lagr1_1 (_ : Unit) : List EOp := [⟨0, (some 2), none, (.q (.box 54 (.t 0))), []⟩, ⟨1, (some 3), none, (.q (.mov (.k (.bool false)))), []⟩]
@[simp] def b_Lagr1_2 (_ : Unit) : EB := reg0 (hid l_Lagr1_1) 2
@[simp] def l_Lagr1_5 (_ : Unit) : List EOp := [⟨12, (some 16), none, (.q (.pick (.t 8) (.t 15) (.k (.bool false)))), []⟩, ⟨13, (some 3), none, (.q (.mov (.t 16))), []⟩]
@[simp] def l_Lagr1_4 (_ : Unit) : List EOp := ⟨6, (some 10), (some (8, true)), (.q (.fad 0 (.t 2))), []⟩ :: ⟨7, (some 11), (some (8, true)), (.q (.ldc (.t 10))), []⟩ :: ⟨9, (some 13), (some (8, true)), (.q (.fad 1 (.t 2))), []⟩ :: ⟨10, (some 14), (some (8, true)), (.q (.lda 32 (.t 13))), []⟩ :: ⟨8, (some 12), (some (8, true)), (.call 31 [(.t 9), (.t 11)]), [9, 10]⟩ :: ⟨11, (some 15), (some (8, true)), (.q (.eqa true 32 .u8 (.t 12) (.t 14))), []⟩ :: hid l_Lagr1_5
@[simp] def l_Lagr1_3 (_ : Unit) : List EOp := ⟨0, (some 4), none, (.q (.lda 33 (.t 1))), []⟩ :: ⟨1, (some 5), none, (.q (.fad 0 (.t 2))), []⟩ :: ⟨2, (some 6), none, (.q (.ldc (.t 5))), []⟩ :: ⟨3, (some 7), none, (.call 30 [(.t 4), (.t 6)]), []⟩ :: ⟨4, (some 8), none, (.q (.mov (.t 7))), []⟩ :: ⟨5, (some 9), (some (8, true)), (.q (.lda 33 (.t 1))), []⟩ :: hid l_Lagr1_4
@[simp] def b_Lagr1_6 (_ : Unit) : EB := reg1 (hid l_Lagr1_3) 14
@[simp] def b_Lagr1_7 (_ : Unit) : EB := .seq (hid b_Lagr1_6) .ret
@[simp] def b_Lagr1_8 (_ : Unit) : EB := .seq (hid b_Lagr1_2) (hid b_Lagr1_7)
def c_Lagr1 : EB × List QOp × Nat := ((hid b_Lagr1_8), [(.mov (.t 3))], 17)
theorem k_Lagr1 : cfun Tryd.prog 42 = some c_Lagr1 := by kernel_rfl

@[simp] def l_IdxS_1 (_ : Unit) : List EOp := [⟨0, (some 4), none, (.q (.mov (.k (.int .i64 0)))), []⟩]
@[simp] def b_IdxS_2 (_ : Unit) : EB := reg0 (hid l_IdxS_1) 1
@[simp] def l_IdxS_3 (_ : Unit) : List EOp := [⟨0, (some 6), none, (.q (.mov (.t 0))), []⟩, ⟨1, (some 7), none, (.q (.len (.t 6))), []⟩, ⟨2, (some 8), none, (.q (.mov (.k (.int .i64 0)))), []⟩]
@[simp] def b_IdxS_4 (_ : Unit) : EB := reg0 (hid l_IdxS_3) 3
@[simp] def l_IdxS_5 (_ : Unit) : List EOp := [⟨0, (some 9), none, (.q (.bin .lss (.t 8) (.t 7))), []⟩]
@[simp] def b_IdxS_6 (_ : Unit) : EB := reg0 (hid l_IdxS_5) 1
@[simp] def b_IdxS_7 (_ : Unit) : EB := .cond (.t 9) .skip (.exit 0)
@[simp] def l_IdxS_8 (_ : Unit) : List EOp := [⟨0, (some 10), none, (.q (.mov (.t 8))), []⟩, ⟨1, (some 5), none, (.q (.mov (.t 10))), []⟩]
@[simp] def b_IdxS_9 (_ : Unit) : EB := reg0 (hid l_IdxS_8) 2
@[simp] def l_IdxS_10 (_ : Unit) : List EOp := [⟨0, (some 11), none, (.q (.mov (.t 1))), []⟩, ⟨1, (some 12), none, (.q (.mov (.t 0))), []⟩, ⟨2, (some 13), none, (.q (.mov (.t 5))), []⟩, ⟨3, (some 14), none, (.q (.isl 33 (.t 12) (.t 13))), []⟩, ⟨4, (some 15), none, (.q (.lda 33 (.t 14))), []⟩, ⟨5, (some 16), none, (.clo (.t 11) [(.t 15)]), []⟩]
@[simp] def b_IdxS_11 (_ : Unit) : EB := reg0 (hid l_IdxS_10) 6
@[simp] def l_IdxS_12 (_ : Unit) : List EOp := [⟨0, (some 17), none, (.q (.mov (.t 5))), []⟩, ⟨1, (some 4), none, (.q (.mov (.t 17))), []⟩]
@[simp] def b_IdxS_13 (_ : Unit) : EB := reg0 (hid l_IdxS_12) 2
@[simp] def b_IdxS_14 (_ : Unit) : EB := .seq (hid b_IdxS_13) .ret
@[simp] def b_IdxS_15 (_ : Unit) : EB := .cond (.t 16) (hid b_IdxS_14) .skip
@[simp] def b_IdxS_16 (_ : Unit) : EB := .seq (hid b_IdxS_11) (hid b_IdxS_15)
@[simp] def b_IdxS_17 (_ : Unit) : EB := .seq (hid b_IdxS_9) (hid b_IdxS_16)
@[simp] def b_IdxS_18 (_ : Unit) : EB := .block 1 (hid b_IdxS_17)
@[simp] def l_IdxS_19 (_ : Unit) : List EOp := [⟨0, (some 18), none, (.q (.bin .add (.t 8) (.k (.int .i64 1)))), []⟩, ⟨1, (some 8), none, (.q (.mov (.t 18))), []⟩]
@[simp] def b_IdxS_20 (_ : Unit) : EB := reg0 (hid l_IdxS_19) 2
@[simp] def b_IdxS_21 (_ : Unit) : EB := .seq (hid b_IdxS_18) (hid b_IdxS_20)
@[simp] def b_IdxS_22 (_ : Unit) : EB := .seq (hid b_IdxS_7) (hid b_IdxS_21)
@[simp] def b_IdxS_23 (_ : Unit) : EB := .seq (hid b_IdxS_6) (hid b_IdxS_22)
@[simp] def b_IdxS_24 (_ : Unit) : EB := .loop (hid b_IdxS_23)
@[simp] def b_IdxS_25 (_ : Unit) : EB := .block 0 (hid b_IdxS_24)
@[simp] def b_IdxS_26 (_ : Unit) : EB := .seq (hid b_IdxS_4) (hid b_IdxS_25)
@[simp] def l_IdxS_27 (_ : Unit) : List EOp := [⟨0, (some 4), none, (.q (.mov (.k (.int .i64 (-1))))), []⟩]
@[simp] def b_IdxS_28 (_ : Unit) : EB := reg0 (hid l_IdxS_27) 1
@[simp] def b_IdxS_29 (_ : Unit) : EB := .seq (hid b_IdxS_28) .ret
@[simp] def b_IdxS_30 (_ : Unit) : EB := .seq (hid b_IdxS_26) (hid b_IdxS_29)
@[simp] def b_IdxS_31 (_ : Unit) : EB := .seq (hid b_IdxS_2) (hid b_IdxS_30)
def c_IdxS : EB × List QOp × Nat := ((hid b_IdxS_31), [(.mov (.t 4))], 19)
theorem k_IdxS : cfun Tryd.prog 52 = some c_IdxS := by kernel_rfl

@[simp] def l_ConS_1 (_ : Unit) : List EOp := [⟨0, (some 4), none, (.q (.mov (.k (.bool false)))), []⟩]
@[simp] def b_ConS_2 (_ : Unit) : EB := reg0 (hid l_ConS_1) 1
@[simp] def l_ConS_3 (_ : Unit) : List EOp := [⟨0, (some 5), none, (.q (.mov (.t 0))), []⟩, ⟨1, (some 6), none, (.q (.mov (.t 1))), []⟩, ⟨2, (some 7), none, (.call 52 [(.t 5), (.t 6)]), []⟩, ⟨3, (some 8), none, (.q (.bin .geq (.t 7) (.k (.int .i64 0)))), []⟩, ⟨4, (some 4), none, (.q (.mov (.t 8))), []⟩]
@[simp] def b_ConS_4 (_ : Unit) : EB := reg0 (hid l_ConS_3) 5
@[simp] def b_ConS_5 (_ : Unit) : EB := .seq (hid b_ConS_4) .ret
@[simp] def b_ConS_6 (_ : Unit) : EB := .seq (hid b_ConS_2) (hid b_ConS_5)
def c_ConS : EB × List QOp × Nat := ((hid b_ConS_6), [(.mov (.t 4))], 9)
theorem k_ConS : cfun Tryd.prog 41 = some c_ConS := by kernel_rfl

@[simp] def l_RMk_1 (_ : Unit) : List EOp := [⟨0, (some 2), none, (.q (.box 55 (.t 0))), []⟩, ⟨1, (some 4), none, (.q (.alloc 35 zU8)), []⟩, ⟨2, (some 5), none, (.q (.mov (.k (.bool false)))), []⟩]
@[simp] def b_RMk_2 (_ : Unit) : EB := reg0 (hid l_RMk_1) 3
@[simp] def l_RMk_3 (_ : Unit) : List EOp := [⟨0, (some 7), none, (.q (.fad 0 (.t 2))), []⟩, ⟨1, (some 8), none, (.q (.ldc (.t 7))), []⟩, ⟨2, (some 9), none, (.call 29 [(.t 8)]), []⟩, ⟨3, (some 6), none, (.q (.mov (.t 9))), []⟩]
@[simp] def b_RMk_4 (_ : Unit) : EB := reg0 (hid l_RMk_3) 4
@[simp] def l_RMk_6 (_ : Unit) : List EOp := [⟨4, (some 14), none, (.q (.bin .quo (.t 11) (.t 13))), []⟩, ⟨7, (some 17), none, (.call 33 [(.t 16)]), [0, 1, 5, 4]⟩, ⟨8, (some 18), none, (.q (.bin .quo (.t 15) (.t 17))), []⟩, ⟨9, (some 19), none, (.q (.bin .neq (.t 14) (.t 18))), []⟩]
@[simp] def l_RMk_5 (_ : Unit) : List EOp := ⟨0, (some 10), none, (.q (.fad 0 (.t 2))), []⟩ :: ⟨1, (some 11), none, (.q (.ldc (.t 10))), []⟩ :: ⟨2, (some 12), none, (.q (.mov (.t 6))), []⟩ :: ⟨5, (some 15), none, (.q (.mov (.t 1))), []⟩ :: ⟨6, (some 16), none, (.q (.mov (.t 6))), []⟩ :: ⟨3, (some 13), none, (.call 33 [(.t 12)]), [0, 1, 5, 6]⟩ :: hid l_RMk_6
@[simp] def b_RMk_7 (_ : Unit) : EB := reg1 (hid l_RMk_5) 10
@[simp] def l_RMk_8 (_ : Unit) : List EOp := [⟨0, (some 20), none, (.q (.build zU8 [])), []⟩, ⟨1, none, none, (.sto 32 (.t 4) (.t 20)), []⟩, ⟨2, (some 5), none, (.q (.mov (.k (.bool false)))), []⟩]
@[simp] def b_RMk_9 (_ : Unit) : EB := reg0 (hid l_RMk_8) 3
@[simp] def b_RMk_10 (_ : Unit) : EB := .seq (hid b_RMk_9) .ret
@[simp] def b_RMk_11 (_ : Unit) : EB := .cond (.t 19) (hid b_RMk_10) .skip
@[simp] def b_RMk_12 (_ : Unit) : EB := .seq (hid b_RMk_7) (hid b_RMk_11)
@[simp] def l_RMk_14 (_ : Unit) : List EOp := [⟨6, (some 5), none, (.q (.mov (.k (.bool true)))), []⟩]
@[simp] def l_RMk_13 (_ : Unit) : List EOp := ⟨0, (some 21), none, (.q (.fad 1 (.t 2))), []⟩ :: ⟨1, (some 22), none, (.q (.lda 32 (.t 21))), []⟩ :: ⟨2, (some 23), none, (.q (.mov (.t 1))), []⟩ :: ⟨3, (some 24), none, (.q (.mov (.t 6))), []⟩ :: ⟨4, (some 25), none, (.call 24 [(.t 22), (.t 23), (.t 24)]), []⟩ :: ⟨5, none, none, (.sto 32 (.t 4) (.t 25)), []⟩ :: hid l_RMk_14
@[simp] def b_RMk_15 (_ : Unit) : EB := reg0 (hid l_RMk_13) 7
@[simp] def b_RMk_16 (_ : Unit) : EB := .seq (hid b_RMk_15) .ret
@[simp] def b_RMk_17 (_ : Unit) : EB := .seq (hid b_RMk_12) (hid b_RMk_16)
@[simp] def b_RMk_18 (_ : Unit) : EB := .seq (hid b_RMk_4) (hid b_RMk_17)
@[simp] def b_RMk_19 (_ : Unit) : EB := .seq (hid b_RMk_2) (hid b_RMk_18)
def c_RMk : EB × List QOp × Nat := ((hid b_RMk_19), [(.lda 32 (.t 4)), (.mov (.t 5))], 26)
theorem k_RMk : cfun Tryd.prog 22 = some c_RMk := by kernel_rfl


theorem hc_inj' {x y : List UInt8} (h : hc x = hc y) : x = y := by
  induction x generalizing y with
  | nil => cases y with
    | nil => rfl
    | cons b r => simp [hc, hf] at h
  | cons a s ih => cases y with
    | nil => simp [hc, hf] at h
    | cons b r =>
      have e1 : hc (a :: s) = .fz (.lit (.int .u8 (a.toNat : Int))) :: hc s := rfl
      have e2 : hc (b :: r) = .fz (.lit (.int .u8 (b.toNat : Int))) :: hc r := rfl
      rw [e1, e2] at h
      simp only [List.cons.injEq, EC.fz.injEq, FV.lit.injEq, Value.int.injEq, true_and] at h
      have hab : a = b := UInt8.toNat_inj.1 (by omega)
      rw [hab, ih h.2]
theorem nat_inj {x y : List UInt8} : (List.map (fun b : UInt8 => (b.toNat : Int)) x = List.map (fun b : UInt8 => (b.toNat : Int)) y) ↔ x = y := by
  refine ⟨fun h => hc_inj' ?_, fun h => by rw [h]⟩
  have e : ∀ l : List UInt8, hc l = (List.map (fun b : UInt8 => (b.toNat : Int)) l).map fun n => .fz (.lit (.int .u8 n)) := fun l => by simp [hc, hf]
  rw [e x, e y, h]
/-- A step in a box. -/
def BS (s : Stp) : EO := .box 54 (stpC s)

set_option maxHeartbeats 2000000 in
theorem Lagr1_ok (s x : Stp) (hs : s.ok) (hx : x.ok) : ECalls Tryd.prog 42 [.v (.agg (stpC x)), .v (.c (.ptr 0 0))] [BS s] fun y H' => H' = [some (BS s)] ∧ y = .lit (.bool (badS s x)) := by
  obtain ⟨xlo, xhi, x32⟩ := id hx
  obtain ⟨slo, shi, s32⟩ := id hs
  have hl := stpC_len s32
  have ht := stpC_take s32
  have xl := stpC_len x32
  have xt := stpC_take x32
  have ts := st32 s32
  have tx := st32 x32
  have hcn : hc [] = [] := rfl
  obtain ⟨b, hb⟩ : ∃ b : Nat, x.num.toNat = b := ⟨_, rfl⟩
  have hbn : x.num = (b : Int) := by omega
  have hmk := Lmk_ok s b hs (by omega)
  have hof := Lof_ok s b hs (by omega)
  have hbad : badS s x = (mkS s b && decide (ofS s b ≠ x.sec)) := by unfold badS; rw [hb]
  have hol : (ofS s b).length = 32 := by unfold ofS; exact clS_len _ _ _ s32
  rw [hbad]
  obtain ⟨m, hm⟩ : ∃ m, mkS s b = m := ⟨_, rfl⟩
  obtain ⟨O, hO⟩ : ∃ O, ofS s b = O := ⟨_, rfl⟩
  rw [hm] at hmk ⊢
  rw [hO] at hof hol ⊢
  have hq := nat_inj (x := O) (y := x.sec)
  refine ecalls k_Lagr1 ?_
  simp [c_Lagr1, BS, NV, HV, hl, ht, xl, xt, se0, hbn]
  refine call0 hmk (by simp [NV]) ?_
  rintro y H' ⟨rfl, rfl⟩
  refine ⟨.inl (by simp), le_ok rfl, ?_⟩
  cases m with
  | false =>
    simp
    exact fin [] (by decide) rfl rfl (by simp [objsOut, show List.range 1 = [0] from rfl]) ⟨rfl, rfl⟩
  | true =>
    simp [BS, NV, HV, hl, ht, xl, xt, se0, hbn, sd1, sd1', ts, tx]
    refine ⟨by omega, ?_⟩
    refine call0 hof (by simp [NV]) ?_
    rintro y H' ⟨rfl, rfl⟩
    refine ⟨.inl (by simp [HV]), le_ok rfl, ?_⟩
    simp [HV, hol, x32, hq, hcn]
    exact fin [] (by decide) rfl rfl (by simp [objsOut, show List.range 1 = [0] from rfl]) ⟨rfl, rfl⟩
theorem Lagr1_body : bodyOK Tryd.prog 42 = true := by kernel_rfl

set_option maxHeartbeats 2000000 in
theorem IdxS_ok (s : Stp) (l : List Stp) (hs : s.ok) (hl : ∀ x ∈ l, x.ok) (hn : l.length ≤ 100000000) : ECalls Tryd.prog 52 [SLv l, .v (.c (.clo 42 [(0, 0)]))] [BS s] fun y H' => H' = [some (BS s)] ∧ ((l.any (badS s) = false ∧ y = NV (-1)) ∨ ∃ i : Nat, l.any (badS s) = true ∧ y = NV i) := by
  obtain ⟨B, hB⟩ : ∃ B, l.any (badS s) = B := ⟨_, rfl⟩
  rw [hB]
  refine ecalls k_IdxS ?_
  simp [c_IdxS, SLv, NV]
  refine eloop (α := Nat) (fun i => i ≤ l.length ∧ ∀ (k : Nat) (x : Stp), k < i → l[k]? = some x → badS s x = false) (fun i => l.length - i)
    (fun i => [SLv l, .v (.c (.clo 42 [(0, 0)])), .any, .any, .any, .any, .any, NV l.length, NV i, .any, .any, .any, .any, .any, .any, .any, .any, .any, .any]) (fun _ => [some (BS s)]) 0 [0]
    ⟨Nat.zero_le _, fun k x h => by omega⟩ (by simp [NV, SLv]) (by simp [BS]) (by simp [BS]) (by simp) (by simp) ?_
  rintro i ⟨hi, hlo⟩
  simp [NV, SLv, BS]
  refine alt (fun hlt => ?_) (fun hlt => ?_)
  · have hln : i < l.length := by omega
    obtain ⟨p, hc⟩ : ∃ p, l[i]? = some p := ⟨l[i], by simp [hln]⟩
    have hge : (stpv l)[i]'(by simp [hln]) = stpF p := by
      have e := stpv_get hc
      rw [List.getElem?_eq_getElem (by simp [hln])] at e
      exact Option.some.inj e
    have w4 : IntKind.i64.wrap ((i : Int) + 1) = ((i + 1 : Nat) : Int) := wrap_i64 (by omega) (by omega)
    have hpo := hl p (List.mem_of_getElem? hc)
    have hfl := stpF_len hpo.sec
    have hpt := stpC_take hpo.sec
    have hpl := stpC_len hpo.sec
    simp [hln, hge, hfl, stpF_fz, hpt, hpl]
    refine ⟨Lagr1_body, ?_⟩
    refine callH [0] (Lagr1_ok s p hs hpo) (by simp) (by simp [BS]) (by simp) (by simp) (by simp) ?_
    rintro y H' ⟨rfl, rfl⟩
    refine ⟨.inl (by simp [-List.flatMap_eq_nil_iff]), by simp, ?_⟩
    simp [BS]
    refine alt (fun he => ?_) (fun he => ?_)
    · simp
      exact fin [] (by decide) rfl rfl (by simp [objsOut, show List.range 1 = [0] from rfl]) ⟨rfl, .inr ⟨by rw [← hB]; exact List.any_eq_true.2 ⟨p, List.mem_of_getElem? hc, he⟩, i, rfl⟩⟩
    · simp [w4, -Int.natCast_add]
      refine round (i + 1) [0] ⟨by omega, ?_⟩ (by omega) (by simp [NV, SLv]) (by simp [BS]) (by simp [BS]) (by simp) (by simp)
      intro k q hk hq
      rcases Nat.lt_or_ge k i with h1 | h1
      · exact hlo k q h1 hq
      · obtain rfl : k = i := by omega
        rw [hc] at hq
        obtain rfl := Option.some.inj hq
        simpa using he
  · simp
    refine fin [] (by decide) rfl rfl (by simp [objsOut, show List.range 1 = [0] from rfl]) ⟨rfl, .inl ⟨?_, rfl⟩⟩
    rw [← hB, List.any_eq_false]
    intro x hx
    obtain ⟨k, hk⟩ := List.getElem?_of_mem hx
    have := hlo k x (by have := lt_len hk; omega) hk
    simp [this]
theorem ConS_ok (s : Stp) (l : List Stp) (hs : s.ok) (hl : ∀ x ∈ l, x.ok) (hn : l.length ≤ 100000000) : ECalls Tryd.prog 41 [SLv l, .v (.c (.clo 42 [(0, 0)]))] [BS s] fun y H' => H' = [some (BS s)] ∧ y = .lit (.bool (l.any (badS s))) := by
  refine ecalls k_ConS ?_
  simp [c_ConS, SLv, BS]
  refine callH [0] (IdxS_ok s l hs hl hn) (by simp [SLv]) (by simp [BS]) (by simp) (by simp) (by simp) ?_
  rintro y H' ⟨rfl, h⟩
  rcases h with ⟨h, rfl⟩ | ⟨i, h, rfl⟩
  · refine ⟨.inl (by simp [NV]), by simp, ?_⟩
    rw [h]
    simp [NV, BS]
    exact fin [] (by decide) rfl rfl (by simp [objsOut, show List.range 1 = [0] from rfl]) ⟨rfl, rfl⟩
  · refine ⟨.inl (by simp [NV]), by simp, ?_⟩
    have n0 : (0 : Int) ≤ (i : Int) := by omega
    rw [h]
    simp [NV, BS, n0]
    exact fin [] (by decide) rfl rfl (by simp [objsOut, show List.range 1 = [0] from rfl]) ⟨rfl, rfl⟩
theorem Lagr_ok (s : Stp) (l : List Stp) (hs : s.ok) (hl : ∀ x ∈ l, x.ok) (hn : l.length ≤ 100000000) : ECalls Tryd.prog 27 [.v (.agg (stpC s)), SLv l] [] fun y H' => H' = [] ∧ y = .lit (.bool (agrS s l)) := by
  have h1 := stpC_len hs.sec
  have h2 := stpC_take hs.sec
  refine ecalls k_Lagr ?_
  simp [c_Lagr, SLv, h1, h2]
  refine callH [0] (ConS_ok s l hs hl hn) (by simp [SLv]) (by simp [BS]) (by simp) (by simp) (by simp) ?_
  rintro y H' ⟨rfl, rfl⟩
  refine ⟨.inl (by simp), by simp, ?_⟩
  simp
  exact fin [] (by decide) rfl rfl rfl ⟨rfl, rfl⟩

set_option maxHeartbeats 2000000 in
theorem RMk_ok (s : Stp) (n : Nat) (hs : s.ok) (hn : n < 9223372036854775808) : ECalls Tryd.prog 22 [.v (.agg (stpC s)), NV n] [] fun y H' => H' = [] ∧ y = .tup [.agg (hc (if mkS s n = true then ofS s n else hz)), .c (.fz (.lit (.bool (mkS s n))))] := by
  obtain ⟨lo, hi, h32⟩ := id hs
  have hl := stpC_len h32
  have ht := stpC_take h32
  have hcn : hc [] = [] := rfl
  have ts := st32 h32
  obtain ⟨a, ha⟩ : ∃ a : Nat, s.num.toNat = a := ⟨_, rfl⟩
  have han : s.num = (a : Int) := by omega
  have hr := rk_le a
  have hrk := RRank_ok a (by omega)
  have hcl := Rclimb_ok s.sec n (rk a) h32 hr hn
  have hof : ofS s n = clS n (rk a) s.sec := by unfold ofS; rw [ha]
  have h2 := clS_len n (rk a) s.sec h32
  have hmk : mkS s n = decide (a / pw (rk a) = n / pw (rk a)) := by unfold mkS; rw [ha]; rfl
  have hpw := Rpow_ok (rk a) (by omega)
  rw [hof, hmk]
  obtain ⟨A, hA⟩ : ∃ A, clS n (rk a) s.sec = A := ⟨_, rfl⟩
  rw [hA] at hcl h2 ⊢
  have tA : List.take 32 A = A := List.take_of_length_le (by omega)
  obtain ⟨r, hre⟩ : ∃ r, rk a = r := ⟨_, rfl⟩
  rw [hre] at hrk hcl hpw ⊢
  have hp0 : ¬ pw r = 0 := by have := pow_pos' r; unfold pw; omega
  obtain ⟨P, hP⟩ : ∃ P, pw r = P := ⟨_, rfl⟩
  rw [hP] at hpw hp0 ⊢
  have d1 : (a : Int).tdiv (P : Int) = ((a / P : Nat) : Int) := rfl
  have d2 : (n : Int).tdiv (P : Int) = ((n / P : Nat) : Int) := rfl
  have l1 : a / P ≤ a := Nat.div_le_self _ _
  have l2 : n / P ≤ n := Nat.div_le_self _ _
  obtain ⟨u, hu⟩ : ∃ u, a / P = u := ⟨_, rfl⟩
  obtain ⟨v, hv⟩ : ∃ v, n / P = v := ⟨_, rfl⟩
  rw [hu] at d1 l1 ⊢
  rw [hv] at d2 l2 ⊢
  have w1 : IntKind.i64.wrap (u : Int) = (u : Int) := wrap_i64 (by omega) (by omega)
  have w2 : IntKind.i64.wrap (v : Int) = (v : Int) := wrap_i64 (by omega) (by omega)
  refine ecalls k_RMk ?_
  simp [c_RMk, NV, HV, hl, ht, se0, han]
  refine call0 hrk (by simp [NV]) ?_
  rintro y H' ⟨rfl, rfl⟩
  refine ⟨.inl (by simp [NV]), le_ok rfl, ?_⟩
  simp [NV, hl, ht, se0, han]
  refine call0 hpw (by simp [NV]) ?_
  rintro y H' ⟨rfl, rfl⟩
  refine ⟨.inl (by simp [NV]), le_ok rfl, ?_⟩
  simp [NV, hl, ht, se0, han, hp0, d1, w1]
  refine call0 hpw (by simp [NV]) ?_
  rintro y H' ⟨rfl, rfl⟩
  refine ⟨.inl (by simp [NV]), le_ok rfl, ?_⟩
  by_cases he : u = v
  · subst he
    simp [NV, hl, ht, se0, han, hp0, d1, d2, w1, sd1, sd1', ts, h32]
    refine call0 hcl (by simp [NV, HV]) ?_
    rintro y H' ⟨rfl, rfl⟩
    refine ⟨.inl (by simp [HV]), le_ok rfl, ?_⟩
    simp [HV, h2, tA, hcn]
    exact fin [] (by decide) (v := .tup [.agg (hc A), .c (.fz (.lit (.bool true)))]) (by simp [resV, resT, evT, asT, fzEO, tA, h2]) (by simp [conR, conTs, conT, tA, h2]) rfl ⟨rfl, rfl⟩
  · have he' : ¬ (u : Int) = (v : Int) := by omega
    simp [NV, hl, ht, se0, han, hp0, d1, d2, w1, w2, he, he']
    exact fin [] (by decide) rfl rfl rfl ⟨rfl, rfl⟩

end Go.Proofs.YtdeeophiffchjaaDoor
