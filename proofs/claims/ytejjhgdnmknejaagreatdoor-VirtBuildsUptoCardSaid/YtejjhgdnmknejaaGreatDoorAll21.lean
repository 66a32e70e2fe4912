import Derived.Test.YtejjhgdnmknejaaGreatDoorAll20
import Derived.Test.YtejjhgdnmknejaaGreatDoorAll8
import Derived.Test.YtejjhgdnmknejaaGreatDoorAll11
set_option maxHeartbeats 64000000
namespace Go.Proofs.YtejjhgdnmknejaaGreatDoor
open Go Go.EW
set_option linter.unusedSimpArgs false
set_option linter.unusedVariables false
def SO (r : Nat) (h : List UInt32) (n tt nn : Nat) : EO := .box 259 (wl h ++ [.row r n, .fz (.lit (.int .u64 tt)), .fz (.lit (.int .i64 nn))])
def RB (w : List UInt8) : EO := .row 5 1 (bsv w)
def hSB (h : List UInt32) (tt nn : Nat) : Option EO := some (SO 1 h 64 tt nn)
theorem wl_putR {v : List UInt32} {i : Nat} {x : UInt32} {r : List EC} (h : i < v.length) : List.take i (wl v ++ r) ++ .fz (.lit (.int .u32 (wi x))) :: List.drop (i + 1) (wl v ++ r) = wl (v.set i x) ++ r := by
 rw [List.take_append_of_le_length (by simp; omega), List.drop_append_of_le_length (by simp; omega), ← wl_put h]
 simp
theorem wl_gER {v : List UInt32} {i : Nat} {r : List EC} (h : i < v.length) (h2 : i < (wl v ++ r).length) : (wl v ++ r)[i]'h2 = .fz (.lit (.int .u32 (wi (g v i)))) := by
 rw [List.getElem_append_left (by simpa using h), wl_gE h]
theorem wl_gR {v : List UInt32} {i : Nat} {r : List EC} (h : i < v.length) : (wl v ++ r)[i]? = some (.fz (.lit (.int .u32 (wi (g v i))))) := by
 rw [List.getElem?_append_left (by simpa using h), wl_g h]
@[simp] theorem strAll_wlR (ids : List Nat) (l : List UInt32) (r : List EC) : strAll ids (wl l ++ r) = (strAll ids r).map (wl l ++ ·) := by
 induction l with
 | nil => simp [wl]
 | cons b t ih =>
  have e : wl (b :: t) ++ r = .fz (.lit (.int .u32 (wi b))) :: (wl t ++ r) := rfl
  rw [e]
  simp only [strAll, ih]
  cases strAll ids r <;> rfl
theorem wl_t8 {v : List UInt32} {r : List EC} (h : v.length = 8) : List.take 8 (wl v ++ r) = wl v := List.take_left' (by simpa using h)
def tb0 (t : Nat) (last : Bool) (i : Nat) (e : EV) : List EV := [.v (.c (.ptr 0 0)), xA, .lit (.int .u64 t), .lit (.bool last), xA, .v (.c (.ptr 2 0)), xA, xA, .v (.c (.ptr 3 0)), .v (.c (.ptr 4 0)), xA, xA, xA, xA, xA, xA, xA, NV i, e, xA, xA, xA, xA, xA, xA, xA, xA, xA, xA, xA, xA, xA, xA, xA, xA, xA, xA, xA, xA, xA, xA, xA, xA, xA, xA, xA, xA, xA, xA, xA, xA, xA, xA, xA, xA, xA, xA, xA, xA, xA, xA, xA, xA, xA, xA, xA, xA, xA, xA, xA, xA, xA, xA, xA, xA, xA, xA, xA, xA, xA, xA, xA, xA, xA, xA, xA, xA, xA, xA, xA, xA, xA, xA, xA, xA, xA, xA, xA, xA, xA, xA, xA, xA, xA, xA, xA, xA, xA, xA, xA, xA, xA, xA, xA, xA, xA, xA, xA, xA, xA, xA, xA, xA, xA, xA, xA, xA, xA, xA, xA, xA, xA, xA, xA, xA, xA, xA, xA, xA, xA, xA, xA, xA, xA, xA, xA, xA, xA, xA, xA, xA, xA, xA, xA, xA, xA, xA, xA, xA, xA, xA, xA, .any]
def hb0 (tt nn : Nat) (w : List UInt8) (h : List UInt32) (b : List UInt8) (i : Nat) : List (Option EO) := [hSB h tt nn, some (RB w), some (.box 307 (hc b)), wB (mI b i), wB Z16]
@[simp] theorem hb0_len (tt nn : Nat) (w : List UInt8) (h : List UInt32) (b : List UInt8) (i : Nat) : (hb0 tt nn w h b i).length = 5 := rfl
set_option maxRecDepth 8000 in
theorem takeB_words (tt nn : Nat) (w : List UInt8) (h : List UInt32) (b : List UInt8) (t : Nat) (last : Bool) (hb : b.length = 64) (Q : Exit → St → Go.EW.Tok → Prop) (hQ : ∀ n, Q (.exit 0) ⟨tb0 t last 16 (.lit (.bool false)), ofO (hb0 tt nn w h b 16), n⟩ .on) :
  LoopT Tryz.prog 2 (hid b_btake_25) Q ⟨tb0 t last 0 .any, ofO (hb0 tt nn w h b 0), 5⟩ := by
 refine eloop (α := Nat) (fun i => i ≤ 16) (fun i => 16 - i) (fun i => tb0 t last i .any) (fun i => hb0 tt nn w h b i) 0 [0, 1, 2, 3, 4]
  (by omega) (by simp [tb0, NV]) (by simp [hb0, hSB, SO, RB, wB]) (by simp [hb0, hSB, SO, RB, wB]) (by decide) (by simp [hb0]) ?_
 intro i hi
 have hml : (mI b i).length = 16 := upW_len _ _
 by_cases hlt : i < 16
 ·have il : (i : Int) < 16 := by omega
  have xl : i ≤ 15 := by omega
  obtain ⟨k, hk⟩ : ∃ k, k = 4 * i := ⟨_, rfl⟩
  have w0 : IntKind.i64.wrap (4 * (i : Int)) = (k : Int) := by rw [wrap_i64 (by omega) (by omega)]; omega
  have w1 : IntKind.i64.wrap ((k : Int) + 1) = ((k + 1 : Nat) : Int) := wrap_i64 (by omega) (by omega)
  have w2 : IntKind.i64.wrap ((k : Int) + 2) = ((k + 2 : Nat) : Int) := wrap_i64 (by omega) (by omega)
  have w3 : IntKind.i64.wrap ((k : Int) + 3) = ((k + 3 : Nat) : Int) := wrap_i64 (by omega) (by omega)
  have wi1 := wS (i := i) (by omega)
  have k0 : k < 64 := by omega
  have k1 : k + 1 < 64 := by omega
  have k2 : k + 2 < 64 := by omega
  have k3 : k + 3 < 64 := by omega
  have j0 : (k : Int) < 64 := by omega
  have j1 : ((k + 1 : Nat) : Int) < 64 := by omega
  have j2 : ((k + 2 : Nat) : Int) < 64 := by omega
  have j3 : ((k + 3 : Nat) : Int) < 64 := by omega
  have s8 : ∀ x, ishl .u32 (wi x) 8 = wi (shl x 8) := fun x => wi_shl x 8 (by omega)
  have s16 : ∀ x, ishl .u32 (wi x) 16 = wi (shl x 16) := fun x => wi_shl x 16 (by omega)
  have s24 : ∀ x, ishl .u32 (wi x) 24 = wi (shl x 24) := fun x => wi_shl x 24 (by omega)
  have hw : ((bw (g8 b k) ||| shl (bw (g8 b (k + 1))) 8) ||| shl (bw (g8 b (k + 2))) 16) ||| shl (bw (g8 b (k + 3))) 24 = wordS b i := by rw [hk]; rfl
  simp [tb0, hb0, wB, hSB, SO, RB, NV, il, xl, w0, w1, w2, w3, wi1, hb, k0, k1, k2, k3, j0, j1, j2, j3, s8, s16, s24, hc_gE, hc_d0, wi_bw, wi_or, hw, hml, hlt, wl_put, wl_putR, wl_gER, wl_gR, mI_set, -Int.natCast_add]
  exact round (i + 1) [0, 1, 2, 3, 4] (by omega) (by omega) (by simp [tb0, NV]) (by simp [hb0, hSB, SO, RB, wB]) (by simp [hb0, hSB, SO, RB, wB]) (by decide) (by simp [hb0])
 ·have hi16 : i = 16 := by omega
  subst hi16
  simp [tb0, hb0, NV]
  exact hQ _
def tb4 (r i : Nat) (e : EV) : List EV := [.v (.c (.ptr 0 0)), xA, xA, xA, xA, xA, xA, xA, .v (.c (.ptr 2 0)), .v (.c (.ptr 3 0)), xA, xA, xA, .v (.c (.ptr 4 0)), xA, xA, xA, xA, xA, xA, xA, xA, xA, xA, xA, xA, xA, xA, xA, xA, xA, xA, xA, xA, xA, xA, xA, xA, xA, xA, xA, xA, xA, xA, xA, xA, xA, xA, xA, xA, xA, xA, xA, xA, xA, xA, xA, xA, xA, xA, xA, xA, xA, xA, xA, xA, xA, xA, xA, xA, xA, xA, xA, xA, xA, xA, xA, xA, xA, NV r, xA, xA, xA, xA, xA, NV i, e, xA, xA, xA, xA, xA, xA, xA, xA, xA, xA, xA, xA, xA, xA, xA, xA, xA, xA, xA, xA, xA, xA, xA, xA, xA, xA, xA, xA, xA, xA, xA, xA, xA, xA, xA, xA, xA, xA, xA, xA, xA, xA, xA, xA, xA, xA, xA, xA, xA, xA, xA, xA, xA, xA, xA, xA, xA, xA, xA, xA, xA, xA, xA, xA, xA, xA, xA, xA, xA, xA, xA, xA, xA, xA, xA, .any]
def hb4 (tt nn : Nat) (w : List UInt8) (h m v : List UInt32) (r : Nat) : List (Option EO) := [hSB h tt nn, some (RB w), wB m, wB v, some (.box 331 (hc (ocB r)))]
@[simp] theorem hb4_len (tt nn : Nat) (w : List UInt8) (h m v : List UInt32) (r : Nat) : (hb4 tt nn w h m v r).length = 5 := rfl
set_option maxRecDepth 8000 in
theorem takeB_cols (tt nn : Nat) (w : List UInt8) (h m V : List UInt32) (r : Nat) (hlr : r < 10) (hml : m.length = 16) (er : V.length = 16) (Q : Exit → St → Go.EW.Tok → Prop) (hQ : ∀ n, Q (.exit 4) ⟨tb4 r 4 (.lit (.bool false)), ofO (hb4 tt nn w h m (colsS m r V 4) r), n⟩ .on) :
  LoopT Tryz.prog 2 (hid b_btake_74) Q ⟨tb4 r 0 .any, ofO (hb4 tt nn w h m V r), 5⟩ := by
 refine eloop (α := Nat) (fun i => i ≤ 4) (fun i => 4 - i) (fun i => tb4 r i .any) (fun i => hb4 tt nn w h m (colsS m r V i) r) 0 [0, 1, 2, 3, 4]
  (by omega) (by simp [tb4, NV]) (by simp [hb4, hSB, SO, RB, wB, colsS]) (by simp [hb4, hSB, SO, RB, wB]) (by decide) (by simp [hb4]) ?_
 intro i hi
 have ei : (colsS m r V i).length = 16 := by rw [colsS_len]; exact er
 by_cases hli : i < 4
 ·have ii : (i : Int) < 4 := by omega
  have wi1 := wS (i := i) (by omega)
  have w4 : IntKind.i64.wrap (4 + (i : Int)) = ((4 + i : Nat) : Int) := by rw [wrap_i64 (by omega) (by omega)]; omega
  have w8 : IntKind.i64.wrap (8 + (i : Int)) = ((8 + i : Nat) : Int) := by rw [wrap_i64 (by omega) (by omega)]; omega
  have w12 : IntKind.i64.wrap (12 + (i : Int)) = ((12 + i : Nat) : Int) := by rw [wrap_i64 (by omega) (by omega)]; omega
  have wa : IntKind.i64.wrap (2 * (i : Int)) = ((2 * i : Nat) : Int) := by rw [wrap_i64 (by omega) (by omega)]; omega
  have wb : IntKind.i64.wrap (((2 * i : Nat) : Int) + 1) = ((2 * i + 1 : Nat) : Int) := wrap_i64 (by omega) (by omega)
  have xa : ((2 * i : Nat) : Int) < 16 := by omega
  have xb : ((2 * i + 1 : Nat) : Int) < 16 := by omega
  have ol := ocB_len r
  have oa := ocB_get hlr (show 2 * i < 16 by omega)
  have ob := ocB_get hlr (show 2 * i + 1 < 16 by omega)
  have la : 2 * i < 16 := by omega
  have lb : 2 * i + 1 < 16 := by omega
  have sa := sN_lt r hlr (2 * i) (by omega)
  have sb := sN_lt r hlr (2 * i + 1) (by omega)
  have ta : (sN r (2 * i) : Int) < 16 := by omega
  have tb : (sN r (2 * i + 1) : Int) < 16 := by omega
  simp [tb4, hb4, wB, hSB, SO, RB, NV, ii, w4, w8, w12, wa, wb, xa, xb, ol, la, lb, hc_d0, hc_gE, oa, ob, sa, sb, ta, tb, hml, wl_gE, -Int.natCast_add, -Int.natCast_mul]
  refine callH [3] (mix_ok (colsS m r V i) i (4 + i) (8 + i) (12 + i) (g m (sN r (2 * i))) (g m (sN r (2 * i + 1))) ei (by omega) (by omega) (by omega) (by omega)) (by simp [NV, WV]) (by simp [VO]) (by simp) (by simp) (by simp) ?_
  rintro y H' ⟨rfl, rfl⟩
  refine ⟨.inl (by simp), by simp, ?_⟩
  simp [VO, wi1, -Int.natCast_add]
  exact round (i + 1) [0, 1, 2, 3, 4] (by omega) (by omega) (by simp [tb4, NV]) (by simp [hb4, hSB, SO, RB, wB, colsS, colS]) (by simp [hb4, hSB, SO, RB, wB]) (by decide) (by simp [hb4])
 ·have h4 : i = 4 := by omega
  subst h4
  simp [tb4, hb4, NV]
  exact hQ _
def tb6 (r i : Nat) (e : EV) : List EV := [.v (.c (.ptr 0 0)), xA, xA, xA, xA, xA, xA, xA, .v (.c (.ptr 2 0)), .v (.c (.ptr 3 0)), xA, xA, xA, .v (.c (.ptr 4 0)), xA, xA, xA, xA, xA, xA, xA, xA, xA, xA, xA, xA, xA, xA, xA, xA, xA, xA, xA, xA, xA, xA, xA, xA, xA, xA, xA, xA, xA, xA, xA, xA, xA, xA, xA, xA, xA, xA, xA, xA, xA, xA, xA, xA, xA, xA, xA, xA, xA, xA, xA, xA, xA, xA, xA, xA, xA, xA, xA, xA, xA, xA, xA, xA, xA, NV r, xA, xA, xA, xA, xA, xA, xA, xA, xA, xA, xA, xA, xA, xA, xA, xA, xA, xA, xA, xA, xA, xA, xA, xA, xA, xA, xA, xA, xA, xA, NV i, e, xA, xA, xA, xA, xA, xA, xA, xA, xA, xA, xA, xA, xA, xA, xA, xA, xA, xA, xA, xA, xA, xA, xA, xA, xA, xA, xA, xA, xA, xA, xA, xA, xA, xA, xA, xA, xA, xA, xA, xA, xA, xA, xA, xA, xA, xA, xA, xA, xA, xA, .any]
set_option maxRecDepth 8000 in
theorem takeB_dias (tt nn : Nat) (w : List UInt8) (h m W : List UInt32) (r : Nat) (hlr : r < 10) (hml : m.length = 16) (er : W.length = 16) (Q : Exit → St → Go.EW.Tok → Prop) (hQ : ∀ n, Q (.exit 6) ⟨tb6 r 4 (.lit (.bool false)), ofO (hb4 tt nn w h m (diasS m r W 4) r), n⟩ .on) :
  LoopT Tryz.prog 2 (hid b_btake_97) Q ⟨tb6 r 0 .any, ofO (hb4 tt nn w h m W r), 5⟩ := by
 refine eloop (α := Nat) (fun i => i ≤ 4) (fun i => 4 - i) (fun i => tb6 r i .any) (fun i => hb4 tt nn w h m (diasS m r W i) r) 0 [0, 1, 2, 3, 4]
  (by omega) (by simp [tb6, NV]) (by simp [hb4, hSB, SO, RB, wB, diasS]) (by simp [hb4, hSB, SO, RB, wB]) (by decide) (by simp [hb4]) ?_
 intro i hi
 have ei2 : (diasS m r W i).length = 16 := by rw [diasS_len]; exact er
 by_cases hli : i < 4
 ·have ii : (i : Int) < 4 := by omega
  have wi1 := wS (i := i) (by omega)
  have wi2 : IntKind.i64.wrap ((i : Int) + 2) = ((i + 2 : Nat) : Int) := wrap_i64 (by omega) (by omega)
  have wi3 : IntKind.i64.wrap ((i : Int) + 3) = ((i + 3 : Nat) : Int) := wrap_i64 (by omega) (by omega)
  obtain ⟨a1, ha1⟩ : ∃ a, (i + 1) % 4 = a := ⟨_, rfl⟩
  obtain ⟨a2, ha2⟩ : ∃ a, (i + 2) % 4 = a := ⟨_, rfl⟩
  obtain ⟨a3, ha3⟩ : ∃ a, (i + 3) % 4 = a := ⟨_, rfl⟩
  have m1 : ((i + 1 : Nat) : Int).tmod 4 = (a1 : Int) := by rw [← ha1]; rfl
  have m2 : ((i + 2 : Nat) : Int).tmod 4 = (a2 : Int) := by rw [← ha2]; rfl
  have m3 : ((i + 3 : Nat) : Int).tmod 4 = (a3 : Int) := by rw [← ha3]; rfl
  have w4 : IntKind.i64.wrap (4 + (a1 : Int)) = ((4 + a1 : Nat) : Int) := by rw [wrap_i64 (by omega) (by omega)]; omega
  have w8 : IntKind.i64.wrap (8 + (a2 : Int)) = ((8 + a2 : Nat) : Int) := by rw [wrap_i64 (by omega) (by omega)]; omega
  have w12 : IntKind.i64.wrap (12 + (a3 : Int)) = ((12 + a3 : Nat) : Int) := by rw [wrap_i64 (by omega) (by omega)]; omega
  have wc : IntKind.i64.wrap (2 * (i : Int)) = ((2 * i : Nat) : Int) := by rw [wrap_i64 (by omega) (by omega)]; omega
  have wa : IntKind.i64.wrap (8 + ((2 * i : Nat) : Int)) = ((8 + 2 * i : Nat) : Int) := by rw [wrap_i64 (by omega) (by omega)]; omega
  have wb : IntKind.i64.wrap (9 + ((2 * i : Nat) : Int)) = ((9 + 2 * i : Nat) : Int) := by rw [wrap_i64 (by omega) (by omega)]; omega
  have xa : ((8 + 2 * i : Nat) : Int) < 16 := by omega
  have xb : ((9 + 2 * i : Nat) : Int) < 16 := by omega
  have ol := ocB_len r
  have oa := ocB_get hlr (show 8 + 2 * i < 16 by omega)
  have ob := ocB_get hlr (show 9 + 2 * i < 16 by omega)
  have la : 8 + 2 * i < 16 := by omega
  have lb : 9 + 2 * i < 16 := by omega
  have sa := sN_lt r hlr (8 + 2 * i) (by omega)
  have sb := sN_lt r hlr (9 + 2 * i) (by omega)
  have ta : (sN r (8 + 2 * i) : Int) < 16 := by omega
  have tb : (sN r (9 + 2 * i) : Int) < 16 := by omega
  simp [tb6, hb4, wB, hSB, SO, RB, NV, ii, wi1, wi2, wi3, m1, m2, m3, w4, w8, w12, wc, wa, wb, xa, xb, ol, la, lb, hc_d0, hc_gE, oa, ob, sa, sb, ta, tb, hml, wl_gE, -Int.natCast_add, -Int.natCast_mul]
  refine callH [3] (mix_ok (diasS m r W i) i (4 + a1) (8 + a2) (12 + a3) (g m (sN r (8 + 2 * i))) (g m (sN r (9 + 2 * i))) ei2 (by omega) (by omega) (by omega) (by omega)) (by simp [NV, WV]) (by simp [VO]) (by simp) (by simp) (by simp) ?_
  rintro y H' ⟨rfl, rfl⟩
  refine ⟨.inl (by simp), by simp, ?_⟩
  simp [VO, wi1, -Int.natCast_add]
  exact round (i + 1) [0, 1, 2, 3, 4] (by omega) (by omega) (by simp [tb6, NV]) (by simp [hb4, hSB, SO, RB, wB, diasS, diaS, ha1, ha2, ha3]) (by simp [hb4, hSB, SO, RB, wB]) (by decide) (by simp [hb4])
 ·have h4 : i = 4 := by omega
  subst h4
  simp [tb6, hb4, NV]
  exact hQ _
def tb2 (r : Nat) (e : EV) : List EV := [.v (.c (.ptr 0 0)), xA, xA, xA, xA, xA, xA, xA, .v (.c (.ptr 2 0)), .v (.c (.ptr 3 0)), xA, xA, xA, xA, xA, xA, xA, xA, xA, xA, xA, xA, xA, xA, xA, xA, xA, xA, xA, xA, xA, xA, xA, xA, xA, xA, xA, xA, xA, xA, xA, xA, xA, xA, xA, xA, xA, xA, xA, xA, xA, xA, xA, xA, xA, xA, xA, xA, xA, xA, xA, xA, xA, xA, xA, xA, xA, xA, xA, xA, xA, xA, xA, xA, xA, xA, xA, xA, xA, NV r, e, xA, xA, xA, xA, xA, xA, xA, xA, xA, xA, xA, xA, xA, xA, xA, xA, xA, xA, xA, xA, xA, xA, xA, xA, xA, xA, xA, xA, xA, xA, xA, xA, xA, xA, xA, xA, xA, xA, xA, xA, xA, xA, xA, xA, xA, xA, xA, xA, xA, xA, xA, xA, xA, xA, xA, xA, xA, xA, xA, xA, xA, xA, xA, xA, xA, xA, xA, xA, xA, xA, xA, xA, xA, xA, xA, xA, xA, xA, xA, xA, xA, .any]
def hb2 (tt nn : Nat) (w : List UInt8) (h m v : List UInt32) : List (Option EO) := [hSB h tt nn, some (RB w), wB m, wB v]
@[simp] theorem hb2_len (tt nn : Nat) (w : List UInt8) (h m v : List UInt32) : (hb2 tt nn w h m v).length = 4 := rfl
set_option maxRecDepth 8000 in
theorem takeB_rnds (tt nn : Nat) (w : List UInt8) (h m v3 : List UInt32) (hml : m.length = 16) (e3 : v3.length = 16) (Q : Exit → St → Go.EW.Tok → Prop) (hQ : ∀ n, Q (.exit 2) ⟨tb2 10 (.lit (.bool false)), ofO (hb2 tt nn w h m (rndsS m v3 10)), n⟩ .on) :
  LoopT Tryz.prog 2 (hid b_btake_109) Q ⟨tb2 0 .any, ofO (hb2 tt nn w h m v3), 4⟩ := by
 refine eloop (α := Nat) (fun r => r ≤ 10) (fun r => 10 - r) (fun r => tb2 r .any) (fun r => hb2 tt nn w h m (rndsS m v3 r)) 0 [0, 1, 2, 3]
  (by omega) (by simp [tb2, NV]) (by simp [hb2, hSB, SO, RB, wB, rndsS]) (by simp [hb2, hSB, SO, RB, wB]) (by decide) (by simp [hb2]) ?_
 intro r hr
 have er : (rndsS m v3 r).length = 16 := by rw [rndsS_len]; exact e3
 by_cases hlr : r < 10
 ·have ir : (r : Int) < 10 := by omega
  have wr : IntKind.i64.wrap ((r : Int) + 1) = ((r + 1 : Nat) : Int) := wrap_i64 (by omega) (by omega)
  have lr : 16 ≤ 160 - r * 16 := by omega
  have hoc := oc_eq r hlr
  simp [tb2, hb2, wB, hSB, SO, RB, NV, hlr, ir, lr, hoc, ordN_len, ocB_len r]
  obtain ⟨V, hV⟩ : ∃ V, rndsS m v3 r = V := ⟨_, rfl⟩
  rw [hV] at er
  refine loopW _ (weak_norm [0, 1, 2, 3, 100] (tb4 r 0 .any) (hb4 tt nn w h m V r) (by simp [tb4, NV]) (by simp [hb4, hSB, SO, RB, wB, hV, hoc]) (by simp [hb4, hSB, SO, RB, wB]) (by decide) (by simp [hb4])) (takeB_cols tt nn w h m V r hlr hml er _ fun n => ?_)
  simp [tb4, hb4, NV]
  obtain ⟨W, hW⟩ : ∃ W, colsS m r V 4 = W := ⟨_, rfl⟩
  have ei : W.length = 16 := by rw [← hW, colsS_len]; exact er
  refine loopW _ (weak_norm [0, 1, 2, 3, 4] (tb6 r 0 .any) (hb4 tt nn w h m W r) (by simp [tb6, NV]) (by simp [hb4, hSB, SO, RB, wB, hW]) (by simp [hb4, hSB, SO, RB, wB]) (by decide) (by simp [hb4])) (takeB_dias tt nn w h m W r hlr hml ei _ fun n => ?_)
  simp [tb6, hb4, wB, hSB, SO, RB, NV, wr, -Int.natCast_add]
  exact round (r + 1) [0, 1, 2, 3] (by omega) (by omega) (by simp [tb2, NV]) (by simp [hb2, hSB, SO, RB, wB, rndsS, hV, hW]) (by simp [hb2, hSB, SO, RB, wB]) (by decide) (by simp [hb2])
 ·have h10 : r = 10 := by omega
  subst h10
  simp [tb2, hb2, NV]
  exact hQ _
def tb8 (i : Nat) (e : EV) : List EV := [.v (.c (.ptr 0 0)), xA, xA, xA, xA, xA, xA, xA, xA, .v (.c (.ptr 2 0)), xA, xA, xA, xA, xA, xA, xA, xA, xA, xA, xA, xA, xA, xA, xA, xA, xA, xA, xA, xA, xA, xA, xA, xA, xA, xA, xA, xA, xA, xA, xA, xA, xA, xA, xA, xA, xA, xA, xA, xA, xA, xA, xA, xA, xA, xA, xA, xA, xA, xA, xA, xA, xA, xA, xA, xA, xA, xA, xA, xA, xA, xA, xA, xA, xA, xA, xA, xA, xA, xA, xA, xA, xA, xA, xA, xA, xA, xA, xA, xA, xA, xA, xA, xA, xA, xA, xA, xA, xA, xA, xA, xA, xA, xA, xA, xA, xA, xA, xA, xA, xA, xA, xA, xA, xA, xA, xA, xA, xA, xA, xA, xA, xA, xA, xA, xA, xA, xA, xA, xA, xA, xA, xA, xA, xA, xA, xA, xA, xA, xA, xA, xA, xA, NV i, e, xA, xA, xA, xA, xA, xA, xA, xA, xA, xA, xA, xA, xA, xA, xA, xA, xA, .any]
set_option maxRecDepth 8000 in
theorem takeB_xor (tt nn : Nat) (w : List UInt8) (h V : List UInt32) (hh : h.length = 8) (er : V.length = 16) (Q : Exit → St → Go.EW.Tok → Prop) (hQ : ∀ n, Q (.exit 8) ⟨tb8 8 (.lit (.bool false)), ofO [hSB (xorS h V 8) tt nn, some (RB w), wB V], n⟩ .on) :
  LoopT Tryz.prog 2 (hid b_btake_130) Q ⟨tb8 0 .any, ofO [hSB h tt nn, some (RB w), wB V], 3⟩ := by
 refine eloop (α := Nat) (fun i => i ≤ 8) (fun i => 8 - i) (fun i => tb8 i .any) (fun i => [hSB (xorS h V i) tt nn, some (RB w), wB V]) 0 [0, 1, 2]
  (by omega) (by simp [tb8, NV]) (by simp [hSB, SO, RB, wB, xorS]) (by simp [hSB, SO, RB, wB]) (by decide) (by simp) ?_
 intro i hi
 have ei : (xorS h V i).length = 8 := by rw [xorS_len]; exact hh
 by_cases hli : i < 8
 ·have ii : (i : Int) < 8 := by omega
  have ij : (i : Int) < 16 := by omega
  have xl : i ≤ 7 := by omega
  have xl2 : i ≤ 10 := by omega
  have l16 : i < 16 := by omega
  have l8 : 8 + i < 16 := by omega
  have wi1 := wS (i := i) (by omega)
  have w8 : IntKind.i64.wrap (8 + (i : Int)) = ((8 + i : Nat) : Int) := by rw [wrap_i64 (by omega) (by omega)]; omega
  have j8 : ((8 + i : Nat) : Int) < 16 := by omega
  simp [tb8, hSB, SO, RB, wB, NV, ii, ij, xl, xl2, l16, l8, hli, wi1, w8, j8, ei, er, wl_gE, wl_put, wl_putR, wl_gER, wl_gR, wi_xor, -Int.natCast_add]
  exact round (i + 1) [0, 1, 2] (by omega) (by omega) (by simp [tb8, NV]) (by simp [hSB, SO, RB, wB, xorS]) (by simp [hSB, SO, RB, wB]) (by decide) (by simp)
 ·have h8 : i = 8 := by omega
  subst h8
  simp [tb8, NV]
  exact hQ _
set_option maxRecDepth 8000 in
theorem takeB_ok (tt nn : Nat) (w : List UInt8) (h : List UInt32) (b : List UInt8) (t : Nat) (last : Bool) (hh : h.length = 8) (hb : b.length = 64) (ht : t < 18446744073709551616) :
  ECalls Tryz.prog 175 [.v (.c (.ptr 0 0)), BV b, .lit (.int .u64 t), .lit (.bool last)] [SO 1 h 64 tt nn, RB w] fun y H' => H' = [some (SO 1 (takeS h b t last) 64 tt nn), some (RB w)] ∧ y = .tup [] := by
 have z16 : wl (mI b 0) = List.replicate 16 (EC.fz (.lit (.int .u32 0))) := by simp [mI, upW]; rfl
 have zz : wl Z16 = List.replicate 16 (EC.fz (.lit (.int .u32 0))) := by simp [wl, Z16]; rfl
 have th : ∀ r, List.take 8 (wl h ++ r) = wl h := fun r => wl_t8 hh
 have th' : List.take 8 (wl h) = wl h := List.tkL (by simp [hh])
 have f1 := wf_flat h 16 (by omega)
 have f2 := wf_sum h 16 (by omega)
 refine ecalls k_btake ?_
 simp [c_btake, BV, SO, RB, hb, hh]
 refine loopW _ (weak_norm [0, 1, 2, 18, 34] (tb0 t last 0 .any) (hb0 tt nn w h b 0) (by simp [tb0, NV]) (by simp [hb0, hSB, SO, RB, wB, z16, zz]) (by simp [hb0, hSB, SO, RB, wB]) (by decide) (by simp [hb0])) (takeB_words tt nn w h b t last hb _ fun n => ?_)
 have hml : (mI b 16).length = 16 := upW_len _ _
 have z16l : Z16.length = 16 := rfl
 have dz : List.drop 8 (wl Z16) = wl (Z16.drop 8) := wl_drop _ _
 simp [tb0, hb0, wB, hSB, SO, RB, NV, hb, hh, th, th', f1, f2, dz, wl_app, z16l]
 have tf : List.take 8 (wl firstW) = wl firstW := List.tkL (by simp; decide)
 have ff1 := wf_flat firstW 8 (by decide)
 have ff2 := wf_sum firstW 8 (by decide)
 have fl : firstW.length = 8 := rfl
 have tk : List.take 8 (wl (h ++ List.drop 8 Z16)) = wl h := by rw [wl_take, List.take_left' hh]
 have dk : List.drop 16 (wl (h ++ List.drop 8 Z16)) = [] := List.drop_of_length_le (by simp [hh, z16l])
 obtain ⟨v0, h0⟩ : ∃ w, h ++ firstW = w := ⟨_, rfl⟩
 have e0 : v0.length = 16 := by rw [← h0, List.length_append, hh, fl]
 obtain ⟨v1, h1⟩ : ∃ w, v0.set 12 (g v0 12 ^^^ lo32 t) = w := ⟨_, rfl⟩
 have e1 : v1.length = 16 := by rw [← h1, List.length_set]; exact e0
 obtain ⟨v2, h2⟩ : ∃ w, v1.set 13 (g v1 13 ^^^ hi32 t) = w := ⟨_, rfl⟩
 have e2 : v2.length = 16 := by rw [← h2, List.length_set]; exact e1
 have hini : iniS h t last = if last then v2.set 14 (~~~ g v2 14) else v2 := by unfold iniS; simp only [h0, h1, h2]
 have p12 : ∀ x, List.take 12 (wl v0) ++ .fz (.lit (.int .u32 (wi x))) :: List.drop 13 (wl v0) = wl (v0.set 12 x) := fun x => wl_put (by omega)
 have p13 : ∀ x, List.take 13 (wl v1) ++ .fz (.lit (.int .u32 (wi x))) :: List.drop 14 (wl v1) = wl (v1.set 13 x) := fun x => wl_put (by omega)
 have p14 : ∀ x, List.take 14 (wl v2) ++ .fz (.lit (.int .u32 (wi x))) :: List.drop 15 (wl v2) = wl (v2.set 14 x) := fun x => wl_put (by omega)
 refine call0 first_ok (by simp) ?_
 rintro y H' ⟨rfl, rfl⟩
 refine ⟨.inl (by simp), le_ok rfl, ?_⟩
 simp [NV, hb, hh, tf, ff1, ff2, fl, z16l, wl_app, tk, dk, h0, e0, e1, e2, wl_g, wl_gE, wi_xor, wi_lo, wi_hi, p12, p13, h1, h2]
 obtain ⟨v3, h3⟩ : ∃ w, iniS h t last = w := ⟨_, rfl⟩
 have e3 : v3.length = 16 := by rw [← h3, hini]; split <;> simp [e2]
 obtain ⟨m, hm⟩ : ∃ m, mI b 16 = m := ⟨_, rfl⟩
 rw [hm] at hml
 have er : (rndsS m v3 10).length = 16 := by rw [rndsS_len]; exact e3
 obtain ⟨V, hV⟩ : ∃ V, rndsS m v3 10 = V := ⟨_, rfl⟩
 rw [hV] at er
 have ht2 : takeS h b t last = xorS h V 8 := by unfold takeS; rw [hm, h3, hV]
 rw [ht2]
 refine alt (fun hl => ?_) (fun hl => ?_)
 case' refine_1 =>
  have h14 : v2.set 14 (~~~ g v2 14) = v3 := by rw [← h3, hini, if_pos hl]
  simp [e2, wl_g, wl_gE, pun_x32, p14, h14]
 case' refine_2 =>
  have h14 : v2 = v3 := by rw [← h3, hini, if_neg (by simpa using hl)]
  simp [h14]
 all_goals
  refine loopW _ (weak_norm [0, 1, 3, 4] (tb2 0 .any) (hb2 tt nn w h m v3) (by simp [tb2, NV]) (by simp [hb2, hSB, SO, RB, wB, hm]) (by simp [hb2, hSB, SO, RB, wB]) (by decide) (by simp [hb2])) (takeB_rnds tt nn w h m v3 hml e3 _ fun n => ?_)
  simp [tb2, hb2, wB, hSB, SO, RB, NV]
  refine loopW _ (weak_norm [0, 1, 3] (tb8 0 .any) [hSB h tt nn, some (RB w), wB V] (by simp [tb8, NV]) (by simp [hSB, SO, RB, wB, hV]) (by simp [hSB, SO, RB, wB]) (by decide) (by simp)) (takeB_xor tt nn w h V hh er _ fun n => ?_)
  simp [tb8, wB, hSB, SO, RB, NV]
  exact fin [] (by decide) rfl rfl (by simp [objsOut, show List.range 2 = [0, 1] from rfl]) ⟨rfl, rfl⟩
def zU64 : List Value := List.replicate 64 (.int .u8 0)
def Z64 : List UInt8 := List.replicate 64 0
@[simp] theorem zU64_litc : zU64.map litc = hc Z64 := rfl
@[simp] theorem zU64_litc' : List.map (fun v => EC.fz (FV.lit v)) zU64 = hc Z64 := rfl
@[simp] theorem Z64_len : Z64.length = 64 := rfl
def yl17z : UL | _ => [xb 6 13 .add 10 12, xQ 7 14 (.nilc (.t 7)), xF 8 15 10 14, xN 9 (.sto 1 (.t 15) (.t 13))]
def yl180 : UL | _ => xM 0 7 0 :: xQ 1 8 (.nilc (.t 7)) :: xF 2 9 10 8 :: xL 3 10 9 :: xM 4 11 1 :: xE 5 12 11 :: hid yl17z
def yl182 : UL | _ => [xM 0 19 0, xQ 1 20 (.nilc (.t 19)), xF 2 21 8 20, xL 3 22 21, xE 4 23 22, xc 5 24 .eql 23 64]
def yl183 : UL | _ => [xF 6 31 9 30, xN 7 (.sto 1 (.t 31) (.t 29))]
def yl184 : UL | _ => xM 0 25 0 :: xQ 1 26 (.nilc (.t 25)) :: xF 2 27 9 26 :: xL 3 28 27 :: xQ 4 29 (.bin .add (.t 28) (.k (.int .u64 64))) :: xQ 5 30 (.nilc (.t 25)) :: hid yl183
def yl185 : UL | _ => [xL 12 44 43, xO 13 45 (.call 175 [.t 34, .t 40, .t 44, (.k (.bool false))])]
def yl186 : UL | _ => xL 6 38 37 :: xQ 7 39 (.s2a 64 1 (.t 38)) :: xD 8 40 64 39 :: xM 9 41 0 :: xQ 10 42 (.nilc (.t 41)) :: xF 11 43 9 42 :: hid yl185
def yl187 : UL | _ => xM 0 32 0 :: xQ 1 33 (.nilc (.t 32)) :: xF 2 34 0 33 :: xM 3 35 0 :: xQ 4 36 (.nilc (.t 35)) :: xF 5 37 8 36 :: hid yl186
def yl188 : UL | _ => [xQ 6 52 (.nilc (.t 46)), xF 7 53 8 52, xN 8 (.fz (.sto 1 (.t 53) (.t 51)))]
def yl189 : UL | _ => xM 0 46 0 :: xM 1 47 0 :: xQ 2 48 (.nilc (.t 47)) :: xF 3 49 8 48 :: xL 4 50 49 :: xQ 5 51 (.ssl 1 (.t 50) none (some (xK 0))) :: hid yl188
def yl18c : UL | _ => [xE 6 60 59, xQ 7 61 (.bin .sub (xK 64) (.t 60)), xQ 8 62 (.minmax false [.t 55, .t 61]), xM 9 4 62]
def yl18d : UL | _ => xM 0 54 1 :: xE 1 55 54 :: xM 2 56 0 :: xQ 3 57 (.nilc (.t 56)) :: xF 4 58 8 57 :: xL 5 59 58 :: hid yl18c
def yl18e : UL | _ => [xM 6 69 4, xQ 7 70 (.ssl 1 (.t 68) none (some (.t 69))), ⟨8, (some 71), none, (.app 5 1 1 (.t 67) (.t 70)), [0]⟩, xQ 9 72 (.nilc (.t 63)), xF 10 73 8 72, xN 11 (.fz (.sto 1 (.t 73) (.t 71)))]
def yl18f : UL | _ => xM 0 63 0 :: xM 1 64 0 :: xQ 2 65 (.nilc (.t 64)) :: xF 3 66 8 65 :: xL 4 67 66 :: xM 5 68 1 :: hid yl18e
def yl18g : UL | _ => [xM 0 74 1, xM 1 75 4, xQ 2 76 (.ssl 1 (.t 74) (some (.t 75)) none), xM 3 1 76]
def yb18h : UB | _ => .seq (reg0 (hid yl18d) 10) (.seq (reg1 (hid yl18f) 12) (reg0 (hid yl18g) 4))
def yb18i : UB | _ => .seq (.seq (reg0 [xM 0 16 1, xE 1 17 16, xc 2 18 .gtr 17 0] 3) (.cond (.t 18) .skip (.exit 0))) (.block 1 (.seq (.seq (reg0 (hid yl182) 6) (.cond (.t 24) (.seq (reg0 (hid yl184) 8) (.seq (reg0 (hid yl187) 14) (reg0 (hid yl189) 9))) .skip)) (hid yb18h)))
def yb18j : UB | _ => .seq (.seq (reg0 [xM 0 5 0, xQ 1 6 (.eqp false (.t 5))] 2) (.cond (.t 6) .ret .skip)) (.seq (reg0 (hid yl180) 10) (.block 0 (.loop (hid yb18i))))
attribute [simp] yl17z yl180 yl182 yl183 yl184 yl185 yl186 yl187 yl188 yl189 yl18c yl18d yl18e yl18f yl18g yb18h yb18i yb18j
def c_BWrite : EB × List QOp × Nat := ((hid yb18j), [], 77)
theorem k_BWrite : cfun Tryz.prog 132 = some c_BWrite := by kernel_rfl
def yl18q : UL | _ => [xQ 0 10 (.sar 64 (.t 4) none none), xM 1 11 0, xQ 2 12 (.nilc (.t 11)), xF 3 13 8 12, xL 4 14 13, xO 5 15 (.cpy 1 (.t 10) (.t 14))]
def yl18r : UL | _ => [xM 0 16 0, xQ 1 17 (.nilc (.t 16)), xF 2 18 0 17, xD 3 19 8 18, xQ 4 5 (.alloc 256 [(.int .u32 0), (.int .u32 0), (.int .u32 0), (.int .u32 0), (.int .u32 0), (.int .u32 0), (.int .u32 0), (.int .u32 0)]), xN 5 (.sto 8 (.t 5) (.t 19))]
def yl18s : UL | _ => [xO 12 32 (.call 175 [.t 5, .t 20, .t 31, (.k (.bool true))])]
def yl18t : UL | _ => xQ 6 26 (.nilc (.t 25)) :: xF 7 27 8 26 :: xL 8 28 27 :: xE 9 29 28 :: xQ 10 30 (.cnv .u64 (.t 29)) :: xb 11 31 .add 24 30 :: hid yl18s
def yl18u : UL | _ => xD 0 20 64 4 :: xM 1 21 0 :: xQ 2 22 (.nilc (.t 21)) :: xF 3 23 9 22 :: xL 4 24 23 :: xM 5 25 0 :: hid yl18t
def yl18y : UL | _ => [xc 6 42 .rem 41 4, xQ 7 43 (.bin .mul (xK 8) (.t 42)), xb 8 44 .shr 40 43, xQ 9 45 (.cnv .u8 (.t 44)), xQ 10 46 (.iad 32 1 (.t 3) (.t 36)), xN 11 (.sto 1 (.t 46) (.t 45))]
def yl18z : UL | _ => xM 0 36 6 :: xM 1 37 6 :: xc 2 38 .quo 37 4 :: xQ 3 39 (.iad 8 1 (.t 5) (.t 38)) :: xL 4 40 39 :: xM 5 41 6 :: hid yl18y
def yb192 : UB | _ => .seq (reg0 [xc 0 34 .lss 33 32] 1) (.seq (.cond (.t 34) .skip (.exit 0)) (.seq (.block 1 (.seq (reg0 [xM 0 35 33, xM 1 6 35] 2) (reg0 (hid yl18z) 12))) (reg0 [xc 0 47 .add 33 1, xM 1 33 47] 2)))
def yb194 : UB | _ => .seq (.seq (reg0 [xC 0 33 0] 1) (.block 0 (.loop (hid yb192)))) (.seq (reg0 [xD 0 48 32 3, xN 1 (.sto 32 (.t 2) (.t 48))] 2) .ret)
def yb195 : UB | _ => .seq (reg0 (hid yl18r) 6) (.seq (reg0 (hid yl18u) 13) (hid yb194))
def yb196 : UB | _ => .seq (reg0 [xQ 0 4 (.alloc 307 zU64)] 1) (.seq (reg0 (hid yl18q) 6) (hid yb195))
def yb197 : UB | _ => .seq (reg0 [xQ 0 2 (.alloc 23 zU8)] 1) (.seq (reg0 [xQ 0 3 (.alloc 23 zU8)] 1) (.seq (.seq (reg0 [xM 0 7 0, xQ 1 8 (.eqp false (.t 7))] 2) (.cond (.t 8) (.seq (reg0 [xD 0 9 32 3, xN 1 (.sto 32 (.t 2) (.t 9))] 2) .ret) .skip)) (hid yb196)))
attribute [simp] yl18q yl18r yl18s yl18t yl18u yl18y yl18z yb192 yb194 yb195 yb196 yb197
def c_BSumM : EB × List QOp × Nat := ((hid yb197), [(.lda 32 (.t 2))], 49)
theorem k_BSumM : cfun Tryz.prog 133 = some c_BSumM := by kernel_rfl
def yl199 : UL | _ => [xO 0 4 (.call 131 []), xQ 1 5 (.build [(.int .u32 0), (.int .u32 0), (.int .u32 0), (.int .u32 0), (.int .u32 0), (.int .u32 0), (.int .u32 0), (.int .u32 0), xS, (.int .u64 0), xZ] [(0, 8, .t 4)]), xW 2 6 259 5, xM 3 3 6]
def yl19a : UL | _ => [xQ 6 13 (.nilc (.t 7)), xF 7 14 0 13, xQ 8 15 (.iad 8 1 (.t 14) (xK 0)), xN 9 (.sto 1 (.t 15) (.t 12))]
def yl19b : UL | _ => xM 0 7 3 :: xQ 1 8 (.nilc (.t 7)) :: xF 2 9 0 8 :: xQ 3 10 (.iad 8 1 (.t 9) (xK 0)) :: xL 4 11 10 :: xQ 5 12 (.bin .xor (.t 11) (.k (.int .u32 16842784))) :: hid yl19a
def yl19d : UL | _ => [xM 0 19 3, xO 1 20 (.call 133 [.t 19]), xN 2 (.sto 32 (.t 2) (.t 20))]
def yb19f : UB | _ => .seq (reg0 [xQ 0 2 (.alloc 23 zU8)] 1) (.seq (reg0 (hid yl199) 4) (.seq (reg0 (hid yl19b) 10) (.seq (reg0 [xM 0 16 3, xM 1 17 0, xO 2 18 (.call 132 [.t 16, .t 17])] 3) (.seq (reg0 (hid yl19d) 3) .ret))))
attribute [simp] yl199 yl19a yl19b yl19d yb19f
def c_BSum : EB × List QOp × Nat := ((hid yb19f), [(.lda 32 (.t 2))], 21)
theorem k_BSum : cfun Tryz.prog 69 = some c_BSum := by kernel_rfl
abbrev Wst := List UInt32 × List UInt8 × Nat × List UInt8
def wst1 (s : Wst) : Wst := if s.2.1.length = 64 then (takeS s.1 s.2.1 (s.2.2.1 + 64) false, [], s.2.2.1 + 64, s.2.2.2) else s
def wst2 (s : Wst) : Wst := (s.1, s.2.1 ++ s.2.2.2.take (min s.2.2.2.length (64 - s.2.1.length)), s.2.2.1, s.2.2.2.drop (min s.2.2.2.length (64 - s.2.1.length)))
def wstep (s : Wst) : Wst := wst2 (wst1 s)
def wrun : Nat → Wst → Wst
 | 0, s => s
 | k + 1, s => if s.2.2.2 = [] then s else wrun k (wstep s)
def wall (s : Wst) : Wst := wrun s.2.2.2.length s
theorem takeS_len (h : List UInt32) (b : List UInt8) (t : Nat) (last : Bool) : (takeS h b t last).length = h.length := xorS_len _ _ _
structure Wok' (N : Nat) (s : Wst) : Prop where
 h : s.1.length = 8
 w : s.2.1.length ≤ 64
 n : s.2.1.length + s.2.2.1 + s.2.2.2.length = N
theorem wst1_ok {N : Nat} {s : Wst} (k : Wok' N s) : Wok' N (wst1 s) := by
 obtain ⟨h, w, t, r⟩ := s
 obtain ⟨k1, k2, k3⟩ := k
 unfold wst1
 dsimp only at *
 split
 ·refine ⟨?_, ?_, ?_⟩
  ·dsimp only; rw [takeS_len]; exact k1
  ·simp
  ·simp; omega
 ·exact ⟨k1, k2, k3⟩
theorem wst1_lt {N : Nat} {s : Wst} (k : Wok' N s) : (wst1 s).2.1.length < 64 ∧ (wst1 s).2.2.2 = s.2.2.2 := by
 obtain ⟨h, w, t, r⟩ := s
 obtain ⟨k1, k2, k3⟩ := k
 unfold wst1
 dsimp only at *
 split
 ·simp
 ·exact ⟨by simp only; omega, rfl⟩
theorem wst2_ok {N : Nat} {s : Wst} (k : Wok' N s) : Wok' N (wst2 s) := by
 obtain ⟨h, w, t, r⟩ := s
 obtain ⟨k1, k2, k3⟩ := k
 unfold wst2
 dsimp only at *
 refine ⟨k1, ?_, ?_⟩
 ·simp; omega
 ·simp; omega
theorem wstep_ok {N : Nat} {s : Wst} (k : Wok' N s) : Wok' N (wstep s) := wst2_ok (wst1_ok k)
theorem wstep_lt {N : Nat} {s : Wst} (k : Wok' N s) (hr : s.2.2.2 ≠ []) : (wstep s).2.2.2.length < s.2.2.2.length := by
 have h1 := wst1_lt k
 have hp := List.length_pos_iff.2 hr
 unfold wstep wst2
 dsimp only
 rw [List.length_drop, h1.2]
 omega
theorem wrun_fuel {N : Nat} : ∀ (k j : Nat) {s : Wst}, Wok' N s → s.2.2.2.length ≤ k → s.2.2.2.length ≤ j → wrun k s = wrun j s
 | 0, 0, _, _, _, _ => rfl
 | 0, j + 1, s, _, h, _ => by
  have : s.2.2.2 = [] := List.eq_nil_of_length_eq_zero (by omega)
  simp [wrun, this]
 | k + 1, 0, s, _, _, h => by
  have : s.2.2.2 = [] := List.eq_nil_of_length_eq_zero (by omega)
  simp [wrun, this]
 | k + 1, j + 1, s, o, h1, h2 => by
  unfold wrun
  by_cases e : s.2.2.2 = []
  ·simp [e]
  ·rw [if_neg e, if_neg e]
   have := wstep_lt o e
   exact wrun_fuel k j (wstep_ok o) (by omega) (by omega)
theorem wall_nil {s : Wst} (h : s.2.2.2 = []) : wall s = s := by
 unfold wall
 rw [h]
 rfl
theorem wall_step {N : Nat} {s : Wst} (o : Wok' N s) (h : s.2.2.2 ≠ []) : wall s = wall (wstep s) := by
 have hp := List.length_pos_iff.2 h
 have hl := wstep_lt o h
 unfold wall
 obtain ⟨k, hk⟩ : ∃ k, s.2.2.2.length = k + 1 := ⟨_, (Nat.succ_pred_eq_of_pos hp).symm⟩
 rw [hk]
 conv => lhs; unfold wrun
 rw [if_neg h]
 exact wrun_fuel k _ (wstep_ok o) (by omega) (Nat.le_refl _)
theorem wall_ok {N : Nat} : ∀ (k : Nat) {s : Wst}, Wok' N s → s.2.2.2.length ≤ k → Wok' N (wall s) ∧ (wall s).2.2.2 = []
 | 0, s, o, h => by
  have : s.2.2.2 = [] := List.eq_nil_of_length_eq_zero (by omega)
  rw [wall_nil this]
  exact ⟨o, this⟩
 | k + 1, s, o, h => by
  by_cases e : s.2.2.2 = []
  ·rw [wall_nil e]; exact ⟨o, e⟩
  ·rw [wall_step o e]
   have := wstep_lt o e
   exact wall_ok k (wstep_ok o) (by omega)
theorem hc_tk {l : List UInt8} {n : Nat} (h : l.length ≤ n) : (hc l).take n = hc l := List.tkL (by rw [hc_len]; exact h)
theorem u64_nat {n : Nat} (h : n < 18446744073709551616) : IntKind.u64.wrap (n : Int) = (n : Int) := by rw [wrap_u64 (by omega) (by omega)]
theorem put10 {v : List UInt32} (h : v.length = 8) (x y z u : EC) : List.take 10 (wl v ++ [x, y, z]) ++ u :: List.drop 11 (wl v ++ [x, y, z]) = wl v ++ [x, y, u] := by
 have e : (wl v).length = 8 := by simpa using h
 rw [List.take_append, List.drop_append, e, List.tkL (by omega), List.drop_of_length_le (by omega)]
 simp
theorem put9 {v : List UInt32} (h : v.length = 8) (x y z u : EC) : List.take 9 (wl v ++ [x, y, z]) ++ u :: List.drop 10 (wl v ++ [x, y, z]) = wl v ++ [x, u, z] := by
 have e : (wl v).length = 8 := by simpa using h
 rw [List.take_append, List.drop_append, e, List.tkL (by omega), List.drop_of_length_le (by omega)]
 simp
theorem put8 {v : List UInt32} (h : v.length = 8) (x y z u : EC) : List.take 8 (wl v ++ [x, y, z]) ++ u :: List.drop 9 (wl v ++ [x, y, z]) = wl v ++ [u, y, z] := by
 have e : (wl v).length = 8 := by simpa using h
 rw [List.take_append, List.drop_append, e, List.tkL (by omega), List.drop_of_length_le (by omega)]
 simp
theorem drop9 {v : List UInt32} (h : v.length = 8) (x y z : EC) : List.drop 9 (wl v ++ [x, y, z]) = [y, z] := by
 have e : (wl v).length = 8 := by simpa using h
 rw [List.drop_append, e, List.drop_of_length_le (by omega)]
 rfl
theorem bsv_0 {w : List UInt8} (h : w.length = 64) : ∃ c, ∀ h', (bsv w)[0]'h' = cb c := by
 cases w with
 | nil => simp at h
 | cons c r => exact ⟨c, fun _ => rfl⟩
theorem i64_min (a b : Nat) : (if a < b then (a : Int) else (b : Int)) = ((min b a : Nat) : Int) := by split <;> omega
set_option maxRecDepth 8000 in
theorem Write_ok (h : List UInt32) (w : List UInt8) (t n : Nat) (b : List UInt8) (o : Wok' (w.length + t + b.length) (h, w, t, b)) (hb : w.length + t + b.length ≤ 1000000000) (hn : n ≤ 1000000000) :
  ECalls Tryz.prog 132 [.v (.c (.ptr 0 0)), Bs b] [SO 1 h w.length t n, RB w] fun y H' => H' = [some (SO 2 (wall (h, w, t, b)).1 (wall (h, w, t, b)).2.1.length (wall (h, w, t, b)).2.2.1 (n + b.length)), none, some (RB (wall (h, w, t, b)).2.1)] ∧ y = .tup [] := by
 obtain ⟨A, hA⟩ : ∃ A, wall (h, w, t, b) = A := ⟨_, rfl⟩
 obtain ⟨N, hN⟩ : ∃ N, n + b.length = N := ⟨_, rfl⟩
 obtain ⟨M, hM⟩ : ∃ M, w.length + t + b.length = M := ⟨_, rfl⟩
 rw [hA, hN]
 rw [hM] at o hb
 have h8 : h.length = 8 := o.h
 have wn : IntKind.i64.wrap ((n : Int) + (b.length : Int)) = (N : Int) := by rw [wrap_i64 (by omega) (by omega)]; omega
 refine ecalls k_BWrite ?_
 simp [c_BWrite, SO, RB, Bs, NV, h8, wn]
 refine eloop (α := Wst) (fun a => Wok' M a ∧ wall a = A) (fun a => a.2.2.2.length)
  (fun a => [.v (.c (.ptr 0 0)), Bs a.2.2.2, xA, xA, xA, xA, xA, xA, xA, xA, xA, xA, xA, xA, xA, xA, xA, xA, xA, xA, xA, xA, xA, xA, xA, xA, xA, xA, xA, xA, xA, xA, xA, xA, xA, xA, xA, xA, xA, xA, xA, xA, xA, xA, xA, xA, xA, xA, xA, xA, xA, xA, xA, xA, xA, xA, xA, xA, xA, xA, xA, xA, xA, xA, xA, xA, xA, xA, xA, xA, xA, xA, xA, xA, xA, xA, .any]) (fun a => [some (SO 2 a.1 a.2.1.length a.2.2.1 N), none, some (RB a.2.1)]) (h, w, t, b) [0, 1, 1]
  ⟨o, hA⟩ (by simp [Bs]) (by simp [SO, RB, put10 h8]) (by simp) (by decide) (by simp) ?_
 clear o hA wn hn hN h8 hM
 clear h w t b n
 rintro ⟨h, w, t, b⟩ ⟨o, hA⟩
 obtain ⟨h8, hw, hs⟩ := id o
 dsimp only at h8 hw hs
 simp [SO, RB, Bs, NV, h8]
 refine alt (fun hp => ?_) (fun hp => ?_)
 ·have hne : (h, w, t, b).2.2.2 ≠ [] := by rintro e; simp at e; subst e; simp at hp
  have o2 := wstep_ok o
  have hlt := wstep_lt o hne
  have hA2 := (wall_step o hne).symm.trans hA
  simp [h8]
  refine alt (fun hl => ?_) (fun hl => ?_)
  ·have hl' : w.length = 64 := by omega
   obtain ⟨c, hc0⟩ := bsv_0 hl'
   have wt : IntKind.u64.wrap ((t : Int) + 64) = ((t + 64 : Nat) : Int) := by rw [show (t : Int) + 64 = ((t + 64 : Nat) : Int) by omega]; exact u64_nat (by omega)
   have hcl : (hc w).length = 64 := by rw [hc_len]; exact hl'
   have hct : List.take 64 (hc w) = hc w := hc_tk (by omega)
   have m64 : (if (64 : Int) < (b.length : Int) then (64 : Int) else (b.length : Int)) = ((min b.length 64 : Nat) : Int) := by split <;> omega
   obtain ⟨k, hk⟩ : ∃ k, min b.length 64 = k := ⟨_, rfl⟩
   rw [hk] at m64
   have hs1 : wstep (h, w, t, b) = (takeS h w (t + 64) false, b.take k, t + 64, b.drop k) := by simp [wstep, wst1, wst2, hl', hk]
   rw [hs1] at o2 hlt hA2
   obtain ⟨T2, hT⟩ : ∃ T2, takeS h w (t + 64) false = T2 := ⟨_, rfl⟩
   rw [hT] at o2 hlt hA2
   have h82 : T2.length = 8 := o2.h
   simp [h8, hl', hc0, cb, wt, put9 h8, hcl, hct, -Int.natCast_add]
   refine callH [0, 2] (takeB_ok (t + 64) N w h w (t + 64) false h8 hl' (by omega)) (by simp [BV]) (by simp [SO, RB, hl']) (by simp) (by simp) (by simp) ?_
   rintro y H' ⟨rfl, rfl⟩
   refine ⟨.inl (by simp), by simp, ?_⟩
   rw [hT]
   have w64 : IntKind.i64.wrap 64 = 64 := by decide +kernel
   have hkb : k ≤ b.length := by omega
   have hk2 : min k b.length = k := by omega
   simp [SO, RB, h82, hl', w64, m64, hkb, hk2, put8 h82, drop9 h82, -Int.natCast_add]
   exact ⟨by omega, round (T2, b.take k, t + 64, b.drop k) [0, 1, 931] ⟨o2, hA2⟩ hlt (by simp) (by simp [hk2]) (by simp) (by decide) (by simp)⟩
  ·have hl' : ¬ w.length = 64 := by omega
   have w64 : IntKind.i64.wrap (64 - (w.length : Int)) = ((64 - w.length : Nat) : Int) := by rw [wrap_i64 (by omega) (by omega)]; omega
   obtain ⟨k, hk⟩ : ∃ k, min b.length (64 - w.length) = k := ⟨_, rfl⟩
   have hm := i64_min (64 - w.length) b.length
   rw [hk] at hm
   have hs1 : wstep (h, w, t, b) = (h, w ++ b.take k, t, b.drop k) := by simp [wstep, wst1, wst2, hl', hk]
   rw [hs1] at o2 hlt hA2
   have hkb : k ≤ b.length := by omega
   have hk2 : min k b.length = k := by omega
   simp [h8, hl, w64, hm, hkb, hk2, put8 h8, -Int.natCast_add]
   refine ⟨by omega, ?_⟩
   exact round (h, w ++ b.take k, t, b.drop k) [0, 1, 435] ⟨o2, hA2⟩ hlt (by simp) (by simp [hk2, drop9 h8]) (by simp) (by decide) (by simp)
 ·have : b = [] := List.eq_nil_of_length_eq_zero (by omega)
  subst this
  rw [wall_nil rfl] at hA
  subst hA
  simp [SO, RB]
  exact fin [2] (by decide) rfl rfl (by simp [objsOut, show List.range 2 = [0, 1] from rfl]) ⟨rfl, rfl⟩
def padS (w : List UInt8) : List UInt8 := w ++ List.replicate (64 - w.length) 0
theorem padS_len {w : List UInt8} (h : w.length ≤ 64) : (padS w).length = 64 := by simp [padS]; omega
def outB (h : List UInt32) (i : Nat) : UInt8 := UInt8.ofNat ((g h (i / 4)).toNat / 2 ^ (8 * (i % 4)))
def outS (h : List UInt32) : List UInt8 := (List.range 32).map (outB h)
theorem outS_len (h : List UInt32) : (outS h).length = 32 := by simp [outS]
def finS (s : Wst) : List UInt8 := outS (takeS s.1 (padS s.2.1) (s.2.2.1 + s.2.1.length) true)
def oI (h : List UInt32) (i : Nat) : List UInt8 := (List.range 32).map fun j => if j < i then outB h j else 0
theorem oI_len (h : List UInt32) (i : Nat) : (oI h i).length = 32 := by simp [oI]
theorem oI_0 (h : List UInt32) : oI h 0 = hz := by unfold oI hz; rfl
theorem oI_32 (h : List UInt32) : oI h 32 = outS h := by
 unfold oI outS
 apply List.map_congr_left
 intro j hj
 simp [List.mem_range.1 hj]
theorem oI_set (h : List UInt32) {i : Nat} (hi : i < 32) : (oI h i).set i (outB h i) = oI h (i + 1) := by
 apply List.ext_getElem?
 intro j
 by_cases hj : j < 32
 ·rw [List.getElem?_set]
  by_cases he : i = j
  ·subst he
   simp [oI, hj]
  ·simp [oI, hj, he]
   by_cases h2 : j < i
   ·rw [if_pos h2, if_pos (by omega)]
   ·rw [if_neg h2, if_neg (by omega)]
 ·rw [List.getElem?_eq_none (by simp [oI]; omega), List.getElem?_eq_none (by simp [oI]; omega)]
theorem u8_shr (x : UInt32) (k : Nat) : IntKind.u8.wrap (wi (shr x k)) = ((UInt8.ofNat (x.toNat / 2 ^ k)).toNat : Int) := by
 have h1 : wi (shr x k) = ((x.toNat / 2 ^ k : Nat) : Int) := by
  unfold shr
  rw [wi_ofNat]
  have h1 : x.toNat / 2 ^ k ≤ x.toNat := Nat.div_le_self _ _
  have h2 := x.toNat_lt
  generalize x.toNat / 2 ^ k = q at *
  omega
 rw [h1]
 simp [IntKind.wrap, IntKind.bits, IntKind.signed, UInt8.toNat_ofNat']
theorem hc_put {b : List UInt8} {i : Nat} {x : UInt8} (h : i < b.length) : hc (List.take i b) ++ .fz (.lit (.int .u8 (x.toNat : Int))) :: hc (List.drop (i + 1) b) = hc (b.set i x) := by
 have e : hc (b.set i x) = (hc b).set i (.fz (.lit (.int .u8 (x.toNat : Int)))) := by simp [hc, List.map_set]
 rw [e, List.set_eq_take_append_cons_drop, if_pos (by rw [hc_len]; exact h)]
 simp [hc]
set_option maxRecDepth 8000 in
theorem SumM_ok (h : List UInt32) (w : List UInt8) (t n : Nat) (h8 : h.length = 8) (hw : w.length ≤ 64) (ht : t ≤ 1000000000) :
  ECalls Tryz.prog 133 [.v (.c (.ptr 0 0))] [SO 1 h w.length t n, RB w] fun y H' => H' = [some (SO 1 h w.length t n), some (RB w)] ∧ y = .v (.agg (hc (finS (h, w, t, [])))) := by
 have tw : List.take 64 w = w := List.tkL hw
 have mw : min 64 w.length = w.length := by omega
 have hp : hc w ++ hc (List.drop w.length Z64) = hc (padS w) := by simp [-List.reduceReplicate, hc, padS, Z64]
 have pl := padS_len hw
 have tp : List.take 64 (hc (padS w)) = hc (padS w) := hc_tk (by omega)
 have wl' : IntKind.u64.wrap (w.length : Int) = (w.length : Int) := u64_nat (by omega)
 have wt : IntKind.u64.wrap ((t : Int) + (w.length : Int)) = ((t + w.length : Nat) : Int) := by rw [show (t : Int) + (w.length : Int) = ((t + w.length : Nat) : Int) by omega]; exact u64_nat (by omega)
 refine ecalls k_BSumM ?_
 simp [c_BSumM, SO, RB, NV, h8, tw, mw, hp, tp, pl, wl', wt, -Int.natCast_add]
 refine callH [242] (btake_ok h (padS w) (t + w.length) true h8 pl (by omega)) (by simp [BV]) (by simp [HO]) (by simp) (by simp) (by simp) ?_
 rintro y H' ⟨rfl, rfl⟩
 refine ⟨.inl (by simp), by simp, ?_⟩
 have hf : finS (h, w, t, []) = outS (takeS h (padS w) (t + w.length) true) := rfl
 obtain ⟨A, hA⟩ : ∃ A, takeS h (padS w) (t + w.length) true = A := ⟨_, rfl⟩
 have a8 : A.length = 8 := by rw [← hA, takeS_len]; exact h8
 rw [hf, hA]
 simp [HO]
 refine eloop (α := Nat) (fun i => i ≤ 32) (fun i => 32 - i)
  (fun i => [.v (.c (.ptr 0 0)), xA, .v (.c (.ptr 2 0)), .v (.c (.ptr 3 0)), xA, .v (.c (.ptr 4 0)), xA, xA, xA, xA, xA, xA, xA, xA, xA, xA, xA, xA, xA, xA, xA, xA, xA, xA, xA, xA, xA, xA, xA, xA, xA, xA, xA, NV i, xA, xA, xA, xA, xA, xA, xA, xA, xA, xA, xA, xA, xA, xA, .any])
  (fun i => [some (SO 1 h w.length t n), some (RB w), some (.box 23 (hc hz)), some (.box 23 (hc (oI A i))), some (HO A)]) 0 [0, 1, 2, 18, 242]
  (by omega) (by simp [NV]) (by simp [SO, RB, HO, oI_0]) (by simp [SO, RB, HO]) (by decide) (by simp) ?_
 intro i hi
 simp [SO, RB, HO, NV]
 refine alt (fun hp => ?_) (fun hp => ?_)
 ·have il : i < 32 := by omega
  have q1 : i / 4 < 8 := by omega
  have q1' : i / 4 ≤ 7 := by omega
  have q2 : (i : Int).tdiv 4 = ((i / 4 : Nat) : Int) := rfl
  have q3 : (i : Int).tmod 4 = ((i % 4 : Nat) : Int) := rfl
  have q4 : IntKind.i64.wrap ((i / 4 : Nat) : Int) = ((i / 4 : Nat) : Int) := wrap_i64 (by omega) (by omega)
  have q5 : IntKind.i64.wrap (8 * ((i % 4 : Nat) : Int)) = ((8 * (i % 4) : Nat) : Int) := by rw [wrap_i64 (by omega) (by omega)]; omega
  have wi1 := wS (i := i) (by omega)
  obtain ⟨d, hd⟩ : ∃ d, i / 4 = d := ⟨_, rfl⟩
  obtain ⟨k, hk⟩ : ∃ k, 8 * (i % 4) = k := ⟨_, rfl⟩
  rw [hd] at q1 q1' q2 q4
  rw [hk] at q5
  have d8 : (d : Int) < 8 := by omega
  have sh := wi_shr (g A d) k (by omega)
  have ou : IntKind.u8.wrap (wi (shr (g A d) k)) = ((outB A i).toNat : Int) := by unfold outB; rw [hd, hk]; exact u8_shr _ _
  simp [q2, q3, q4, q5, wi1, q1, q1', d8, a8, wl_gE, sh, ou, oI_len, il, hc_put, -Int.natCast_add, -Int.natCast_mul, -Int.natCast_ediv, -Int.natCast_emod]
  exact ⟨by omega, by omega, round (i + 1) [0, 1, 2, 3, 4] (by omega) (by omega) (by simp [NV]) (by simp [SO, RB, HO, hc_put, oI_len, il, oI_set A il]) (by simp [SO, RB, HO]) (by decide) (by simp)⟩
 ·have h32 : i = 32 := by omega
  subst h32
  simp [oI_32, outS_len]
  exact fin [] (by decide) rfl rfl (by simp [objsOut, show List.range 2 = [0, 1] from rfl]) ⟨rfl, rfl⟩
def ini8 : List UInt32 := firstW.set 0 (g firstW 0 ^^^ 0x01010020)
def w00 (b : List UInt8) : Wst := (ini8, [], 0, b)
def sumS (b : List UInt8) : List UInt8 := finS (wall (w00 b))
theorem sumS_len (b : List UInt8) : (sumS b).length = 32 := outS_len _
theorem w00_ok (b : List UInt8) : Wok' (([] : List UInt8).length + 0 + b.length) (w00 b) := ⟨rfl, by simp [w00], by simp [w00]⟩
theorem Write0_ok (b : List UInt8) (hb : b.length ≤ 1000000000) :
  ECalls Tryz.prog 132 [.v (.c (.ptr 0 0)), Bs b] [.box 259 (wl ini8 ++ [.fz (.lit (.slice none 0 0)), .fz (.lit (.int .u64 0)), .fz (.lit (.int .i64 0))])] fun y H' => H' = [some (SO 2 (wall (w00 b)).1 (wall (w00 b)).2.1.length (wall (w00 b)).2.2.1 (0 + b.length)), none, some (RB (wall (w00 b)).2.1)] ∧ y = .tup [] :=
 ecalls_nilB 0 8 rfl rfl (by omega) (Write_ok ini8 [] 0 0 b (w00_ok b) (by simpa using hb) (by omega))
set_option maxRecDepth 8000 in
theorem BSum_ok (b : List UInt8) (hb : b.length ≤ 100000000) : ECalls Tryz.prog 69 [Bs b] [] fun y H' => H' = [] ∧ y = .v (.agg (hc (sumS b))) := by
 obtain ⟨⟨o8, ow, os⟩, oe⟩ := wall_ok b.length (w00_ok b) (Nat.le_refl _)
 have hl := hc_tk (show (sumS b).length ≤ 32 by rw [sumS_len]; omega)
 have hx : ibit .xor .u32 (wi (g firstW 0)) 16842784 = wi (g firstW 0 ^^^ 0x01010020) := wi_xor (g firstW 0) 0x01010020
 have fl : firstW.length = 8 := rfl
 have g0 : ∀ (r : List EC) h', (wl firstW ++ r)[0]'h' = .fz (.lit (.int .u32 (wi (g firstW 0)))) := fun r h' => wl_gER (by decide) h'
 have p0 : ∀ r : List EC, EC.fz (.lit (.int .u32 (wi (g firstW 0 ^^^ 0x01010020)))) :: List.drop 1 (wl firstW ++ r) = wl ini8 ++ r := fun r => wl_putR (v := firstW) (i := 0) (by decide)
 have p0' : ∀ r : List EC, EC.fz (.lit (.int .u32 (wi (g firstW 0 ^^^ 0x01010020)))) :: (wl firstW ++ r).tail = wl ini8 ++ r := fun r => by rw [← List.drop_one]; exact p0 r
 refine ecalls k_BSum ?_
 simp [c_BSum, Bs, NV]
 refine call0 first_ok (by simp) ?_
 rintro y H' ⟨rfl, rfl⟩
 refine ⟨.inl (by simp), le_ok rfl, ?_⟩
 simp [NV, fl, g0, hx, p0, p0']
 refine callH [48] (Write0_ok b (by omega)) (by simp [Bs]) (by simp) (by simp) (by simp) (by simp) ?_
 rintro y H' ⟨rfl, rfl⟩
 refine ⟨.inl (by simp), by simp, ?_⟩
 simp [NV, SO, RB]
 refine callH [48, 273] (SumM_ok (wall (w00 b)).1 (wall (w00 b)).2.1 (wall (w00 b)).2.2.1 b.length o8 ow (by simp at os; omega)) (by simp) (by simp [SO, RB]) (by simp) (by simp) (by simp) ?_
 rintro y H' ⟨rfl, rfl⟩
 refine ⟨.inl (by simp), by simp, ?_⟩
 have hs : finS ((wall (w00 b)).1, (wall (w00 b)).2.1, (wall (w00 b)).2.2.1, []) = sumS b := rfl
 simp [NV, SO, RB, hs, hl, sumS_len]
 exact fin [] (by decide) rfl rfl (by simp [objsOut]) ⟨rfl, rfl⟩
def kS : Nat → List UInt32 → Nat → List UInt8 → List UInt32
 | 0, h, t, r => takeS h (padS r) (t + r.length) true
 | k + 1, h, t, r => if r.length ≤ 64 then takeS h (padS r) (t + r.length) true else kS k (takeS h (r.take 64) (t + 64) false) (t + 64) (r.drop 64)
theorem wstep_skip (h : List UInt32) (w : List UInt8) (t : Nat) (r : List UInt8) (hw : w.length = 64) : wstep (h, w, t, r) = wstep (takeS h w (t + 64) false, [], t + 64, r) := by
 simp [wstep, wst1, hw]
theorem wall_kS (N : Nat) : ∀ (k : Nat) (h : List UInt32) (t : Nat) (r : List UInt8), h.length = 8 → Wok' N (h, [], t, r) → r.length ≤ 64 * (k + 1) → finS (wall (h, [], t, r)) = outS (kS k h t r) := by
 intro k
 induction k with
 | zero =>
  intro h t r hh o hr
  by_cases h0 : r = []
  ·subst h0
   rw [wall_nil rfl]
   simp [finS, kS]
  ·rw [wall_step o h0]
   have e : wstep (h, [], t, r) = (h, r, t, []) := by simp [wstep, wst1, wst2, Nat.min_eq_left (show r.length ≤ 64 by omega)]
   rw [e, wall_nil rfl]
   simp [finS, kS]
 | succ k ih =>
  intro h t r hh o hr
  by_cases h64 : r.length ≤ 64
  ·by_cases h0 : r = []
   ·subst h0
    rw [wall_nil rfl]
    simp [finS, kS]
   ·rw [wall_step o h0]
    have e : wstep (h, [], t, r) = (h, r, t, []) := by simp [wstep, wst1, wst2, Nat.min_eq_left h64]
    rw [e, wall_nil rfl]
    simp [finS, kS, h64]
  ·have h0 : r ≠ [] := by rintro rfl; simp at h64
   have e : wstep (h, [], t, r) = (h, r.take 64, t, r.drop 64) := by simp [wstep, wst1, wst2, Nat.min_eq_right (show 64 ≤ r.length by omega)]
   have o1 := wstep_ok o
   rw [e] at o1
   have hd : r.drop 64 ≠ [] := by
    intro hd
    have := congrArg List.length hd
    simp at this
    omega
   have ht : (r.take 64).length = 64 := by simp; omega
   have o2 : Wok' N (takeS h (r.take 64) (t + 64) false, [], t + 64, r.drop 64) := by
    have := wst1_ok o1
    simpa [wst1, ht] using this
   rw [wall_step o h0, e, wall_step o1 hd, wstep_skip _ _ _ _ ht, ← wall_step o2 hd]
   rw [ih _ _ _ (by rw [takeS_len]; exact hh) o2 (by simp; omega)]
   simp [kS, h64]
def tgt (n : Nat) : Nat := if n = 0 then 64 else (n + 63) / 64 * 64
def padK (b : List UInt8) (k : Nat) : List UInt8 := b ++ List.replicate (k - b.length) 0
theorem padK_len {b : List UInt8} {k : Nat} (h : b.length ≤ k) : (padK b k).length = k := by simp [padK]; omega
theorem padK_0 (b : List UInt8) : padK b b.length = b := by simp [padK]
theorem padK_succ {b : List UInt8} {k : Nat} (h : b.length ≤ k) : padK b k ++ [0] = padK b (k + 1) := by
 unfold padK
 rw [show k + 1 - b.length = (k - b.length) + 1 by omega, List.replicate_succ', List.append_assoc]
theorem tgt_ge (n : Nat) : n ≤ tgt n := by unfold tgt; split <;> omega
theorem tgt_pos (n : Nat) : 64 ≤ tgt n := by unfold tgt; split <;> omega
theorem tgt_mod (n : Nat) : tgt n % 64 = 0 := by unfold tgt; split <;> omega
theorem tgt_le (n : Nat) : tgt n ≤ n + 64 := by unfold tgt; split <;> omega
theorem tgt_lt {n k : Nat} (h : n ≤ k) (h1 : k < tgt n) : k % 64 ≠ 0 ∨ k = 0 := by unfold tgt at h1; split at h1 <;> omega
theorem tgt_last {n j : Nat} (h : 64 * j < tgt n) : 64 * j + 64 = tgt n ↔ n ≤ 64 * j + 64 := by unfold tgt at *; split at h <;> simp_all <;> omega
theorem blk_last {b : List UInt8} {j : Nat} (h : 64 * j < tgt b.length) (h2 : b.length ≤ 64 * j + 64) : ((padK b (tgt b.length)).drop (64 * j)).take 64 = padS (b.drop (64 * j)) := by
 have e := (tgt_last h).2 h2
 have hle : 64 * j ≤ b.length := by unfold tgt at h; split at h <;> omega
 unfold padK padS
 rw [List.drop_append_of_le_length hle, List.tkL (by simp; omega)]
 congr 2
 simp
 omega
theorem blk_mid {b : List UInt8} {j : Nat} (h2 : 64 * j + 64 < b.length) (k : Nat) : ((padK b k).drop (64 * j)).take 64 = (b.drop (64 * j)).take 64 := by
 unfold padK
 rw [List.drop_append_of_le_length (by omega), List.take_append_of_le_length (by simp; omega)]
theorem kS_len : ∀ (k : Nat) (h : List UInt32) (t : Nat) (r : List UInt8), (kS k h t r).length = h.length
 | 0, h, t, r => takeS_len _ _ _ _
 | k + 1, h, t, r => by
  unfold kS
  split
  ·exact takeS_len _ _ _ _
  ·rw [kS_len k, takeS_len]
theorem sumS_kS (b : List UInt8) : sumS b = outS (kS (tgt b.length / 64 - 1) ini8 0 b) := by
 have h := tgt_ge b.length
 have h1 := tgt_pos b.length
 have h2 := tgt_mod b.length
 exact wall_kS _ _ ini8 0 b rfl (w00_ok b) (by omega)
def yl19m : UL | _ => [xE 6 23 22, xQ 7 24 (.bin .mul (xK 256) (.t 23)), xQ 8 25 (.cnv .u32 (.t 24)), xb 9 26 .xor 21 25, xQ 10 27 (.isl 1 (.t 17) (xK 0)), xN 11 (.sto 1 (.t 27) (.t 26))]
def yl19n : UL | _ => xM 0 17 7 :: xM 1 18 7 :: xQ 2 19 (.isl 1 (.t 18) (xK 0)) :: xL 3 20 19 :: xQ 4 21 (.bin .xor (.t 20) (.k (.int .u32 16842784))) :: xM 5 22 0 :: hid yl19m
def yl19q : UL | _ => [xM 0 31 8, xM 1 32 0, xO 2 33 (.app 5 1 1 (.t 31) (.t 32)), xM 3 8 33]
def yl19s : UL | _ => [xM 0 37 8, xQ 1 38 (.bsl 1 [(.int .u8 0)] 1 [(0, (.k (.int .u8 0)))]), xO 2 39 (.app 5 1 1 (.t 37) (.t 38)), xM 3 8 39]
def yb19u : UB | _ => .cond (.t 30) (.seq (reg0 (hid yl19q) 4) (.block 0 (.loop (.seq (.seq (reg0 [xM 0 34 8, xE 1 35 34, xc 2 36 .lss 35 64] 3) (.cond (.t 36) .skip (.exit 0))) (.block 1 (reg0 (hid yl19s) 4)))))) .skip
def yl19v : UL | _ => [xM 0 40 8, xM 1 41 1, xO 2 42 (.app 5 1 1 (.t 40) (.t 41)), xM 3 8 42]
def yl19x : UL | _ => [xG 6 51 49 false (.len (.t 50)), xG 7 52 49 false (.bin .eql (.t 51) (xK 0)), xP 8 53 49 52]
def yl19y : UL | _ => xM 0 45 8 :: xE 1 46 45 :: xc 2 47 .rem 46 64 :: xc 3 48 .neq 47 0 :: xM 4 49 48 :: yM 5 50 49 false 8 :: hid yl19x
def yl19z : UL | _ => [xM 0 54 8, xQ 1 55 (.bsl 1 [(.int .u8 0)] 1 [(0, (.k (.int .u8 0)))]), xO 2 56 (.app 5 1 1 (.t 54) (.t 55)), xM 3 8 56]
def yl1a3 : UL | _ => [xc 12 75 .add 74 64, xM 13 76 8, xE 14 77 76, xb 15 78 .eql 75 77, xO 16 79 (.call 201 [.t 63, .t 68, .t 73, .t 78]), xM 17 7 79]
def yl1a4 : UL | _ => xM 6 69 9 :: xM 7 70 10 :: xc 8 71 .add 70 64 :: xQ 9 72 (.minmax false [.t 69, .t 71]) :: xQ 10 73 (.cnv .u64 (.t 72)) :: xM 11 74 10 :: hid yl1a3
def yl1a5 : UL | _ => xM 0 63 7 :: xM 1 64 8 :: xM 2 65 10 :: xM 3 66 10 :: xc 4 67 .add 66 64 :: xQ 5 68 (.ssl 1 (.t 64) (some (.t 65)) (some (.t 67))) :: hid yl1a4
def yl1aa : UL | _ => [xN 12 (.sto 1 (.t 95) (.t 94))]
def yl1ab : UL | _ => xM 6 90 11 :: xc 7 91 .rem 90 4 :: xQ 8 92 (.bin .mul (xK 8) (.t 91)) :: xb 9 93 .shr 89 92 :: xQ 10 94 (.cnv .u8 (.t 93)) :: xQ 11 95 (.iad 32 1 (.t 6) (.t 84)) :: hid yl1aa
def yl1ac : UL | _ => xM 0 84 11 :: xM 1 85 7 :: xM 2 86 11 :: xc 3 87 .quo 86 4 :: xI 4 88 1 85 87 :: xL 5 89 88 :: hid yl1ab
def yb1ae : UB | _ => .seq (.seq (reg0 [xM 0 80 11, xc 1 81 .lss 80 32] 2) (.cond (.t 81) .skip (.exit 6))) (.seq (.block 7 (reg0 (hid yl1ac) 13)) (reg0 [xM 0 82 11, xc 1 83 .add 82 1, xM 2 11 83] 3))
def yb1ag : UB | _ => .seq (.seq (reg0 [xC 0 11 0] 1) (.block 6 (.loop (hid yb1ae)))) (.seq (reg0 [xD 0 96 32 6, xN 1 (.sto 32 (.t 4) (.t 96)), xC 2 5 0] 3) .ret)
def yb1ah : UB | _ => .seq (.seq (reg0 [xC 0 10 0] 1) (.block 4 (.loop (.seq (.seq (reg0 [xM 0 57 10, xM 1 58 8, xE 2 59 58, xb 3 60 .lss 57 59] 4) (.cond (.t 60) .skip (.exit 4))) (.seq (.block 5 (reg0 (hid yl1a5) 18)) (reg0 [xM 0 61 10, xc 1 62 .add 61 64, xM 2 10 62] 3)))))) (hid yb1ag)
def yb1aj : UB | _ => .seq (.seq (reg0 [xM 0 28 0, xE 1 29 28, xc 2 30 .gtr 29 0] 3) (hid yb19u)) (.seq (reg0 (hid yl19v) 4) (.seq (reg0 [xM 0 43 8, xE 1 44 43, xM 2 9 44] 3) (.seq (.block 2 (.loop (.seq (.seq (reg0 (hid yl19y) 9) (.cond (.t 53) .skip (.exit 2))) (.block 3 (reg0 (hid yl19z) 4))))) (hid yb1ah))))
def yb1al : UB | _ => .seq (.seq (reg0 [xM 0 12 0, xE 1 13 12, xc 2 14 .gtr 13 32] 3) (.cond (.t 14) (.seq (reg0 [xD 0 15 32 6, xN 1 (.sto 32 (.t 4) (.t 15)), xC 2 5 2] 3) .ret) .skip)) (.seq (reg0 [xO 0 16 (.call 200 []), xM 1 7 16] 2) (.seq (reg0 (hid yl19n) 12) (.seq (reg0 [xQ 0 8 (.mov (.k xS))] 1) (hid yb1aj))))
def yb1am : UB | _ => .seq (reg0 [xQ 0 4 (.alloc 23 zU8), xC 1 5 0] 2) (.seq (reg0 [xQ 0 6 (.alloc 23 zU8)] 1) (hid yb1al))
attribute [simp] yl19m yl19n yl19q yl19s yb19u yl19v yl19x yl19y yl19z yl1a3 yl1a4 yl1a5 yl1aa yl1ab yl1ac yb1ae yb1ag yb1ah yb1aj yb1al yb1am
def c_BKeyed : EB × List QOp × Nat := ((hid yb1am), [(.lda 32 (.t 4)), (.mov (.t 5))], 97)
theorem k_BKeyed : cfun Tryz.prog 173 = some c_BKeyed := by kernel_rfl
def yl1ao : UL | _ => [xN 6 (.sto 32 (.t 3) (.t 8)), xM 7 4 9]
def yl1ap : UL | _ => xM 0 6 0 :: xO 1 7 (.call 173 [(.k xS), .t 6]) :: xM 2 5 7 :: xX 3 8 0 5 :: xX 4 9 1 5 :: xQ 5 3 (.alloc 23 zU8) :: hid yl1ao
def yb1ar : UB | _ => .seq (reg0 [xQ 0 2 (.alloc 23 zU8)] 1) (.seq (reg0 (hid yl1ap) 8) (.seq (reg0 [xD 0 10 32 3, xN 1 (.sto 32 (.t 2) (.t 10))] 2) .ret))
attribute [simp] yl1ao yl1ap yb1ar
def c_RSum : EB × List QOp × Nat := ((hid yb1ar), [(.lda 32 (.t 2))], 11)
theorem k_RSum : cfun Tryz.prog 129 = some c_RSum := by kernel_rfl
set_option maxRecDepth 8000 in
theorem BKeyed_ok (b : List UInt8) (hb : b.length ≤ 100000000) : ECalls Tryz.prog 173 [.lit (.slice none 0 0), Bs b] [] fun y H' => H' = [] ∧ y = .tup [.agg (hc (sumS b)), .c (.fz (.lit (.int .i64 0)))] := by
 have fl : firstW.length = 8 := rfl
 have hx : ibit .xor .u32 (wi (g firstW 0)) 16842784 = wi (g firstW 0 ^^^ 0x01010020) := wi_xor (g firstW 0) 0x01010020
 have hx2 : ibit .xor .u32 (wi (g firstW 0 ^^^ 0x01010020)) 0 = wi (g firstW 0 ^^^ 0x01010020) := by
  have := wi_xor (g firstW 0 ^^^ 0x01010020) 0
  rw [show wi 0 = 0 from rfl] at this
  rw [this, UInt32.xor_zero]
 have hi8 : firstW.set 0 (g firstW 0 ^^^ 0x01010020) = ini8 := rfl
 refine ecalls k_BKeyed ?_
 simp [c_BKeyed, Bs]
 refine call0 Bbegin_ok (by simp) ?_
 rintro y H' ⟨rfl, rfl⟩
 refine ⟨.inl (by simp), by simp, ?_⟩
 have w0 : IntKind.i64.wrap 0 = 0 := by decide +kernel
 have w1 : IntKind.u32.wrap 0 = 0 := by decide +kernel
 simp [fl, wrw_gE', wrw_set, hx, hx2, hi8, w0, w1]
 have hg0 := tgt_ge b.length
 have hg1 := tgt_pos b.length
 have hg2 := tgt_mod b.length
 have hg3 := tgt_le b.length
 refine ⟨by omega, ?_⟩
 refine eloop (α := Nat) (fun k => b.length ≤ k ∧ k ≤ tgt b.length) (fun k => tgt b.length - k)
  (fun k => [xA, xA, xA, xA, .v (.c (.ptr 0 0)), xA, .v (.c (.ptr 1 0)), .v (.c (.row 2 8)), .v (.c (.row 3 k)), NV b.length, xA, xA, xA, xA, xA, xA, xA, xA, xA, xA, xA, xA, xA, xA, xA, xA, xA, xA, xA, xA, xA, xA, xA, xA, xA, xA, xA, xA, xA, xA, xA, xA, xA, xA, xA, xA, xA, xA, xA, xA, xA, xA, xA, xA, xA, xA, xA, xA, xA, xA, xA, xA, xA, xA, xA, xA, xA, xA, xA, xA, xA, xA, xA, xA, xA, xA, xA, xA, xA, xA, xA, xA, xA, xA, xA, xA, xA, xA, xA, xA, xA, xA, xA, xA, xA, xA, .any])
  (fun k => [some (.box 23 (hc hz)), some (.box 23 (hc hz)), some (.row 254 1 (wrw ini8)), some (.row 5 1 (bsv (padK b k)))]) b.length [0, 32, 96, 416]
  ⟨Nat.le_refl _, hg0⟩ (by simp [NV]) (by simp [padK_0]) (by simp) (by simp) (by simp) ?_
 rintro k ⟨hk, hkt⟩
 have hpl := padK_len hk
 have tm : (k : Int).tmod 64 = ((k % 64 : Nat) : Int) := rfl
 by_cases hlt : k < tgt b.length
 ·have hc := tgt_lt hk hlt
  have hps := padK_succ hk
  have hpb : bsv (padK b k) ++ [[.lit (.int .u8 0)]] = bsv (padK b (k + 1)) := by rw [← hps]; simp [bsv, cb]
  by_cases hm : k % 64 = 0
  ·have hm' : (k : Int) % 64 = 0 := by omega
   have hk0 : k = 0 := by omega
   subst hk0
   simp [NV, hpl, hps]
   exact round 1 [0, 1, 2, 180] ⟨by omega, by omega⟩ (by omega) (by simp [NV]) (by simp [hpb]) (by simp) (by simp) (by simp)
  ·have hm' : ¬ (k : Int) % 64 = 0 := by omega
   simp [NV, hpl, tm, hm', hps, -Int.natCast_add]
   refine ⟨by omega, ?_⟩
   exact round (k + 1) [0, 1, 2, 180] ⟨by omega, by omega⟩ (by omega) (by simp [NV]) (by simp [hpb]) (by simp) (by simp) (by simp)
 ·have hkt2 : k = tgt b.length := by omega
  subst hkt2
  have hn0 : ¬ tgt b.length = 0 := by omega
  simp [NV, hpl, tm, hg2, hn0]
  refine loopW _ (weak_frz (o := 2) (ty := 254) (es := 1) (xs := wrw ini8) rfl) (loopW _ (weak_frz (o := 3) (ty := 5) (es := 1) (xs := bsv (padK b (tgt b.length))) rfl) ?_)
  have tf8 : List.take 8 (wrw ini8) = wrw ini8 := List.tkL (by simp; decide)
  have tfb : List.take (tgt b.length) (bsv (padK b (tgt b.length))) = bsv (padK b (tgt b.length)) := List.tkL (by simp [hpl])
  have fz2 : List.map (fzE 3 1 (bsv (padK b (tgt b.length))) ∘ fzE 2 1 (wrw ini8)) (hc hz) = hc hz := by rw [← List.map_map]; rfl
  obtain ⟨A, hA⟩ : ∃ A, kS (tgt b.length / 64 - 1) ini8 0 b = A := ⟨_, rfl⟩
  have A8 : A.length = 8 := by rw [← hA, kS_len]; rfl
  have hs : sumS b = outS A := by rw [sumS_kS, hA]
  refine eloop (α := List UInt32 × Nat) (fun a => a.1.length = 8 ∧ 64 * a.2 ≤ tgt b.length ∧ (64 * a.2 < tgt b.length → kS (tgt b.length / 64 - 1 - a.2) a.1 (64 * a.2) (b.drop (64 * a.2)) = A) ∧ (64 * a.2 = tgt b.length → a.1 = A)) (fun a => tgt b.length - 64 * a.2)
   (fun a => [xA, xA, xA, xA, .v (.c (.ptr 0 0)), xA, .v (.c (.ptr 1 0)), FW a.1, Bs (padK b (tgt b.length)), NV b.length, NV ((64 * a.2 : Nat) : Int), xA, xA, xA, xA, xA, xA, xA, xA, xA, xA, xA, xA, xA, xA, xA, xA, xA, xA, xA, xA, xA, xA, xA, xA, xA, xA, xA, xA, xA, xA, xA, xA, xA, xA, xA, xA, xA, xA, xA, xA, xA, xA, xA, xA, xA, xA, xA, xA, xA, xA, xA, xA, xA, xA, xA, xA, xA, xA, xA, xA, xA, xA, xA, xA, xA, xA, xA, xA, xA, xA, xA, xA, xA, xA, xA, xA, xA, xA, xA, xA, xA, xA, xA, xA, xA, .any])
   (fun _ => [some (.box 23 (hc hz)), some (.box 23 (hc hz))]) (ini8, 0) [0, 1]
   ⟨rfl, by omega, fun _ => by simpa using hA, fun h => absurd h (by dsimp only; omega)⟩ (by simp [NV, FW, Bs, fzEO, hpl, tf8, tfb]) (by simp [fz2]) (by simp) (by simp) (by simp) ?_
  rintro ⟨h, j⟩ ⟨h8, hj, hA1, hA2⟩
  dsimp only at h8 hj hA1 hA2
  by_cases hlt2 : 64 * j < tgt b.length
  ·have htl := tgt_last hlt2
   obtain ⟨J, hJ⟩ : ∃ J, 64 * j = J := ⟨_, rfl⟩
   have hcj : ((64 : Int) * (j : Int)) = (J : Int) := by omega
   have wJ : IntKind.i64.wrap ((J : Int) + 64) = ((J + 64 : Nat) : Int) := by rw [wrap_i64 (by omega) (by omega)]; omega
   have hmn := i64_min (J + 64) b.length
   obtain ⟨t', ht'⟩ : ∃ t', min b.length (J + 64) = t' := ⟨_, rfl⟩
   rw [ht'] at hmn
   have wt : IntKind.u64.wrap (t' : Int) = (t' : Int) := u64_nat (by omega)
   obtain ⟨B, hB⟩ : ∃ B, List.drop J (List.take (J + 64) (padK b (tgt b.length))) = B := ⟨_, rfl⟩
   have hB2 : ((padK b (tgt b.length)).drop J).take 64 = B := by rw [← hB, List.drop_take]; congr 1; omega
   have hB64 : B.length = 64 := by rw [← hB2, List.length_take, List.length_drop, hpl]; omega
   obtain ⟨L, hL⟩ : ∃ L, decide (((J + 64 : Nat) : Int) = ((tgt b.length : Nat) : Int)) = L := ⟨_, rfl⟩
   have e8 : (wrw (takeS h B t' L)).length = 8 := by rw [wrw_len, takeS_len]; exact h8
   have hk1 := Btk_ok h B t' L h8 hB64 (by omega)
   rw [← e8] at hk1
   have hk2 := ecalls_frz hk1
   rw [hJ] at hA1 htl
   have hnext : (64 * (j + 1) < tgt b.length → kS (tgt b.length / 64 - 1 - (j + 1)) (takeS h B t' L) (64 * (j + 1)) (b.drop (64 * (j + 1))) = A) ∧ (64 * (j + 1) = tgt b.length → takeS h B t' L = A) := by
    have ha := hA1 (by omega)
    rcases Nat.lt_or_ge (J + 64) b.length with hq | hq
    ·have hLf : L = false := by rw [← hL]; exact decide_eq_false (by omega)
     have htt : t' = J + 64 := by omega
     have hBm : B = (b.drop J).take 64 := by
      have := blk_mid (b := b) (j := j) (by omega) (tgt b.length)
      rw [hJ, hB2] at this
      exact this
     obtain ⟨K, hK⟩ : ∃ K, tgt b.length / 64 - 1 - j = K + 1 := ⟨tgt b.length / 64 - 1 - j - 1, by omega⟩
     rw [hK, kS, if_neg (by rw [List.length_drop]; omega), List.drop_drop, ← hBm] at ha
     rw [hLf, htt]
     refine ⟨fun _ => ?_, fun h => by omega⟩
     rw [show tgt b.length / 64 - 1 - (j + 1) = K by omega, show 64 * (j + 1) = J + 64 by omega]
     exact ha
    ·have he := htl.2 hq
     have hLt : L = true := by rw [← hL]; exact decide_eq_true (by omega)
     have hBl := blk_last (b := b) (j := j) hlt2 (by omega)
     rw [hJ, hB2] at hBl
     have hz0 : tgt b.length / 64 - 1 - j = 0 := by omega
     rw [hz0, kS, List.length_drop, ← hBl, ← hLt] at ha
     refine ⟨fun h => by omega, fun _ => ?_⟩
     by_cases hJn : J ≤ b.length
     ·rw [show t' = J + (b.length - J) by omega]
      exact ha
     ·exfalso
      unfold tgt at he hlt2
      split at he <;> omega
   simp [NV, FW, Bs, hpl, hcj, wJ, hmn, wt, hB, hL, show J < tgt b.length by omega, -Int.natCast_add]
   refine ⟨by omega, ?_⟩
   refine call0 hk2 (by simp [FW, Bs]) ?_
   rintro y H' ⟨rfl, rfl⟩
   refine ⟨.inl (by simp), le_ok rfl, ?_⟩
   have wJ2 : ((J + 64 : Nat) : Int) = 64 * ((j + 1 : Nat) : Int) := by omega
   simp [NV, FW, Bs, hpl, hcj, wJ, -Int.natCast_add]
   exact round (takeS h B t' L, j + 1) [0, 1] ⟨by dsimp only; rw [takeS_len]; exact h8, by dsimp only; omega, hnext.1, hnext.2⟩ (by dsimp only; omega) (by simp [NV, FW, Bs, wJ2]) (by simp) (by simp) (by simp) (by simp)
  ·have he : 64 * j = tgt b.length := by omega
   have hh := hA2 he
   have hcj : ((64 : Int) * (j : Int)) = ((tgt b.length : Nat) : Int) := by omega
   subst hh
   simp [NV, FW, Bs, hpl, hcj]
   refine eloop (α := Nat) (fun i => i ≤ 32) (fun i => 32 - i)
    (fun i => [xA, xA, xA, xA, .v (.c (.ptr 0 0)), xA, .v (.c (.ptr 1 0)), FW h, xA, xA, xA, NV i, xA, xA, xA, xA, xA, xA, xA, xA, xA, xA, xA, xA, xA, xA, xA, xA, xA, xA, xA, xA, xA, xA, xA, xA, xA, xA, xA, xA, xA, xA, xA, xA, xA, xA, xA, xA, xA, xA, xA, xA, xA, xA, xA, xA, xA, xA, xA, xA, xA, xA, xA, xA, xA, xA, xA, xA, xA, xA, xA, xA, xA, xA, xA, xA, xA, xA, xA, xA, xA, xA, xA, xA, xA, xA, xA, xA, xA, xA, xA, xA, xA, xA, xA, xA, .any])
    (fun i => [some (.box 23 (hc hz)), some (.box 23 (hc (oI h i)))]) 0 [0, 1]
    (by omega) (by simp [NV, FW]) (by simp [oI_0]) (by simp) (by simp) (by simp) ?_
   intro i hi
   simp [NV, FW]
   refine alt (fun hp => ?_) (fun hp => ?_)
   ·have il : i < 32 := by omega
    have q1 : i / 4 < 8 := by omega
    have q1' : i / 4 ≤ 7 := by omega
    have q2 : (i : Int).tdiv 4 = ((i / 4 : Nat) : Int) := rfl
    have q3 : (i : Int).tmod 4 = ((i % 4 : Nat) : Int) := rfl
    have q4 : IntKind.i64.wrap ((i / 4 : Nat) : Int) = ((i / 4 : Nat) : Int) := wrap_i64 (by omega) (by omega)
    have q5 : IntKind.i64.wrap (8 * ((i % 4 : Nat) : Int)) = ((8 * (i % 4) : Nat) : Int) := by rw [wrap_i64 (by omega) (by omega)]; omega
    have wi1 := wS (i := i) (by omega)
    obtain ⟨d, hd⟩ : ∃ d, i / 4 = d := ⟨_, rfl⟩
    obtain ⟨k, hk⟩ : ∃ k, 8 * (i % 4) = k := ⟨_, rfl⟩
    rw [hd] at q1 q1' q2 q4
    rw [hk] at q5
    have d8 : (d : Int) < 8 := by omega
    have sh := wi_shr (g h d) k (by omega)
    have ou : IntKind.u8.wrap (wi (shr (g h d) k)) = ((outB h i).toNat : Int) := by unfold outB; rw [hd, hk]; exact u8_shr _ _
    simp [q2, q3, q4, q5, wi1, q1, q1', d8, A8, wrw_gE', sh, ou, oI_len, il, hc_put, -Int.natCast_add, -Int.natCast_mul, -Int.natCast_ediv, -Int.natCast_emod]
    exact ⟨by omega, by omega, round (i + 1) [0, 1] (by omega) (by omega) (by simp [NV, FW]) (by simp [oI_set h il]) (by simp) (by simp) (by simp)⟩
   ·have h32 : i = 32 := by omega
    subst h32
    have ol := outS_len h
    obtain ⟨O, hO⟩ : ∃ O, outS h = O := ⟨_, rfl⟩
    rw [hO] at hs ol
    simp [oI_32, hO, ol, hs]
    have ot : List.take 32 O = O := List.tkL (by omega)
    exact fin [] (by decide) (v := .tup [.agg (hc O), .c (.fz (.lit (.int .i64 0)))]) (by simp [resV, resT, evT, asT, fzEO, ot, ol]) (by simp [conR, conTs, conT, ot, ol]) rfl ⟨rfl, rfl⟩
theorem RSum_ok (b : List UInt8) (hb : b.length ≤ 100000000) : ECalls Tryz.prog 129 [Bs b] [] fun y H' => H' = [] ∧ y = .v (.agg (hc (sumS b))) := by
 have hl := hc_tk (show (sumS b).length ≤ 32 by rw [sumS_len]; omega)
 refine ecalls k_RSum ?_
 simp [c_RSum, Bs]
 refine call0 (BKeyed_ok b hb) (by simp [Bs]) ?_
 rintro y H' ⟨rfl, rfl⟩
 refine ⟨.inl (by simp), le_ok rfl, ?_⟩
 simp [hl, sumS_len]
 exact fin0
def yl1at : UL | _ => [xD 0 3 3 1, xO 1 4 (.call 60 [.t 3, (.k (.func (.func 81) #[] #[]))]), xO 2 5 (.call 69 [.t 4]), xN 3 (.sto 32 (.t 2) (.t 5))]
def yb1au : UB | _ => .seq (reg0 [xW 0 1 71 0, xQ 1 2 (.alloc 23 zU8)] 2) (.seq (reg0 (hid yl1at) 4) .ret)
attribute [simp] yl1at yb1au
def c_TxID : EB × List QOp × Nat := ((hid yb1au), [(.lda 32 (.t 2))], 6)
theorem k_TxID : cfun Tryz.prog 38 = some c_TxID := by kernel_rfl
def yb1ax : UB | _ => .seq (reg0 [xW 0 1 146 0, xQ 1 2 (.mov (.k xS))] 2) (.seq (reg0 [xQ 0 2 (.mov (.k xS))] 1) .ret)
attribute [simp] yb1ax
def c_TxIDc : EB × List QOp × Nat := ((hid yb1ax), [(.mov (.t 2))], 3)
theorem k_TxIDc : cfun Tryz.prog 81 = some c_TxIDc := by kernel_rfl
def yl1az : UL | _ => [xD 0 3 3 1, xO 1 4 (.call 62 [.t 3, (.k (.bool false))]), xO 2 5 (.call 129 [.t 4]), xN 3 (.sto 32 (.t 2) (.t 5))]
def yb1b0 : UB | _ => .seq (reg0 [xW 0 1 77 0, xQ 1 2 (.alloc 23 zU8)] 2) (.seq (reg0 (hid yl1az) 4) .ret)
attribute [simp] yl1az yb1b0
def c_RTxID : EB × List QOp × Nat := ((hid yb1b0), [(.lda 32 (.t 2))], 6)
theorem k_RTxID : cfun Tryz.prog 67 = some c_RTxID := by kernel_rfl
def yb1b2 : UB | _ => reg0 [xQ 0 2 (.alloc 23 zU8)] 1
def yl1b3 : UL | _ => [xM 0 3 0, xO 1 4 (.call 69 [.t 3]), xN 2 (.sto 32 (.t 2) (.t 4))]
def yb1b4 : UB | _ => reg0 (hid yl1b3) 3
attribute [simp] yb1b2 yl1b3 yb1b4
theorem TxIDc_body : bodyOK Tryz.prog 81 = true := by kernel_rfl
theorem TxIDc_ok (x : Inp) (h1 : x.tx.length = 32) (h : x.sec = []) : ECalls Tryz.prog 81 [.v (.agg (inpC x))] [] fun y H' => H' = [] ∧ y = Bs x.sec := by
 have l0 := ic_len h1
 refine ecalls k_TxIDc ?_
 simp [c_TxIDc, l0, h]
 refine finW _ (weak_nilF 2 1 rfl) ?_
 exact fin0
theorem TxID_ok (t : Txn) (ht : t.ok) (hse : ∀ x ∈ t.ins, x.sec = []) (hs : (encT t).length ≤ 100000000) : ECalls Tryz.prog 38 [TXv t] [] fun y H' => H' = [] ∧ y = .v (.agg (hc (sumS (encT t)))) := by
 have hl := sumS_len (encT t)
 refine ecalls k_TxID ?_
 simp [c_TxID, TXv, txC, iC]
 refine call0 (TPutF_ok _ t ht TxIDc_body (fun x hx => TxIDc_ok x (ht.2.1 x hx).1 (hse x hx)) (fun x hx => by rw [hse x hx]; simp) (by omega)) (by simp [TXv, txC, iC]) ?_
 rintro y H' ⟨rfl, rfl⟩
 refine ⟨.inl (by simp [Bs]), le_ok rfl, ?_⟩
 simp [Bs]
 refine call0 (BSum_ok (encT t) hs) (by simp [Bs]) ?_
 rintro y H' ⟨rfl, rfl⟩
 refine ⟨.inl (by simp), le_ok rfl, ?_⟩
 have d : List.drop 32 (hc hz) = [] := rfl
 simp [d, hl]
 exact fin0
theorem RTxID_ok (t : Txn) (ht : t.ok) (hse : ∀ x ∈ t.ins, x.sec = []) (hs : (encT t).length ≤ 100000000) : ECalls Tryz.prog 67 [TXv t] [] fun y H' => H' = [] ∧ y = .v (.agg (hc (sumS (encT t)))) := by
 have hl := sumS_len (encT t)
 refine ecalls k_RTxID ?_
 simp [c_RTxID, TXv, txC, iC]
 refine call0 (RTPutF_ok false t ht (.inr hse) (fun x hx => by rw [hse x hx]; simp) (by omega)) (by simp [TXv, txC, iC]) ?_
 rintro y H' ⟨rfl, rfl⟩
 refine ⟨.inl (by simp [Bs]), le_ok rfl, ?_⟩
 simp [Bs]
 refine call0 (RSum_ok (encT t) hs) (by simp [Bs]) ?_
 rintro y H' ⟨rfl, rfl⟩
 refine ⟨.inl (by simp), le_ok rfl, ?_⟩
 have d : List.drop 32 (hc hz) = [] := rfl
 simp [d, hl]
 exact fin0
end Go.Proofs.YtejjhgdnmknejaaGreatDoor
