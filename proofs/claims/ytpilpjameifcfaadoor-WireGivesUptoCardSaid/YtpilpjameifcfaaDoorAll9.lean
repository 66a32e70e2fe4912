import Derived.Test.YtpilpjameifcfaaDoorAll8
import Derived.Test.YtpilpjameifcfaaDoorAll6
import Derived.Test.YtpilpjameifcfaaDoorAll5
namespace Go.Proofs.YtpilpjameifcfaaDoor
open Go Go.EW
set_option linter.unusedSimpArgs false
set_option linter.unusedVariables false

/-! the loops, each by itself -/
def SO (r : Nat) (h : List UInt32) (n tt nn : Nat) : EO := .box 158 (wl h ++ [.row r n, .fz (.lit (.int .u64 tt)), .fz (.lit (.int .i64 nn))])
def RB (w : List UInt8) : EO := .row 5 1 (bsv w)
def hSB (h : List UInt32) (tt nn : Nat) : Option EO := some (SO 1 h 64 tt nn)
theorem wl_putR {v : List UInt32} {i : Nat} {x : UInt32} {r : List EC} (h : i < v.length) : List.take i (wl v ++ r) ++ .fz (.lit (.int .u32 (wi x))) :: List.drop (i + 1) (wl v ++ r) = wl (v.set i x) ++ r := by
  rw [List.take_append_of_le_length (by simp; omega), List.drop_append_of_le_length (by simp; omega), ← wl_put h]
  simp
theorem wl_gER {v : List UInt32} {i : Nat} {r : List EC} (h : i < v.length) (h2 : i < (wl v ++ r).length) : (wl v ++ r)[i]'h2 = .fz (.lit (.int .u32 (wi (g v i)))) := by
  rw [List.getElem_append_left (by simpa using h), wl_gE h]
theorem wl_gR {v : List UInt32} {i : Nat} {r : List EC} (h : i < v.length) : (wl v ++ r)[i]? = some (.fz (.lit (.int .u32 (wi (g v i))))) := by
  rw [List.getElem?_append_left (by simpa using h), wl_g h]
@[simp] theorem strAll_wlR (ids : List Nat) (l : List UInt32) (r : List EC) : strAll ids (wl l ++ r) = (strAll ids r).map (wl l ++ ·) := by
  induction l with
  | nil => simp [wl]
  | cons b t ih =>
    have e : wl (b :: t) ++ r = .fz (.lit (.int .u32 (wi b))) :: (wl t ++ r) := rfl
    rw [e]
    simp only [strAll, ih]
    cases strAll ids r <;> rfl
theorem wl_t8 {v : List UInt32} {r : List EC} (h : v.length = 8) : List.take 8 (wl v ++ r) = wl v := List.take_left' (by simpa using h)
def tb0 (t : Nat) (last : Bool) (i : Nat) (e : EV) : List EV := [.v (.c (.ptr 0 0)), .any, .lit (.int .u64 t), .lit (.bool last), .any, .v (.c (.ptr 2 0)), .any, .any, .v (.c (.ptr 3 0)), .v (.c (.ptr 4 0)), .any, .any, .any, .any, .any, .any, .any, NV i, e, .any, .any, .any, .any, .any, .any, .any, .any, .any, .any, .any, .any, .any, .any, .any, .any, .any, .any, .any, .any, .any, .any, .any, .any, .any, .any, .any, .any, .any, .any, .any, .any, .any, .any, .any, .any, .any, .any, .any, .any, .any, .any, .any, .any, .any, .any, .any, .any, .any, .any, .any, .any, .any, .any, .any, .any, .any, .any, .any, .any, .any, .any, .any, .any, .any, .any, .any, .any, .any, .any, .any, .any, .any, .any, .any, .any, .any, .any, .any, .any, .any, .any, .any, .any, .any, .any, .any, .any, .any, .any, .any, .any, .any, .any, .any, .any, .any, .any, .any, .any, .any, .any, .any, .any, .any, .any, .any, .any, .any, .any, .any, .any, .any, .any, .any, .any, .any, .any, .any, .any, .any, .any, .any, .any, .any, .any, .any, .any, .any, .any, .any, .any, .any, .any, .any, .any, .any, .any, .any, .any, .any, .any, .any, .any]
def hb0 (tt nn : Nat) (w : List UInt8) (h : List UInt32) (b : List UInt8) (i : Nat) : List (Option EO) := [hSB h tt nn, some (RB w), some (.box 174 (hc b)), wB (mI b i), wB Z16]
@[simp] theorem hb0_len (tt nn : Nat) (w : List UInt8) (h : List UInt32) (b : List UInt8) (i : Nat) : (hb0 tt nn w h b i).length = 5 := rfl

set_option maxRecDepth 8000 in
set_option maxHeartbeats 8000000 in
theorem takeB_words (tt nn : Nat) (w : List UInt8) (h : List UInt32) (b : List UInt8) (t : Nat) (last : Bool) (hb : b.length = 64) (Q : Exit → St → Go.EW.Tok → Prop) (hQ : ∀ n, Q (.exit 0) ⟨tb0 t last 16 (.lit (.bool false)), ofO (hb0 tt nn w h b 16), n⟩ .on) :
    LoopT Tryd.prog 2 (hid b_btake_25) Q ⟨tb0 t last 0 .any, ofO (hb0 tt nn w h b 0), 5⟩ := by
  refine eloop (α := Nat) (fun i => i ≤ 16) (fun i => 16 - i) (fun i => tb0 t last i .any) (fun i => hb0 tt nn w h b i) 0 [0, 1, 2, 3, 4]
    (by omega) (by simp [tb0, NV]) (by simp [hb0, hSB, SO, RB, wB]) (by simp [hb0, hSB, SO, RB, wB]) (by decide) (by simp [hb0]) ?_
  intro i hi
  have hml : (mI b i).length = 16 := upW_len _ _
  by_cases hlt : i < 16
  · have il : (i : Int) < 16 := by omega
    have xl : i ≤ 15 := by omega
    obtain ⟨k, hk⟩ : ∃ k, k = 4 * i := ⟨_, rfl⟩
    have w0 : IntKind.i64.wrap (4 * (i : Int)) = (k : Int) := by rw [wrap_i64 (by omega) (by omega)]; omega
    have w1 : IntKind.i64.wrap ((k : Int) + 1) = ((k + 1 : Nat) : Int) := wrap_i64 (by omega) (by omega)
    have w2 : IntKind.i64.wrap ((k : Int) + 2) = ((k + 2 : Nat) : Int) := wrap_i64 (by omega) (by omega)
    have w3 : IntKind.i64.wrap ((k : Int) + 3) = ((k + 3 : Nat) : Int) := wrap_i64 (by omega) (by omega)
    have wi1 : IntKind.i64.wrap ((i : Int) + 1) = ((i + 1 : Nat) : Int) := wrap_i64 (by omega) (by omega)
    have k0 : k < 64 := by omega
    have k1 : k + 1 < 64 := by omega
    have k2 : k + 2 < 64 := by omega
    have k3 : k + 3 < 64 := by omega
    have j0 : (k : Int) < 64 := by omega
    have j1 : ((k + 1 : Nat) : Int) < 64 := by omega
    have j2 : ((k + 2 : Nat) : Int) < 64 := by omega
    have j3 : ((k + 3 : Nat) : Int) < 64 := by omega
    have s8 : ∀ x, ishl .u32 (wi x) 8 = wi (shl x 8) := fun x => wi_shl x 8 (by omega)
    have s16 : ∀ x, ishl .u32 (wi x) 16 = wi (shl x 16) := fun x => wi_shl x 16 (by omega)
    have s24 : ∀ x, ishl .u32 (wi x) 24 = wi (shl x 24) := fun x => wi_shl x 24 (by omega)
    have hw : ((bw (g8 b k) ||| shl (bw (g8 b (k + 1))) 8) ||| shl (bw (g8 b (k + 2))) 16) ||| shl (bw (g8 b (k + 3))) 24 = wordS b i := by rw [hk]; rfl
    simp [tb0, hb0, wB, hSB, SO, RB, NV, il, xl, w0, w1, w2, w3, wi1, hb, k0, k1, k2, k3, j0, j1, j2, j3, s8, s16, s24, hc_gE, hc_d0, wi_bw, wi_or, hw, hml, hlt, wl_put, wl_putR, wl_gER, wl_gR, mI_set, -Int.natCast_add]
    exact round (i + 1) [0, 1, 2, 3, 4] (by omega) (by omega) (by simp [tb0, NV]) (by simp [hb0, hSB, SO, RB, wB]) (by simp [hb0, hSB, SO, RB, wB]) (by decide) (by simp [hb0])
  · have hi16 : i = 16 := by omega
    subst hi16
    simp [tb0, hb0, NV]
    exact hQ _

def tb4 (r i : Nat) (e : EV) : List EV := [.v (.c (.ptr 0 0)), .any, .any, .any, .any, .any, .any, .any, .v (.c (.ptr 2 0)), .v (.c (.ptr 3 0)), .any, .any, .any, .v (.c (.ptr 4 0)), .any, .any, .any, .any, .any, .any, .any, .any, .any, .any, .any, .any, .any, .any, .any, .any, .any, .any, .any, .any, .any, .any, .any, .any, .any, .any, .any, .any, .any, .any, .any, .any, .any, .any, .any, .any, .any, .any, .any, .any, .any, .any, .any, .any, .any, .any, .any, .any, .any, .any, .any, .any, .any, .any, .any, .any, .any, .any, .any, .any, .any, .any, .any, .any, .any, NV r, .any, .any, .any, .any, .any, NV i, e, .any, .any, .any, .any, .any, .any, .any, .any, .any, .any, .any, .any, .any, .any, .any, .any, .any, .any, .any, .any, .any, .any, .any, .any, .any, .any, .any, .any, .any, .any, .any, .any, .any, .any, .any, .any, .any, .any, .any, .any, .any, .any, .any, .any, .any, .any, .any, .any, .any, .any, .any, .any, .any, .any, .any, .any, .any, .any, .any, .any, .any, .any, .any, .any, .any, .any, .any, .any, .any, .any, .any, .any, .any, .any, .any, .any]
def hb4 (tt nn : Nat) (w : List UInt8) (h m v : List UInt32) (r : Nat) : List (Option EO) := [hSB h tt nn, some (RB w), wB m, wB v, some (.box 179 (hc (ocB r)))]
@[simp] theorem hb4_len (tt nn : Nat) (w : List UInt8) (h m v : List UInt32) (r : Nat) : (hb4 tt nn w h m v r).length = 5 := rfl
set_option maxRecDepth 8000 in
set_option maxHeartbeats 8000000 in
theorem takeB_cols (tt nn : Nat) (w : List UInt8) (h m V : List UInt32) (r : Nat) (hlr : r < 10) (hml : m.length = 16) (er : V.length = 16) (Q : Exit → St → Go.EW.Tok → Prop) (hQ : ∀ n, Q (.exit 4) ⟨tb4 r 4 (.lit (.bool false)), ofO (hb4 tt nn w h m (colsS m r V 4) r), n⟩ .on) :
    LoopT Tryd.prog 2 (hid b_btake_74) Q ⟨tb4 r 0 .any, ofO (hb4 tt nn w h m V r), 5⟩ := by
  refine eloop (α := Nat) (fun i => i ≤ 4) (fun i => 4 - i) (fun i => tb4 r i .any) (fun i => hb4 tt nn w h m (colsS m r V i) r) 0 [0, 1, 2, 3, 4]
    (by omega) (by simp [tb4, NV]) (by simp [hb4, hSB, SO, RB, wB, colsS]) (by simp [hb4, hSB, SO, RB, wB]) (by decide) (by simp [hb4]) ?_
  intro i hi
  have ei : (colsS m r V i).length = 16 := by rw [colsS_len]; exact er
  by_cases hli : i < 4
  · have ii : (i : Int) < 4 := by omega
    have wi1 : IntKind.i64.wrap ((i : Int) + 1) = ((i + 1 : Nat) : Int) := wrap_i64 (by omega) (by omega)
    have w4 : IntKind.i64.wrap (4 + (i : Int)) = ((4 + i : Nat) : Int) := by rw [wrap_i64 (by omega) (by omega)]; omega
    have w8 : IntKind.i64.wrap (8 + (i : Int)) = ((8 + i : Nat) : Int) := by rw [wrap_i64 (by omega) (by omega)]; omega
    have w12 : IntKind.i64.wrap (12 + (i : Int)) = ((12 + i : Nat) : Int) := by rw [wrap_i64 (by omega) (by omega)]; omega
    have wa : IntKind.i64.wrap (2 * (i : Int)) = ((2 * i : Nat) : Int) := by rw [wrap_i64 (by omega) (by omega)]; omega
    have wb : IntKind.i64.wrap (((2 * i : Nat) : Int) + 1) = ((2 * i + 1 : Nat) : Int) := wrap_i64 (by omega) (by omega)
    have xa : ((2 * i : Nat) : Int) < 16 := by omega
    have xb : ((2 * i + 1 : Nat) : Int) < 16 := by omega
    have ol := ocB_len r
    have oa := ocB_get hlr (show 2 * i < 16 by omega)
    have ob := ocB_get hlr (show 2 * i + 1 < 16 by omega)
    have la : 2 * i < 16 := by omega
    have lb : 2 * i + 1 < 16 := by omega
    have sa := sN_lt r hlr (2 * i) (by omega)
    have sb := sN_lt r hlr (2 * i + 1) (by omega)
    have ta : (sN r (2 * i) : Int) < 16 := by omega
    have tb : (sN r (2 * i + 1) : Int) < 16 := by omega
    simp [tb4, hb4, wB, hSB, SO, RB, NV, ii, w4, w8, w12, wa, wb, xa, xb, ol, la, lb, hc_d0, hc_gE, oa, ob, sa, sb, ta, tb, hml, wl_gE, -Int.natCast_add, -Int.natCast_mul]
    refine callH [3] (mix_ok (colsS m r V i) i (4 + i) (8 + i) (12 + i) (g m (sN r (2 * i))) (g m (sN r (2 * i + 1))) ei (by omega) (by omega) (by omega) (by omega)) (by simp [NV, WV]) (by simp [VO]) (by simp) (by simp) (by simp) ?_
    rintro y H' ⟨rfl, rfl⟩
    refine ⟨.inl (by simp), by simp, ?_⟩
    simp [VO, wi1, -Int.natCast_add]
    exact round (i + 1) [0, 1, 2, 3, 4] (by omega) (by omega) (by simp [tb4, NV]) (by simp [hb4, hSB, SO, RB, wB, colsS, colS]) (by simp [hb4, hSB, SO, RB, wB]) (by decide) (by simp [hb4])
  · have h4 : i = 4 := by omega
    subst h4
    simp [tb4, hb4, NV]
    exact hQ _

def tb6 (r i : Nat) (e : EV) : List EV := [.v (.c (.ptr 0 0)), .any, .any, .any, .any, .any, .any, .any, .v (.c (.ptr 2 0)), .v (.c (.ptr 3 0)), .any, .any, .any, .v (.c (.ptr 4 0)), .any, .any, .any, .any, .any, .any, .any, .any, .any, .any, .any, .any, .any, .any, .any, .any, .any, .any, .any, .any, .any, .any, .any, .any, .any, .any, .any, .any, .any, .any, .any, .any, .any, .any, .any, .any, .any, .any, .any, .any, .any, .any, .any, .any, .any, .any, .any, .any, .any, .any, .any, .any, .any, .any, .any, .any, .any, .any, .any, .any, .any, .any, .any, .any, .any, NV r, .any, .any, .any, .any, .any, .any, .any, .any, .any, .any, .any, .any, .any, .any, .any, .any, .any, .any, .any, .any, .any, .any, .any, .any, .any, .any, .any, .any, .any, .any, NV i, e, .any, .any, .any, .any, .any, .any, .any, .any, .any, .any, .any, .any, .any, .any, .any, .any, .any, .any, .any, .any, .any, .any, .any, .any, .any, .any, .any, .any, .any, .any, .any, .any, .any, .any, .any, .any, .any, .any, .any, .any, .any, .any, .any, .any, .any, .any, .any, .any, .any, .any, .any]
set_option maxRecDepth 8000 in
set_option maxHeartbeats 8000000 in
theorem takeB_dias (tt nn : Nat) (w : List UInt8) (h m W : List UInt32) (r : Nat) (hlr : r < 10) (hml : m.length = 16) (er : W.length = 16) (Q : Exit → St → Go.EW.Tok → Prop) (hQ : ∀ n, Q (.exit 6) ⟨tb6 r 4 (.lit (.bool false)), ofO (hb4 tt nn w h m (diasS m r W 4) r), n⟩ .on) :
    LoopT Tryd.prog 2 (hid b_btake_97) Q ⟨tb6 r 0 .any, ofO (hb4 tt nn w h m W r), 5⟩ := by
  refine eloop (α := Nat) (fun i => i ≤ 4) (fun i => 4 - i) (fun i => tb6 r i .any) (fun i => hb4 tt nn w h m (diasS m r W i) r) 0 [0, 1, 2, 3, 4]
    (by omega) (by simp [tb6, NV]) (by simp [hb4, hSB, SO, RB, wB, diasS]) (by simp [hb4, hSB, SO, RB, wB]) (by decide) (by simp [hb4]) ?_
  intro i hi
  have ei2 : (diasS m r W i).length = 16 := by rw [diasS_len]; exact er
  by_cases hli : i < 4
  · have ii : (i : Int) < 4 := by omega
    have wi1 : IntKind.i64.wrap ((i : Int) + 1) = ((i + 1 : Nat) : Int) := wrap_i64 (by omega) (by omega)
    have wi2 : IntKind.i64.wrap ((i : Int) + 2) = ((i + 2 : Nat) : Int) := wrap_i64 (by omega) (by omega)
    have wi3 : IntKind.i64.wrap ((i : Int) + 3) = ((i + 3 : Nat) : Int) := wrap_i64 (by omega) (by omega)
    obtain ⟨a1, ha1⟩ : ∃ a, (i + 1) % 4 = a := ⟨_, rfl⟩
    obtain ⟨a2, ha2⟩ : ∃ a, (i + 2) % 4 = a := ⟨_, rfl⟩
    obtain ⟨a3, ha3⟩ : ∃ a, (i + 3) % 4 = a := ⟨_, rfl⟩
    have m1 : ((i + 1 : Nat) : Int).tmod 4 = (a1 : Int) := by rw [← ha1]; rfl
    have m2 : ((i + 2 : Nat) : Int).tmod 4 = (a2 : Int) := by rw [← ha2]; rfl
    have m3 : ((i + 3 : Nat) : Int).tmod 4 = (a3 : Int) := by rw [← ha3]; rfl
    have w4 : IntKind.i64.wrap (4 + (a1 : Int)) = ((4 + a1 : Nat) : Int) := by rw [wrap_i64 (by omega) (by omega)]; omega
    have w8 : IntKind.i64.wrap (8 + (a2 : Int)) = ((8 + a2 : Nat) : Int) := by rw [wrap_i64 (by omega) (by omega)]; omega
    have w12 : IntKind.i64.wrap (12 + (a3 : Int)) = ((12 + a3 : Nat) : Int) := by rw [wrap_i64 (by omega) (by omega)]; omega
    have wc : IntKind.i64.wrap (2 * (i : Int)) = ((2 * i : Nat) : Int) := by rw [wrap_i64 (by omega) (by omega)]; omega
    have wa : IntKind.i64.wrap (8 + ((2 * i : Nat) : Int)) = ((8 + 2 * i : Nat) : Int) := by rw [wrap_i64 (by omega) (by omega)]; omega
    have wb : IntKind.i64.wrap (9 + ((2 * i : Nat) : Int)) = ((9 + 2 * i : Nat) : Int) := by rw [wrap_i64 (by omega) (by omega)]; omega
    have xa : ((8 + 2 * i : Nat) : Int) < 16 := by omega
    have xb : ((9 + 2 * i : Nat) : Int) < 16 := by omega
    have ol := ocB_len r
    have oa := ocB_get hlr (show 8 + 2 * i < 16 by omega)
    have ob := ocB_get hlr (show 9 + 2 * i < 16 by omega)
    have la : 8 + 2 * i < 16 := by omega
    have lb : 9 + 2 * i < 16 := by omega
    have sa := sN_lt r hlr (8 + 2 * i) (by omega)
    have sb := sN_lt r hlr (9 + 2 * i) (by omega)
    have ta : (sN r (8 + 2 * i) : Int) < 16 := by omega
    have tb : (sN r (9 + 2 * i) : Int) < 16 := by omega
    simp [tb6, hb4, wB, hSB, SO, RB, NV, ii, wi1, wi2, wi3, m1, m2, m3, w4, w8, w12, wc, wa, wb, xa, xb, ol, la, lb, hc_d0, hc_gE, oa, ob, sa, sb, ta, tb, hml, wl_gE, -Int.natCast_add, -Int.natCast_mul]
    refine callH [3] (mix_ok (diasS m r W i) i (4 + a1) (8 + a2) (12 + a3) (g m (sN r (8 + 2 * i))) (g m (sN r (9 + 2 * i))) ei2 (by omega) (by omega) (by omega) (by omega)) (by simp [NV, WV]) (by simp [VO]) (by simp) (by simp) (by simp) ?_
    rintro y H' ⟨rfl, rfl⟩
    refine ⟨.inl (by simp), by simp, ?_⟩
    simp [VO, wi1, -Int.natCast_add]
    exact round (i + 1) [0, 1, 2, 3, 4] (by omega) (by omega) (by simp [tb6, NV]) (by simp [hb4, hSB, SO, RB, wB, diasS, diaS, ha1, ha2, ha3]) (by simp [hb4, hSB, SO, RB, wB]) (by decide) (by simp [hb4])
  · have h4 : i = 4 := by omega
    subst h4
    simp [tb6, hb4, NV]
    exact hQ _

def tb2 (r : Nat) (e : EV) : List EV := [.v (.c (.ptr 0 0)), .any, .any, .any, .any, .any, .any, .any, .v (.c (.ptr 2 0)), .v (.c (.ptr 3 0)), .any, .any, .any, .any, .any, .any, .any, .any, .any, .any, .any, .any, .any, .any, .any, .any, .any, .any, .any, .any, .any, .any, .any, .any, .any, .any, .any, .any, .any, .any, .any, .any, .any, .any, .any, .any, .any, .any, .any, .any, .any, .any, .any, .any, .any, .any, .any, .any, .any, .any, .any, .any, .any, .any, .any, .any, .any, .any, .any, .any, .any, .any, .any, .any, .any, .any, .any, .any, .any, NV r, e, .any, .any, .any, .any, .any, .any, .any, .any, .any, .any, .any, .any, .any, .any, .any, .any, .any, .any, .any, .any, .any, .any, .any, .any, .any, .any, .any, .any, .any, .any, .any, .any, .any, .any, .any, .any, .any, .any, .any, .any, .any, .any, .any, .any, .any, .any, .any, .any, .any, .any, .any, .any, .any, .any, .any, .any, .any, .any, .any, .any, .any, .any, .any, .any, .any, .any, .any, .any, .any, .any, .any, .any, .any, .any, .any, .any, .any, .any, .any, .any, .any, .any]
def hb2 (tt nn : Nat) (w : List UInt8) (h m v : List UInt32) : List (Option EO) := [hSB h tt nn, some (RB w), wB m, wB v]
@[simp] theorem hb2_len (tt nn : Nat) (w : List UInt8) (h m v : List UInt32) : (hb2 tt nn w h m v).length = 4 := rfl
set_option maxRecDepth 8000 in
set_option maxHeartbeats 8000000 in
theorem takeB_rnds (tt nn : Nat) (w : List UInt8) (h m v3 : List UInt32) (hml : m.length = 16) (e3 : v3.length = 16) (Q : Exit → St → Go.EW.Tok → Prop) (hQ : ∀ n, Q (.exit 2) ⟨tb2 10 (.lit (.bool false)), ofO (hb2 tt nn w h m (rndsS m v3 10)), n⟩ .on) :
    LoopT Tryd.prog 2 (hid b_btake_109) Q ⟨tb2 0 .any, ofO (hb2 tt nn w h m v3), 4⟩ := by
  refine eloop (α := Nat) (fun r => r ≤ 10) (fun r => 10 - r) (fun r => tb2 r .any) (fun r => hb2 tt nn w h m (rndsS m v3 r)) 0 [0, 1, 2, 3]
    (by omega) (by simp [tb2, NV]) (by simp [hb2, hSB, SO, RB, wB, rndsS]) (by simp [hb2, hSB, SO, RB, wB]) (by decide) (by simp [hb2]) ?_
  intro r hr
  have er : (rndsS m v3 r).length = 16 := by rw [rndsS_len]; exact e3
  by_cases hlr : r < 10
  · have ir : (r : Int) < 10 := by omega
    have wr : IntKind.i64.wrap ((r : Int) + 1) = ((r + 1 : Nat) : Int) := wrap_i64 (by omega) (by omega)
    have lr : 16 ≤ 160 - r * 16 := by omega
    have hoc := oc_eq r hlr
    simp [tb2, hb2, wB, hSB, SO, RB, NV, hlr, ir, lr, hoc, ordN_len, ocB_len r]
    obtain ⟨V, hV⟩ : ∃ V, rndsS m v3 r = V := ⟨_, rfl⟩
    rw [hV] at er
    refine loopW _ (weak_norm [0, 1, 2, 3, 100] (tb4 r 0 .any) (hb4 tt nn w h m V r) (by simp [tb4, NV]) (by simp [hb4, hSB, SO, RB, wB, hV, hoc]) (by simp [hb4, hSB, SO, RB, wB]) (by decide) (by simp [hb4])) (takeB_cols tt nn w h m V r hlr hml er _ fun n => ?_)
    simp [tb4, hb4, NV]
    obtain ⟨W, hW⟩ : ∃ W, colsS m r V 4 = W := ⟨_, rfl⟩
    have ei : W.length = 16 := by rw [← hW, colsS_len]; exact er
    refine loopW _ (weak_norm [0, 1, 2, 3, 4] (tb6 r 0 .any) (hb4 tt nn w h m W r) (by simp [tb6, NV]) (by simp [hb4, hSB, SO, RB, wB, hW]) (by simp [hb4, hSB, SO, RB, wB]) (by decide) (by simp [hb4])) (takeB_dias tt nn w h m W r hlr hml ei _ fun n => ?_)
    simp [tb6, hb4, wB, hSB, SO, RB, NV, wr, -Int.natCast_add]
    exact round (r + 1) [0, 1, 2, 3] (by omega) (by omega) (by simp [tb2, NV]) (by simp [hb2, hSB, SO, RB, wB, rndsS, hV, hW]) (by simp [hb2, hSB, SO, RB, wB]) (by decide) (by simp [hb2])
  · have h10 : r = 10 := by omega
    subst h10
    simp [tb2, hb2, NV]
    exact hQ _

def tb8 (i : Nat) (e : EV) : List EV := [.v (.c (.ptr 0 0)), .any, .any, .any, .any, .any, .any, .any, .any, .v (.c (.ptr 2 0)), .any, .any, .any, .any, .any, .any, .any, .any, .any, .any, .any, .any, .any, .any, .any, .any, .any, .any, .any, .any, .any, .any, .any, .any, .any, .any, .any, .any, .any, .any, .any, .any, .any, .any, .any, .any, .any, .any, .any, .any, .any, .any, .any, .any, .any, .any, .any, .any, .any, .any, .any, .any, .any, .any, .any, .any, .any, .any, .any, .any, .any, .any, .any, .any, .any, .any, .any, .any, .any, .any, .any, .any, .any, .any, .any, .any, .any, .any, .any, .any, .any, .any, .any, .any, .any, .any, .any, .any, .any, .any, .any, .any, .any, .any, .any, .any, .any, .any, .any, .any, .any, .any, .any, .any, .any, .any, .any, .any, .any, .any, .any, .any, .any, .any, .any, .any, .any, .any, .any, .any, .any, .any, .any, .any, .any, .any, .any, .any, .any, .any, .any, .any, .any, NV i, e, .any, .any, .any, .any, .any, .any, .any, .any, .any, .any, .any, .any, .any, .any, .any, .any, .any, .any]
set_option maxRecDepth 8000 in
set_option maxHeartbeats 8000000 in
theorem takeB_xor (tt nn : Nat) (w : List UInt8) (h V : List UInt32) (hh : h.length = 8) (er : V.length = 16) (Q : Exit → St → Go.EW.Tok → Prop) (hQ : ∀ n, Q (.exit 8) ⟨tb8 8 (.lit (.bool false)), ofO [hSB (xorS h V 8) tt nn, some (RB w), wB V], n⟩ .on) :
    LoopT Tryd.prog 2 (hid b_btake_130) Q ⟨tb8 0 .any, ofO [hSB h tt nn, some (RB w), wB V], 3⟩ := by
  refine eloop (α := Nat) (fun i => i ≤ 8) (fun i => 8 - i) (fun i => tb8 i .any) (fun i => [hSB (xorS h V i) tt nn, some (RB w), wB V]) 0 [0, 1, 2]
    (by omega) (by simp [tb8, NV]) (by simp [hSB, SO, RB, wB, xorS]) (by simp [hSB, SO, RB, wB]) (by decide) (by simp) ?_
  intro i hi
  have ei : (xorS h V i).length = 8 := by rw [xorS_len]; exact hh
  by_cases hli : i < 8
  · have ii : (i : Int) < 8 := by omega
    have ij : (i : Int) < 16 := by omega
    have xl : i ≤ 7 := by omega
    have xl2 : i ≤ 10 := by omega
    have l16 : i < 16 := by omega
    have l8 : 8 + i < 16 := by omega
    have wi1 : IntKind.i64.wrap ((i : Int) + 1) = ((i + 1 : Nat) : Int) := wrap_i64 (by omega) (by omega)
    have w8 : IntKind.i64.wrap (8 + (i : Int)) = ((8 + i : Nat) : Int) := by rw [wrap_i64 (by omega) (by omega)]; omega
    have j8 : ((8 + i : Nat) : Int) < 16 := by omega
    simp [tb8, hSB, SO, RB, wB, NV, ii, ij, xl, xl2, l16, l8, hli, wi1, w8, j8, ei, er, wl_gE, wl_put, wl_putR, wl_gER, wl_gR, wi_xor, -Int.natCast_add]
    exact round (i + 1) [0, 1, 2] (by omega) (by omega) (by simp [tb8, NV]) (by simp [hSB, SO, RB, wB, xorS]) (by simp [hSB, SO, RB, wB]) (by decide) (by simp)
  · have h8 : i = 8 := by omega
    subst h8
    simp [tb8, NV]
    exact hQ _

set_option maxRecDepth 8000 in
set_option maxHeartbeats 8000000 in
theorem takeB_ok (tt nn : Nat) (w : List UInt8) (h : List UInt32) (b : List UInt8) (t : Nat) (last : Bool) (hh : h.length = 8) (hb : b.length = 64) (ht : t < 18446744073709551616) :
    ECalls Tryd.prog 89 [.v (.c (.ptr 0 0)), BV b, .lit (.int .u64 t), .lit (.bool last)] [SO 1 h 64 tt nn, RB w] fun y H' => H' = [some (SO 1 (takeS h b t last) 64 tt nn), some (RB w)] ∧ y = .tup [] := by
  have z16 : wl (mI b 0) = List.replicate 16 (EC.fz (.lit (.int .u32 0))) := by simp [mI, upW]; rfl
  have zz : wl Z16 = List.replicate 16 (EC.fz (.lit (.int .u32 0))) := by simp [wl, Z16]; rfl
  have th : ∀ r, List.take 8 (wl h ++ r) = wl h := fun r => wl_t8 hh
  have th' : List.take 8 (wl h) = wl h := List.take_of_length_le (by simp [hh])
  have f1 := wf_flat h 16 (by omega)
  have f2 := wf_sum h 16 (by omega)
  refine ecalls k_btake ?_
  simp [c_btake, BV, SO, RB, hb, hh]
  refine loopW _ (weak_norm [0, 1, 2, 18, 34] (tb0 t last 0 .any) (hb0 tt nn w h b 0) (by simp [tb0, NV]) (by simp [hb0, hSB, SO, RB, wB, z16, zz]) (by simp [hb0, hSB, SO, RB, wB]) (by decide) (by simp [hb0])) (takeB_words tt nn w h b t last hb _ fun n => ?_)
  have hml : (mI b 16).length = 16 := upW_len _ _
  have z16l : Z16.length = 16 := rfl
  have dz : List.drop 8 (wl Z16) = wl (Z16.drop 8) := wl_drop _ _
  simp [tb0, hb0, wB, hSB, SO, RB, NV, hb, hh, th, th', f1, f2, dz, wl_app, z16l]
  have tf : List.take 8 (wl firstW) = wl firstW := List.take_of_length_le (by simp; decide)
  have ff1 := wf_flat firstW 8 (by decide)
  have ff2 := wf_sum firstW 8 (by decide)
  have fl : firstW.length = 8 := rfl
  have tk : List.take 8 (wl (h ++ List.drop 8 Z16)) = wl h := by rw [wl_take, List.take_left' hh]
  have dk : List.drop 16 (wl (h ++ List.drop 8 Z16)) = [] := List.drop_of_length_le (by simp [hh, z16l])
  obtain ⟨v0, h0⟩ : ∃ w, h ++ firstW = w := ⟨_, rfl⟩
  have e0 : v0.length = 16 := by rw [← h0, List.length_append, hh, fl]
  obtain ⟨v1, h1⟩ : ∃ w, v0.set 12 (g v0 12 ^^^ lo32 t) = w := ⟨_, rfl⟩
  have e1 : v1.length = 16 := by rw [← h1, List.length_set]; exact e0
  obtain ⟨v2, h2⟩ : ∃ w, v1.set 13 (g v1 13 ^^^ hi32 t) = w := ⟨_, rfl⟩
  have e2 : v2.length = 16 := by rw [← h2, List.length_set]; exact e1
  have hini : iniS h t last = if last then v2.set 14 (~~~ g v2 14) else v2 := by unfold iniS; simp only [h0, h1, h2]
  have p12 : ∀ x, List.take 12 (wl v0) ++ .fz (.lit (.int .u32 (wi x))) :: List.drop 13 (wl v0) = wl (v0.set 12 x) := fun x => wl_put (by omega)
  have p13 : ∀ x, List.take 13 (wl v1) ++ .fz (.lit (.int .u32 (wi x))) :: List.drop 14 (wl v1) = wl (v1.set 13 x) := fun x => wl_put (by omega)
  have p14 : ∀ x, List.take 14 (wl v2) ++ .fz (.lit (.int .u32 (wi x))) :: List.drop 15 (wl v2) = wl (v2.set 14 x) := fun x => wl_put (by omega)
  refine call0 first_ok (by simp) ?_
  rintro y H' ⟨rfl, rfl⟩
  refine ⟨.inl (by simp), le_ok rfl, ?_⟩
  simp [NV, hb, hh, tf, ff1, ff2, fl, z16l, wl_app, tk, dk, h0, e0, e1, e2, wl_g, wl_gE, wi_xor, wi_lo, wi_hi, p12, p13, h1, h2]
  obtain ⟨v3, h3⟩ : ∃ w, iniS h t last = w := ⟨_, rfl⟩
  have e3 : v3.length = 16 := by rw [← h3, hini]; split <;> simp [e2]
  obtain ⟨m, hm⟩ : ∃ m, mI b 16 = m := ⟨_, rfl⟩
  rw [hm] at hml
  have er : (rndsS m v3 10).length = 16 := by rw [rndsS_len]; exact e3
  obtain ⟨V, hV⟩ : ∃ V, rndsS m v3 10 = V := ⟨_, rfl⟩
  rw [hV] at er
  have ht2 : takeS h b t last = xorS h V 8 := by unfold takeS; rw [hm, h3, hV]
  rw [ht2]
  refine alt (fun hl => ?_) (fun hl => ?_)
  case' refine_1 =>
    have h14 : v2.set 14 (~~~ g v2 14) = v3 := by rw [← h3, hini, if_pos hl]
    simp [e2, wl_g, wl_gE, pun_x32, p14, h14]
  case' refine_2 =>
    have h14 : v2 = v3 := by rw [← h3, hini, if_neg (by simpa using hl)]
    simp [h14]
  all_goals
    refine loopW _ (weak_norm [0, 1, 3, 4] (tb2 0 .any) (hb2 tt nn w h m v3) (by simp [tb2, NV]) (by simp [hb2, hSB, SO, RB, wB, hm]) (by simp [hb2, hSB, SO, RB, wB]) (by decide) (by simp [hb2])) (takeB_rnds tt nn w h m v3 hml e3 _ fun n => ?_)
    simp [tb2, hb2, wB, hSB, SO, RB, NV]
    refine loopW _ (weak_norm [0, 1, 3] (tb8 0 .any) [hSB h tt nn, some (RB w), wB V] (by simp [tb8, NV]) (by simp [hSB, SO, RB, wB, hV]) (by simp [hSB, SO, RB, wB]) (by decide) (by simp)) (takeB_xor tt nn w h V hh er _ fun n => ?_)
    simp [tb8, wB, hSB, SO, RB, NV]
    exact fin [] (by decide) rfl rfl (by simp [objsOut, show List.range 2 = [0, 1] from rfl]) ⟨rfl, rfl⟩

end Go.Proofs.YtpilpjameifcfaaDoor

namespace Go.Proofs.YtpilpjameifcfaaDoor
open Go Go.EW
set_option linter.unusedSimpArgs false
set_option linter.unusedVariables false

def zU64 : List Value := List.replicate 64 (.int .u8 0)
def Z64 : List UInt8 := List.replicate 64 0
@[simp] theorem zU64_litc : zU64.map litc = hc Z64 := rfl
@[simp] theorem zU64_litc' : List.map (fun v => EC.fz (FV.lit v)) zU64 = hc Z64 := rfl
@[simp] theorem Z64_len : Z64.length = 64 := rfl

@[simp] def l_BWrite_1 (_ : Unit) : List EOp := [⟨0, (some 5), none, (.q (.mov (.t 0))), []⟩, ⟨1, (some 6), none, (.q (.eqp false (.t 5))), []⟩]
@[simp] def b_BWrite_2 (_ : Unit) : EB := reg0 (hid l_BWrite_1) 2
@[simp] def b_BWrite_3 (_ : Unit) : EB := .cond (.t 6) .ret .skip
@[simp] def b_BWrite_4 (_ : Unit) : EB := .seq (hid b_BWrite_2) (hid b_BWrite_3)
@[simp] def l_BWrite_6 (_ : Unit) : List EOp := [⟨6, (some 13), none, (.q (.bin .add (.t 10) (.t 12))), []⟩, ⟨7, (some 14), none, (.q (.nilc (.t 7))), []⟩, ⟨8, (some 15), none, (.q (.fad 10 (.t 14))), []⟩, ⟨9, none, none, (.sto 1 (.t 15) (.t 13)), []⟩]
@[simp] def l_BWrite_5 (_ : Unit) : List EOp := ⟨0, (some 7), none, (.q (.mov (.t 0))), []⟩ :: ⟨1, (some 8), none, (.q (.nilc (.t 7))), []⟩ :: ⟨2, (some 9), none, (.q (.fad 10 (.t 8))), []⟩ :: ⟨3, (some 10), none, (.q (.ldc (.t 9))), []⟩ :: ⟨4, (some 11), none, (.q (.mov (.t 1))), []⟩ :: ⟨5, (some 12), none, (.q (.len (.t 11))), []⟩ :: hid l_BWrite_6
@[simp] def b_BWrite_7 (_ : Unit) : EB := reg0 (hid l_BWrite_5) 10
@[simp] def l_BWrite_8 (_ : Unit) : List EOp := [⟨0, (some 16), none, (.q (.mov (.t 1))), []⟩, ⟨1, (some 17), none, (.q (.len (.t 16))), []⟩, ⟨2, (some 18), none, (.q (.bin .gtr (.t 17) (.k (.int .i64 0)))), []⟩]
@[simp] def b_BWrite_9 (_ : Unit) : EB := reg0 (hid l_BWrite_8) 3
@[simp] def b_BWrite_10 (_ : Unit) : EB := .cond (.t 18) .skip (.exit 0)
@[simp] def b_BWrite_11 (_ : Unit) : EB := .seq (hid b_BWrite_9) (hid b_BWrite_10)
@[simp] def l_BWrite_12 (_ : Unit) : List EOp := [⟨0, (some 19), none, (.q (.mov (.t 0))), []⟩, ⟨1, (some 20), none, (.q (.nilc (.t 19))), []⟩, ⟨2, (some 21), none, (.q (.fad 8 (.t 20))), []⟩, ⟨3, (some 22), none, (.q (.ldc (.t 21))), []⟩, ⟨4, (some 23), none, (.q (.len (.t 22))), []⟩, ⟨5, (some 24), none, (.q (.bin .eql (.t 23) (.k (.int .i64 64)))), []⟩]
@[simp] def b_BWrite_13 (_ : Unit) : EB := reg0 (hid l_BWrite_12) 6
@[simp] def l_BWrite_15 (_ : Unit) : List EOp := [⟨6, (some 31), none, (.q (.fad 9 (.t 30))), []⟩, ⟨7, none, none, (.sto 1 (.t 31) (.t 29)), []⟩]
@[simp] def l_BWrite_14 (_ : Unit) : List EOp := ⟨0, (some 25), none, (.q (.mov (.t 0))), []⟩ :: ⟨1, (some 26), none, (.q (.nilc (.t 25))), []⟩ :: ⟨2, (some 27), none, (.q (.fad 9 (.t 26))), []⟩ :: ⟨3, (some 28), none, (.q (.ldc (.t 27))), []⟩ :: ⟨4, (some 29), none, (.q (.bin .add (.t 28) (.k (.int .u64 64)))), []⟩ :: ⟨5, (some 30), none, (.q (.nilc (.t 25))), []⟩ :: hid l_BWrite_15
@[simp] def b_BWrite_16 (_ : Unit) : EB := reg0 (hid l_BWrite_14) 8
@[simp] def l_BWrite_19 (_ : Unit) : List EOp := [⟨12, (some 44), none, (.q (.ldc (.t 43))), []⟩, ⟨13, (some 45), none, (.call 89 [(.t 34), (.t 40), (.t 44), (.k (.bool false))]), []⟩]
@[simp] def l_BWrite_18 (_ : Unit) : List EOp := ⟨6, (some 38), none, (.q (.ldc (.t 37))), []⟩ :: ⟨7, (some 39), none, (.q (.s2a 64 1 (.t 38))), []⟩ :: ⟨8, (some 40), none, (.q (.lda 64 (.t 39))), []⟩ :: ⟨9, (some 41), none, (.q (.mov (.t 0))), []⟩ :: ⟨10, (some 42), none, (.q (.nilc (.t 41))), []⟩ :: ⟨11, (some 43), none, (.q (.fad 9 (.t 42))), []⟩ :: hid l_BWrite_19
@[simp] def l_BWrite_17 (_ : Unit) : List EOp := ⟨0, (some 32), none, (.q (.mov (.t 0))), []⟩ :: ⟨1, (some 33), none, (.q (.nilc (.t 32))), []⟩ :: ⟨2, (some 34), none, (.q (.fad 0 (.t 33))), []⟩ :: ⟨3, (some 35), none, (.q (.mov (.t 0))), []⟩ :: ⟨4, (some 36), none, (.q (.nilc (.t 35))), []⟩ :: ⟨5, (some 37), none, (.q (.fad 8 (.t 36))), []⟩ :: hid l_BWrite_18
@[simp] def b_BWrite_20 (_ : Unit) : EB := reg0 (hid l_BWrite_17) 14
@[simp] def l_BWrite_22 (_ : Unit) : List EOp := [⟨6, (some 52), none, (.q (.nilc (.t 46))), []⟩, ⟨7, (some 53), none, (.q (.fad 8 (.t 52))), []⟩, ⟨8, none, none, (.fz (.sto 1 (.t 53) (.t 51))), []⟩]
@[simp] def l_BWrite_21 (_ : Unit) : List EOp := ⟨0, (some 46), none, (.q (.mov (.t 0))), []⟩ :: ⟨1, (some 47), none, (.q (.mov (.t 0))), []⟩ :: ⟨2, (some 48), none, (.q (.nilc (.t 47))), []⟩ :: ⟨3, (some 49), none, (.q (.fad 8 (.t 48))), []⟩ :: ⟨4, (some 50), none, (.q (.ldc (.t 49))), []⟩ :: ⟨5, (some 51), none, (.q (.ssl 1 (.t 50) none (some (.k (.int .i64 0))))), []⟩ :: hid l_BWrite_22
@[simp] def b_BWrite_23 (_ : Unit) : EB := reg0 (hid l_BWrite_21) 9
@[simp] def b_BWrite_24 (_ : Unit) : EB := .seq (hid b_BWrite_20) (hid b_BWrite_23)
@[simp] def b_BWrite_25 (_ : Unit) : EB := .seq (hid b_BWrite_16) (hid b_BWrite_24)
@[simp] def b_BWrite_26 (_ : Unit) : EB := .cond (.t 24) (hid b_BWrite_25) .skip
@[simp] def b_BWrite_27 (_ : Unit) : EB := .seq (hid b_BWrite_13) (hid b_BWrite_26)
@[simp] def l_BWrite_29 (_ : Unit) : List EOp := [⟨6, (some 60), none, (.q (.len (.t 59))), []⟩, ⟨7, (some 61), none, (.q (.bin .sub (.k (.int .i64 64)) (.t 60))), []⟩, ⟨8, (some 62), none, (.q (.minmax false [(.t 55), (.t 61)])), []⟩, ⟨9, (some 4), none, (.q (.mov (.t 62))), []⟩]
@[simp] def l_BWrite_28 (_ : Unit) : List EOp := ⟨0, (some 54), none, (.q (.mov (.t 1))), []⟩ :: ⟨1, (some 55), none, (.q (.len (.t 54))), []⟩ :: ⟨2, (some 56), none, (.q (.mov (.t 0))), []⟩ :: ⟨3, (some 57), none, (.q (.nilc (.t 56))), []⟩ :: ⟨4, (some 58), none, (.q (.fad 8 (.t 57))), []⟩ :: ⟨5, (some 59), none, (.q (.ldc (.t 58))), []⟩ :: hid l_BWrite_29
@[simp] def b_BWrite_30 (_ : Unit) : EB := reg0 (hid l_BWrite_28) 10
@[simp] def l_BWrite_32 (_ : Unit) : List EOp := [⟨6, (some 69), none, (.q (.mov (.t 4))), []⟩, ⟨7, (some 70), none, (.q (.ssl 1 (.t 68) none (some (.t 69)))), []⟩, ⟨8, (some 71), none, (.app 5 1 1 (.t 67) (.t 70)), [0]⟩, ⟨9, (some 72), none, (.q (.nilc (.t 63))), []⟩, ⟨10, (some 73), none, (.q (.fad 8 (.t 72))), []⟩, ⟨11, none, none, (.fz (.sto 1 (.t 73) (.t 71))), []⟩]
@[simp] def l_BWrite_31 (_ : Unit) : List EOp := ⟨0, (some 63), none, (.q (.mov (.t 0))), []⟩ :: ⟨1, (some 64), none, (.q (.mov (.t 0))), []⟩ :: ⟨2, (some 65), none, (.q (.nilc (.t 64))), []⟩ :: ⟨3, (some 66), none, (.q (.fad 8 (.t 65))), []⟩ :: ⟨4, (some 67), none, (.q (.ldc (.t 66))), []⟩ :: ⟨5, (some 68), none, (.q (.mov (.t 1))), []⟩ :: hid l_BWrite_32
@[simp] def b_BWrite_33 (_ : Unit) : EB := reg1 (hid l_BWrite_31) 12
@[simp] def l_BWrite_34 (_ : Unit) : List EOp := [⟨0, (some 74), none, (.q (.mov (.t 1))), []⟩, ⟨1, (some 75), none, (.q (.mov (.t 4))), []⟩, ⟨2, (some 76), none, (.q (.ssl 1 (.t 74) (some (.t 75)) none)), []⟩, ⟨3, (some 1), none, (.q (.mov (.t 76))), []⟩]
@[simp] def b_BWrite_35 (_ : Unit) : EB := reg0 (hid l_BWrite_34) 4
@[simp] def b_BWrite_36 (_ : Unit) : EB := .seq (hid b_BWrite_33) (hid b_BWrite_35)
@[simp] def b_BWrite_37 (_ : Unit) : EB := .seq (hid b_BWrite_30) (hid b_BWrite_36)
@[simp] def b_BWrite_38 (_ : Unit) : EB := .seq (hid b_BWrite_27) (hid b_BWrite_37)
@[simp] def b_BWrite_39 (_ : Unit) : EB := .block 1 (hid b_BWrite_38)
@[simp] def b_BWrite_40 (_ : Unit) : EB := .seq (hid b_BWrite_11) (hid b_BWrite_39)
@[simp] def b_BWrite_41 (_ : Unit) : EB := .loop (hid b_BWrite_40)
@[simp] def b_BWrite_42 (_ : Unit) : EB := .block 0 (hid b_BWrite_41)
@[simp] def b_BWrite_43 (_ : Unit) : EB := .seq (hid b_BWrite_7) (hid b_BWrite_42)
@[simp] def b_BWrite_44 (_ : Unit) : EB := .seq (hid b_BWrite_4) (hid b_BWrite_43)
def c_BWrite : EB × List QOp × Nat := ((hid b_BWrite_44), [], 77)
theorem k_BWrite : cfun Tryd.prog 81 = some c_BWrite := by kernel_rfl

@[simp] def l_BSumM_1 (_ : Unit) : List EOp := [⟨0, (some 2), none, (.q (.alloc 28 zU8)), []⟩]
@[simp] def b_BSumM_2 (_ : Unit) : EB := reg0 (hid l_BSumM_1) 1
@[simp] def l_BSumM_3 (_ : Unit) : List EOp := [⟨0, (some 3), none, (.q (.alloc 28 zU8)), []⟩]
@[simp] def b_BSumM_4 (_ : Unit) : EB := reg0 (hid l_BSumM_3) 1
@[simp] def l_BSumM_5 (_ : Unit) : List EOp := [⟨0, (some 7), none, (.q (.mov (.t 0))), []⟩, ⟨1, (some 8), none, (.q (.eqp false (.t 7))), []⟩]
@[simp] def b_BSumM_6 (_ : Unit) : EB := reg0 (hid l_BSumM_5) 2
@[simp] def l_BSumM_7 (_ : Unit) : List EOp := [⟨0, (some 9), none, (.q (.lda 32 (.t 3))), []⟩, ⟨1, none, none, (.sto 32 (.t 2) (.t 9)), []⟩]
@[simp] def b_BSumM_8 (_ : Unit) : EB := reg0 (hid l_BSumM_7) 2
@[simp] def b_BSumM_9 (_ : Unit) : EB := .seq (hid b_BSumM_8) .ret
@[simp] def b_BSumM_10 (_ : Unit) : EB := .cond (.t 8) (hid b_BSumM_9) .skip
@[simp] def b_BSumM_11 (_ : Unit) : EB := .seq (hid b_BSumM_6) (hid b_BSumM_10)
@[simp] def l_BSumM_12 (_ : Unit) : List EOp := [⟨0, (some 4), none, (.q (.alloc 174 zU64)), []⟩]
@[simp] def b_BSumM_13 (_ : Unit) : EB := reg0 (hid l_BSumM_12) 1
@[simp] def l_BSumM_14 (_ : Unit) : List EOp := [⟨0, (some 10), none, (.q (.sar 64 (.t 4) none none)), []⟩, ⟨1, (some 11), none, (.q (.mov (.t 0))), []⟩, ⟨2, (some 12), none, (.q (.nilc (.t 11))), []⟩, ⟨3, (some 13), none, (.q (.fad 8 (.t 12))), []⟩, ⟨4, (some 14), none, (.q (.ldc (.t 13))), []⟩, ⟨5, (some 15), none, (.cpy 1 (.t 10) (.t 14)), []⟩]
@[simp] def b_BSumM_15 (_ : Unit) : EB := reg0 (hid l_BSumM_14) 6
@[simp] def l_BSumM_16 (_ : Unit) : List EOp := [⟨0, (some 16), none, (.q (.mov (.t 0))), []⟩, ⟨1, (some 17), none, (.q (.nilc (.t 16))), []⟩, ⟨2, (some 18), none, (.q (.fad 0 (.t 17))), []⟩, ⟨3, (some 19), none, (.q (.lda 8 (.t 18))), []⟩, ⟨4, (some 5), none, (.q (.alloc 155 [(.int .u32 0), (.int .u32 0), (.int .u32 0), (.int .u32 0), (.int .u32 0), (.int .u32 0), (.int .u32 0), (.int .u32 0)])), []⟩, ⟨5, none, none, (.sto 8 (.t 5) (.t 19)), []⟩]
@[simp] def b_BSumM_17 (_ : Unit) : EB := reg0 (hid l_BSumM_16) 6
@[simp] def l_BSumM_20 (_ : Unit) : List EOp := [⟨12, (some 32), none, (.call 89 [(.t 5), (.t 20), (.t 31), (.k (.bool true))]), []⟩]
@[simp] def l_BSumM_19 (_ : Unit) : List EOp := ⟨6, (some 26), none, (.q (.nilc (.t 25))), []⟩ :: ⟨7, (some 27), none, (.q (.fad 8 (.t 26))), []⟩ :: ⟨8, (some 28), none, (.q (.ldc (.t 27))), []⟩ :: ⟨9, (some 29), none, (.q (.len (.t 28))), []⟩ :: ⟨10, (some 30), none, (.q (.cnv .u64 (.t 29))), []⟩ :: ⟨11, (some 31), none, (.q (.bin .add (.t 24) (.t 30))), []⟩ :: hid l_BSumM_20
@[simp] def l_BSumM_18 (_ : Unit) : List EOp := ⟨0, (some 20), none, (.q (.lda 64 (.t 4))), []⟩ :: ⟨1, (some 21), none, (.q (.mov (.t 0))), []⟩ :: ⟨2, (some 22), none, (.q (.nilc (.t 21))), []⟩ :: ⟨3, (some 23), none, (.q (.fad 9 (.t 22))), []⟩ :: ⟨4, (some 24), none, (.q (.ldc (.t 23))), []⟩ :: ⟨5, (some 25), none, (.q (.mov (.t 0))), []⟩ :: hid l_BSumM_19
@[simp] def b_BSumM_21 (_ : Unit) : EB := reg0 (hid l_BSumM_18) 13
@[simp] def l_BSumM_22 (_ : Unit) : List EOp := [⟨0, (some 33), none, (.q (.mov (.k (.int .i64 0)))), []⟩]
@[simp] def b_BSumM_23 (_ : Unit) : EB := reg0 (hid l_BSumM_22) 1
@[simp] def l_BSumM_24 (_ : Unit) : List EOp := [⟨0, (some 34), none, (.q (.bin .lss (.t 33) (.k (.int .i64 32)))), []⟩]
@[simp] def b_BSumM_25 (_ : Unit) : EB := reg0 (hid l_BSumM_24) 1
@[simp] def b_BSumM_26 (_ : Unit) : EB := .cond (.t 34) .skip (.exit 0)
@[simp] def l_BSumM_27 (_ : Unit) : List EOp := [⟨0, (some 35), none, (.q (.mov (.t 33))), []⟩, ⟨1, (some 6), none, (.q (.mov (.t 35))), []⟩]
@[simp] def b_BSumM_28 (_ : Unit) : EB := reg0 (hid l_BSumM_27) 2
@[simp] def l_BSumM_30 (_ : Unit) : List EOp := [⟨6, (some 42), none, (.q (.bin .rem (.t 41) (.k (.int .i64 4)))), []⟩, ⟨7, (some 43), none, (.q (.bin .mul (.k (.int .i64 8)) (.t 42))), []⟩, ⟨8, (some 44), none, (.q (.bin .shr (.t 40) (.t 43))), []⟩, ⟨9, (some 45), none, (.q (.cnv .u8 (.t 44))), []⟩, ⟨10, (some 46), none, (.q (.iad 32 1 (.t 3) (.t 36))), []⟩, ⟨11, none, none, (.sto 1 (.t 46) (.t 45)), []⟩]
@[simp] def l_BSumM_29 (_ : Unit) : List EOp := ⟨0, (some 36), none, (.q (.mov (.t 6))), []⟩ :: ⟨1, (some 37), none, (.q (.mov (.t 6))), []⟩ :: ⟨2, (some 38), none, (.q (.bin .quo (.t 37) (.k (.int .i64 4)))), []⟩ :: ⟨3, (some 39), none, (.q (.iad 8 1 (.t 5) (.t 38))), []⟩ :: ⟨4, (some 40), none, (.q (.ldc (.t 39))), []⟩ :: ⟨5, (some 41), none, (.q (.mov (.t 6))), []⟩ :: hid l_BSumM_30
@[simp] def b_BSumM_31 (_ : Unit) : EB := reg0 (hid l_BSumM_29) 12
@[simp] def b_BSumM_32 (_ : Unit) : EB := .seq (hid b_BSumM_28) (hid b_BSumM_31)
@[simp] def b_BSumM_33 (_ : Unit) : EB := .block 1 (hid b_BSumM_32)
@[simp] def l_BSumM_34 (_ : Unit) : List EOp := [⟨0, (some 47), none, (.q (.bin .add (.t 33) (.k (.int .i64 1)))), []⟩, ⟨1, (some 33), none, (.q (.mov (.t 47))), []⟩]
@[simp] def b_BSumM_35 (_ : Unit) : EB := reg0 (hid l_BSumM_34) 2
@[simp] def b_BSumM_36 (_ : Unit) : EB := .seq (hid b_BSumM_33) (hid b_BSumM_35)
@[simp] def b_BSumM_37 (_ : Unit) : EB := .seq (hid b_BSumM_26) (hid b_BSumM_36)
@[simp] def b_BSumM_38 (_ : Unit) : EB := .seq (hid b_BSumM_25) (hid b_BSumM_37)
@[simp] def b_BSumM_39 (_ : Unit) : EB := .loop (hid b_BSumM_38)
@[simp] def b_BSumM_40 (_ : Unit) : EB := .block 0 (hid b_BSumM_39)
@[simp] def b_BSumM_41 (_ : Unit) : EB := .seq (hid b_BSumM_23) (hid b_BSumM_40)
@[simp] def l_BSumM_42 (_ : Unit) : List EOp := [⟨0, (some 48), none, (.q (.lda 32 (.t 3))), []⟩, ⟨1, none, none, (.sto 32 (.t 2) (.t 48)), []⟩]
@[simp] def b_BSumM_43 (_ : Unit) : EB := reg0 (hid l_BSumM_42) 2
@[simp] def b_BSumM_44 (_ : Unit) : EB := .seq (hid b_BSumM_43) .ret
@[simp] def b_BSumM_45 (_ : Unit) : EB := .seq (hid b_BSumM_41) (hid b_BSumM_44)
@[simp] def b_BSumM_46 (_ : Unit) : EB := .seq (hid b_BSumM_21) (hid b_BSumM_45)
@[simp] def b_BSumM_47 (_ : Unit) : EB := .seq (hid b_BSumM_17) (hid b_BSumM_46)
@[simp] def b_BSumM_48 (_ : Unit) : EB := .seq (hid b_BSumM_15) (hid b_BSumM_47)
@[simp] def b_BSumM_49 (_ : Unit) : EB := .seq (hid b_BSumM_13) (hid b_BSumM_48)
@[simp] def b_BSumM_50 (_ : Unit) : EB := .seq (hid b_BSumM_11) (hid b_BSumM_49)
@[simp] def b_BSumM_51 (_ : Unit) : EB := .seq (hid b_BSumM_4) (hid b_BSumM_50)
@[simp] def b_BSumM_52 (_ : Unit) : EB := .seq (hid b_BSumM_2) (hid b_BSumM_51)
def c_BSumM : EB × List QOp × Nat := ((hid b_BSumM_52), [(.lda 32 (.t 2))], 49)
theorem k_BSumM : cfun Tryd.prog 82 = some c_BSumM := by kernel_rfl

@[simp] def l_BSum_1 (_ : Unit) : List EOp := [⟨0, (some 2), none, (.q (.alloc 28 zU8)), []⟩]
@[simp] def b_BSum_2 (_ : Unit) : EB := reg0 (hid l_BSum_1) 1
@[simp] def l_BSum_3 (_ : Unit) : List EOp := [⟨0, (some 4), none, (.call 80 []), []⟩, ⟨1, (some 5), none, (.q (.build [(.int .u32 0), (.int .u32 0), (.int .u32 0), (.int .u32 0), (.int .u32 0), (.int .u32 0), (.int .u32 0), (.int .u32 0), (.slice none 0 0), (.int .u64 0), (.int .i64 0)] [(0, 8, (.t 4))])), []⟩, ⟨2, (some 6), none, (.q (.box 158 (.t 5))), []⟩, ⟨3, (some 3), none, (.q (.mov (.t 6))), []⟩]
@[simp] def b_BSum_4 (_ : Unit) : EB := reg0 (hid l_BSum_3) 4
@[simp] def l_BSum_6 (_ : Unit) : List EOp := [⟨6, (some 13), none, (.q (.nilc (.t 7))), []⟩, ⟨7, (some 14), none, (.q (.fad 0 (.t 13))), []⟩, ⟨8, (some 15), none, (.q (.iad 8 1 (.t 14) (.k (.int .i64 0)))), []⟩, ⟨9, none, none, (.sto 1 (.t 15) (.t 12)), []⟩]
@[simp] def l_BSum_5 (_ : Unit) : List EOp := ⟨0, (some 7), none, (.q (.mov (.t 3))), []⟩ :: ⟨1, (some 8), none, (.q (.nilc (.t 7))), []⟩ :: ⟨2, (some 9), none, (.q (.fad 0 (.t 8))), []⟩ :: ⟨3, (some 10), none, (.q (.iad 8 1 (.t 9) (.k (.int .i64 0)))), []⟩ :: ⟨4, (some 11), none, (.q (.ldc (.t 10))), []⟩ :: ⟨5, (some 12), none, (.q (.bin .xor (.t 11) (.k (.int .u32 16842784)))), []⟩ :: hid l_BSum_6
@[simp] def b_BSum_7 (_ : Unit) : EB := reg0 (hid l_BSum_5) 10
@[simp] def l_BSum_8 (_ : Unit) : List EOp := [⟨0, (some 16), none, (.q (.mov (.t 3))), []⟩, ⟨1, (some 17), none, (.q (.mov (.t 0))), []⟩, ⟨2, (some 18), none, (.call 81 [(.t 16), (.t 17)]), []⟩]
@[simp] def b_BSum_9 (_ : Unit) : EB := reg0 (hid l_BSum_8) 3
@[simp] def l_BSum_10 (_ : Unit) : List EOp := [⟨0, (some 19), none, (.q (.mov (.t 3))), []⟩, ⟨1, (some 20), none, (.call 82 [(.t 19)]), []⟩, ⟨2, none, none, (.sto 32 (.t 2) (.t 20)), []⟩]
@[simp] def b_BSum_11 (_ : Unit) : EB := reg0 (hid l_BSum_10) 3
@[simp] def b_BSum_12 (_ : Unit) : EB := .seq (hid b_BSum_11) .ret
@[simp] def b_BSum_13 (_ : Unit) : EB := .seq (hid b_BSum_9) (hid b_BSum_12)
@[simp] def b_BSum_14 (_ : Unit) : EB := .seq (hid b_BSum_7) (hid b_BSum_13)
@[simp] def b_BSum_15 (_ : Unit) : EB := .seq (hid b_BSum_4) (hid b_BSum_14)
@[simp] def b_BSum_16 (_ : Unit) : EB := .seq (hid b_BSum_2) (hid b_BSum_15)
def c_BSum : EB × List QOp × Nat := ((hid b_BSum_16), [(.lda 32 (.t 2))], 21)
theorem k_BSum : cfun Tryd.prog 55 = some c_BSum := by kernel_rfl


/-! ### bytes written on -/
/-- The words, what waits, how many were taken in, what is still to come. -/
abbrev Wst := List UInt32 × List UInt8 × Nat × List UInt8
def wst1 (s : Wst) : Wst := if s.2.1.length = 64 then (takeS s.1 s.2.1 (s.2.2.1 + 64) false, [], s.2.2.1 + 64, s.2.2.2) else s
def wst2 (s : Wst) : Wst := (s.1, s.2.1 ++ s.2.2.2.take (min s.2.2.2.length (64 - s.2.1.length)), s.2.2.1, s.2.2.2.drop (min s.2.2.2.length (64 - s.2.1.length)))
def wstep (s : Wst) : Wst := wst2 (wst1 s)
def wrun : Nat → Wst → Wst
  | 0, s => s
  | k + 1, s => if s.2.2.2 = [] then s else wrun k (wstep s)
/-- Behind all. -/
def wall (s : Wst) : Wst := wrun s.2.2.2.length s
theorem takeS_len (h : List UInt32) (b : List UInt8) (t : Nat) (last : Bool) : (takeS h b t last).length = h.length := xorS_len _ _ _
structure Wok' (N : Nat) (s : Wst) : Prop where
  h : s.1.length = 8
  w : s.2.1.length ≤ 64
  n : s.2.1.length + s.2.2.1 + s.2.2.2.length = N
theorem wst1_ok {N : Nat} {s : Wst} (k : Wok' N s) : Wok' N (wst1 s) := by
  obtain ⟨h, w, t, r⟩ := s
  obtain ⟨k1, k2, k3⟩ := k
  unfold wst1
  dsimp only at *
  split
  · refine ⟨?_, ?_, ?_⟩
    · dsimp only; rw [takeS_len]; exact k1
    · simp
    · simp; omega
  · exact ⟨k1, k2, k3⟩
theorem wst1_lt {N : Nat} {s : Wst} (k : Wok' N s) : (wst1 s).2.1.length < 64 ∧ (wst1 s).2.2.2 = s.2.2.2 := by
  obtain ⟨h, w, t, r⟩ := s
  obtain ⟨k1, k2, k3⟩ := k
  unfold wst1
  dsimp only at *
  split
  · simp
  · exact ⟨by simp only; omega, rfl⟩
theorem wst2_ok {N : Nat} {s : Wst} (k : Wok' N s) : Wok' N (wst2 s) := by
  obtain ⟨h, w, t, r⟩ := s
  obtain ⟨k1, k2, k3⟩ := k
  unfold wst2
  dsimp only at *
  refine ⟨k1, ?_, ?_⟩
  · simp; omega
  · simp; omega
theorem wstep_ok {N : Nat} {s : Wst} (k : Wok' N s) : Wok' N (wstep s) := wst2_ok (wst1_ok k)
theorem wstep_lt {N : Nat} {s : Wst} (k : Wok' N s) (hr : s.2.2.2 ≠ []) : (wstep s).2.2.2.length < s.2.2.2.length := by
  have h1 := wst1_lt k
  have hp := List.length_pos_iff.2 hr
  unfold wstep wst2
  dsimp only
  rw [List.length_drop, h1.2]
  omega
theorem wrun_fuel {N : Nat} : ∀ (k j : Nat) {s : Wst}, Wok' N s → s.2.2.2.length ≤ k → s.2.2.2.length ≤ j → wrun k s = wrun j s
  | 0, 0, _, _, _, _ => rfl
  | 0, j + 1, s, _, h, _ => by
    have : s.2.2.2 = [] := List.eq_nil_of_length_eq_zero (by omega)
    simp [wrun, this]
  | k + 1, 0, s, _, _, h => by
    have : s.2.2.2 = [] := List.eq_nil_of_length_eq_zero (by omega)
    simp [wrun, this]
  | k + 1, j + 1, s, o, h1, h2 => by
    unfold wrun
    by_cases e : s.2.2.2 = []
    · simp [e]
    · rw [if_neg e, if_neg e]
      have := wstep_lt o e
      exact wrun_fuel k j (wstep_ok o) (by omega) (by omega)
theorem wall_nil {s : Wst} (h : s.2.2.2 = []) : wall s = s := by
  unfold wall
  rw [h]
  rfl
theorem wall_step {N : Nat} {s : Wst} (o : Wok' N s) (h : s.2.2.2 ≠ []) : wall s = wall (wstep s) := by
  have hp := List.length_pos_iff.2 h
  have hl := wstep_lt o h
  unfold wall
  obtain ⟨k, hk⟩ : ∃ k, s.2.2.2.length = k + 1 := ⟨_, (Nat.succ_pred_eq_of_pos hp).symm⟩
  rw [hk]
  conv => lhs; unfold wrun
  rw [if_neg h]
  exact wrun_fuel k _ (wstep_ok o) (by omega) (Nat.le_refl _)
theorem wall_ok {N : Nat} : ∀ (k : Nat) {s : Wst}, Wok' N s → s.2.2.2.length ≤ k → Wok' N (wall s) ∧ (wall s).2.2.2 = []
  | 0, s, o, h => by
    have : s.2.2.2 = [] := List.eq_nil_of_length_eq_zero (by omega)
    rw [wall_nil this]
    exact ⟨o, this⟩
  | k + 1, s, o, h => by
    by_cases e : s.2.2.2 = []
    · rw [wall_nil e]; exact ⟨o, e⟩
    · rw [wall_step o e]
      have := wstep_lt o e
      exact wall_ok k (wstep_ok o) (by omega)

theorem hc_bsv (l : List UInt8) : (bsv l).flatten.map EC.fz = hc l := by
  induction l with
  | nil => rfl
  | cons b r ih => simp only [bsv, List.map_cons, List.flatten_cons, cb, hc] at *; simp [ih]
theorem hc_tk {l : List UInt8} {n : Nat} (h : l.length ≤ n) : (hc l).take n = hc l := List.take_of_length_le (by rw [hc_len]; exact h)
theorem u64_nat {n : Nat} (h : n < 18446744073709551616) : IntKind.u64.wrap (n : Int) = (n : Int) := by rw [wrap_u64 (by omega) (by omega)]
theorem put10 {v : List UInt32} (h : v.length = 8) (x y z u : EC) : List.take 10 (wl v ++ [x, y, z]) ++ u :: List.drop 11 (wl v ++ [x, y, z]) = wl v ++ [x, y, u] := by
  have e : (wl v).length = 8 := by simpa using h
  rw [List.take_append, List.drop_append, e, List.take_of_length_le (by omega), List.drop_of_length_le (by omega)]
  simp
theorem put9 {v : List UInt32} (h : v.length = 8) (x y z u : EC) : List.take 9 (wl v ++ [x, y, z]) ++ u :: List.drop 10 (wl v ++ [x, y, z]) = wl v ++ [x, u, z] := by
  have e : (wl v).length = 8 := by simpa using h
  rw [List.take_append, List.drop_append, e, List.take_of_length_le (by omega), List.drop_of_length_le (by omega)]
  simp
theorem put8 {v : List UInt32} (h : v.length = 8) (x y z u : EC) : List.take 8 (wl v ++ [x, y, z]) ++ u :: List.drop 9 (wl v ++ [x, y, z]) = wl v ++ [u, y, z] := by
  have e : (wl v).length = 8 := by simpa using h
  rw [List.take_append, List.drop_append, e, List.take_of_length_le (by omega), List.drop_of_length_le (by omega)]
  simp

theorem drop9 {v : List UInt32} (h : v.length = 8) (x y z : EC) : List.drop 9 (wl v ++ [x, y, z]) = [y, z] := by
  have e : (wl v).length = 8 := by simpa using h
  rw [List.drop_append, e, List.drop_of_length_le (by omega)]
  rfl
theorem bsv_0 {w : List UInt8} (h : w.length = 64) : ∃ c, ∀ h', (bsv w)[0]'h' = cb c := by
  cases w with
  | nil => simp at h
  | cons c r => exact ⟨c, fun _ => rfl⟩
theorem i64_min (a b : Nat) : (if a < b then (a : Int) else (b : Int)) = ((min b a : Nat) : Int) := by split <;> omega

set_option maxRecDepth 8000 in
set_option maxHeartbeats 4000000 in
theorem Write_ok (h : List UInt32) (w : List UInt8) (t n : Nat) (b : List UInt8) (o : Wok' (w.length + t + b.length) (h, w, t, b)) (hb : w.length + t + b.length ≤ 1000000000) (hn : n ≤ 1000000000) :
    ECalls Tryd.prog 81 [.v (.c (.ptr 0 0)), Bs b] [SO 1 h w.length t n, RB w] fun y H' => H' = [some (SO 2 (wall (h, w, t, b)).1 (wall (h, w, t, b)).2.1.length (wall (h, w, t, b)).2.2.1 (n + b.length)), none, some (RB (wall (h, w, t, b)).2.1)] ∧ y = .tup [] := by
  obtain ⟨A, hA⟩ : ∃ A, wall (h, w, t, b) = A := ⟨_, rfl⟩
  obtain ⟨N, hN⟩ : ∃ N, n + b.length = N := ⟨_, rfl⟩
  obtain ⟨M, hM⟩ : ∃ M, w.length + t + b.length = M := ⟨_, rfl⟩
  rw [hA, hN]
  rw [hM] at o hb
  have h8 : h.length = 8 := o.h
  have wn : IntKind.i64.wrap ((n : Int) + (b.length : Int)) = (N : Int) := by rw [wrap_i64 (by omega) (by omega)]; omega
  refine ecalls k_BWrite ?_
  simp [c_BWrite, SO, RB, Bs, NV, h8, wn]
  refine eloop (α := Wst) (fun a => Wok' M a ∧ wall a = A) (fun a => a.2.2.2.length)
    (fun a => [.v (.c (.ptr 0 0)), Bs a.2.2.2, .any, .any, .any, .any, .any, .any, .any, .any, .any, .any, .any, .any, .any, .any, .any, .any, .any, .any, .any, .any, .any, .any, .any, .any, .any, .any, .any, .any, .any, .any, .any, .any, .any, .any, .any, .any, .any, .any, .any, .any, .any, .any, .any, .any, .any, .any, .any, .any, .any, .any, .any, .any, .any, .any, .any, .any, .any, .any, .any, .any, .any, .any, .any, .any, .any, .any, .any, .any, .any, .any, .any, .any, .any, .any, .any]) (fun a => [some (SO 2 a.1 a.2.1.length a.2.2.1 N), none, some (RB a.2.1)]) (h, w, t, b) [0, 1, 1]
    ⟨o, hA⟩ (by simp [Bs]) (by simp [SO, RB, put10 h8]) (by simp) (by decide) (by simp) ?_
  clear o hA wn hn hN h8 hM
  clear h w t b n
  rintro ⟨h, w, t, b⟩ ⟨o, hA⟩
  obtain ⟨h8, hw, hs⟩ := id o
  dsimp only at h8 hw hs
  simp [SO, RB, Bs, NV, h8]
  refine alt (fun hp => ?_) (fun hp => ?_)
  · have hne : (h, w, t, b).2.2.2 ≠ [] := by rintro e; simp at e; subst e; simp at hp
    have o2 := wstep_ok o
    have hlt := wstep_lt o hne
    have hA2 := (wall_step o hne).symm.trans hA
    simp [h8]
    refine alt (fun hl => ?_) (fun hl => ?_)
    · have hl' : w.length = 64 := by omega
      obtain ⟨c, hc0⟩ := bsv_0 hl'
      have wt : IntKind.u64.wrap ((t : Int) + 64) = ((t + 64 : Nat) : Int) := by rw [show (t : Int) + 64 = ((t + 64 : Nat) : Int) by omega]; exact u64_nat (by omega)
      have hcl : (hc w).length = 64 := by rw [hc_len]; exact hl'
      have hct : List.take 64 (hc w) = hc w := hc_tk (by omega)
      have m64 : (if (64 : Int) < (b.length : Int) then (64 : Int) else (b.length : Int)) = ((min b.length 64 : Nat) : Int) := by split <;> omega
      obtain ⟨k, hk⟩ : ∃ k, min b.length 64 = k := ⟨_, rfl⟩
      rw [hk] at m64
      have hs1 : wstep (h, w, t, b) = (takeS h w (t + 64) false, b.take k, t + 64, b.drop k) := by simp [wstep, wst1, wst2, hl', hk]
      rw [hs1] at o2 hlt hA2
      obtain ⟨T2, hT⟩ : ∃ T2, takeS h w (t + 64) false = T2 := ⟨_, rfl⟩
      rw [hT] at o2 hlt hA2
      have h82 : T2.length = 8 := o2.h
      simp [h8, hl', hc0, cb, wt, put9 h8, hcl, hct, -Int.natCast_add]
      refine callH [0, 2] (takeB_ok (t + 64) N w h w (t + 64) false h8 hl' (by omega)) (by simp [BV]) (by simp [SO, RB, hl']) (by simp) (by simp) (by simp) ?_
      rintro y H' ⟨rfl, rfl⟩
      refine ⟨.inl (by simp), by simp, ?_⟩
      rw [hT]
      have w64 : IntKind.i64.wrap 64 = 64 := by decide +kernel
      have hkb : k ≤ b.length := by omega
      have hk2 : min k b.length = k := by omega
      simp [SO, RB, h82, hl', w64, m64, hkb, hk2, put8 h82, drop9 h82, -Int.natCast_add]
      exact ⟨by omega, round (T2, b.take k, t + 64, b.drop k) [0, 1, 931] ⟨o2, hA2⟩ hlt (by simp) (by simp [hk2]) (by simp) (by decide) (by simp)⟩
    · have hl' : ¬ w.length = 64 := by omega
      have w64 : IntKind.i64.wrap (64 - (w.length : Int)) = ((64 - w.length : Nat) : Int) := by rw [wrap_i64 (by omega) (by omega)]; omega
      obtain ⟨k, hk⟩ : ∃ k, min b.length (64 - w.length) = k := ⟨_, rfl⟩
      have hm := i64_min (64 - w.length) b.length
      rw [hk] at hm
      have hs1 : wstep (h, w, t, b) = (h, w ++ b.take k, t, b.drop k) := by simp [wstep, wst1, wst2, hl', hk]
      rw [hs1] at o2 hlt hA2
      have hkb : k ≤ b.length := by omega
      have hk2 : min k b.length = k := by omega
      simp [h8, hl, w64, hm, hkb, hk2, put8 h8, -Int.natCast_add]
      refine ⟨by omega, ?_⟩
      exact round (h, w ++ b.take k, t, b.drop k) [0, 1, 435] ⟨o2, hA2⟩ hlt (by simp) (by simp [hk2, drop9 h8]) (by simp) (by decide) (by simp)
  · have : b = [] := List.eq_nil_of_length_eq_zero (by omega)
    subst this
    rw [wall_nil rfl] at hA
    subst hA
    simp [SO, RB]
    exact fin [2] (by decide) rfl rfl (by simp [objsOut, show List.range 2 = [0, 1] from rfl]) ⟨rfl, rfl⟩

/-! ### the sum of what was written -/
def padS (w : List UInt8) : List UInt8 := w ++ List.replicate (64 - w.length) 0
theorem padS_len {w : List UInt8} (h : w.length ≤ 64) : (padS w).length = 64 := by simp [padS]; omega
def outB (h : List UInt32) (i : Nat) : UInt8 := UInt8.ofNat ((g h (i / 4)).toNat / 2 ^ (8 * (i % 4)))
def outS (h : List UInt32) : List UInt8 := (List.range 32).map (outB h)
theorem outS_len (h : List UInt32) : (outS h).length = 32 := by simp [outS]
/-- Behind some bytes written. -/
def finS (s : Wst) : List UInt8 := outS (takeS s.1 (padS s.2.1) (s.2.2.1 + s.2.1.length) true)
def oI (h : List UInt32) (i : Nat) : List UInt8 := (List.range 32).map fun j => if j < i then outB h j else 0
theorem oI_len (h : List UInt32) (i : Nat) : (oI h i).length = 32 := by simp [oI]
theorem oI_0 (h : List UInt32) : oI h 0 = hz := by unfold oI hz; rfl
theorem oI_32 (h : List UInt32) : oI h 32 = outS h := by
  unfold oI outS
  apply List.map_congr_left
  intro j hj
  simp [List.mem_range.1 hj]
theorem oI_set (h : List UInt32) {i : Nat} (hi : i < 32) : (oI h i).set i (outB h i) = oI h (i + 1) := by
  apply List.ext_getElem?
  intro j
  by_cases hj : j < 32
  · rw [List.getElem?_set]
    by_cases he : i = j
    · subst he
      simp [oI, hj]
    · simp [oI, hj, he]
      by_cases h2 : j < i
      · rw [if_pos h2, if_pos (by omega)]
      · rw [if_neg h2, if_neg (by omega)]
  · rw [List.getElem?_eq_none (by simp [oI]; omega), List.getElem?_eq_none (by simp [oI]; omega)]
theorem u8_shr (x : UInt32) (k : Nat) : IntKind.u8.wrap (wi (shr x k)) = ((UInt8.ofNat (x.toNat / 2 ^ k)).toNat : Int) := by
  have h1 : wi (shr x k) = ((x.toNat / 2 ^ k : Nat) : Int) := by
    unfold shr
    rw [wi_ofNat]
    have h1 : x.toNat / 2 ^ k ≤ x.toNat := Nat.div_le_self _ _
    have h2 := x.toNat_lt
    generalize x.toNat / 2 ^ k = q at *
    omega
  rw [h1]
  simp [IntKind.wrap, IntKind.bits, IntKind.signed, UInt8.toNat_ofNat']
theorem hc_put {b : List UInt8} {i : Nat} {x : UInt8} (h : i < b.length) : hc (List.take i b) ++ .fz (.lit (.int .u8 (x.toNat : Int))) :: hc (List.drop (i + 1) b) = hc (b.set i x) := by
  have e : hc (b.set i x) = (hc b).set i (.fz (.lit (.int .u8 (x.toNat : Int)))) := by simp [hc, List.map_set]
  rw [e, List.set_eq_take_append_cons_drop, if_pos (by rw [hc_len]; exact h)]
  simp [hc]

set_option maxRecDepth 8000 in
set_option maxHeartbeats 4000000 in
theorem SumM_ok (h : List UInt32) (w : List UInt8) (t n : Nat) (h8 : h.length = 8) (hw : w.length ≤ 64) (ht : t ≤ 1000000000) :
    ECalls Tryd.prog 82 [.v (.c (.ptr 0 0))] [SO 1 h w.length t n, RB w] fun y H' => H' = [some (SO 1 h w.length t n), some (RB w)] ∧ y = .v (.agg (hc (finS (h, w, t, [])))) := by
  have tw : List.take 64 w = w := List.take_of_length_le hw
  have mw : min 64 w.length = w.length := by omega
  have hp : hc w ++ hc (List.drop w.length Z64) = hc (padS w) := by simp [-List.reduceReplicate, hc, padS, Z64]
  have pl := padS_len hw
  have tp : List.take 64 (hc (padS w)) = hc (padS w) := hc_tk (by omega)
  have wl' : IntKind.u64.wrap (w.length : Int) = (w.length : Int) := u64_nat (by omega)
  have wt : IntKind.u64.wrap ((t : Int) + (w.length : Int)) = ((t + w.length : Nat) : Int) := by rw [show (t : Int) + (w.length : Int) = ((t + w.length : Nat) : Int) by omega]; exact u64_nat (by omega)
  refine ecalls k_BSumM ?_
  simp [c_BSumM, SO, RB, NV, h8, tw, mw, hp, tp, pl, wl', wt, -Int.natCast_add]
  refine callH [242] (btake_ok h (padS w) (t + w.length) true h8 pl (by omega)) (by simp [BV]) (by simp [HO]) (by simp) (by simp) (by simp) ?_
  rintro y H' ⟨rfl, rfl⟩
  refine ⟨.inl (by simp), by simp, ?_⟩
  have hf : finS (h, w, t, []) = outS (takeS h (padS w) (t + w.length) true) := rfl
  obtain ⟨A, hA⟩ : ∃ A, takeS h (padS w) (t + w.length) true = A := ⟨_, rfl⟩
  have a8 : A.length = 8 := by rw [← hA, takeS_len]; exact h8
  rw [hf, hA]
  simp [HO]
  refine eloop (α := Nat) (fun i => i ≤ 32) (fun i => 32 - i)
    (fun i => [.v (.c (.ptr 0 0)), .any, .v (.c (.ptr 2 0)), .v (.c (.ptr 3 0)), .any, .v (.c (.ptr 4 0)), .any, .any, .any, .any, .any, .any, .any, .any, .any, .any, .any, .any, .any, .any, .any, .any, .any, .any, .any, .any, .any, .any, .any, .any, .any, .any, .any, NV i, .any, .any, .any, .any, .any, .any, .any, .any, .any, .any, .any, .any, .any, .any, .any])
    (fun i => [some (SO 1 h w.length t n), some (RB w), some (.box 28 (hc hz)), some (.box 28 (hc (oI A i))), some (HO A)]) 0 [0, 1, 2, 18, 242]
    (by omega) (by simp [NV]) (by simp [SO, RB, HO, oI_0]) (by simp [SO, RB, HO]) (by decide) (by simp) ?_
  intro i hi
  simp [SO, RB, HO, NV]
  refine alt (fun hp => ?_) (fun hp => ?_)
  · have il : i < 32 := by omega
    have q1 : i / 4 < 8 := by omega
    have q1' : i / 4 ≤ 7 := by omega
    have q2 : (i : Int).tdiv 4 = ((i / 4 : Nat) : Int) := rfl
    have q3 : (i : Int).tmod 4 = ((i % 4 : Nat) : Int) := rfl
    have q4 : IntKind.i64.wrap ((i / 4 : Nat) : Int) = ((i / 4 : Nat) : Int) := wrap_i64 (by omega) (by omega)
    have q5 : IntKind.i64.wrap (8 * ((i % 4 : Nat) : Int)) = ((8 * (i % 4) : Nat) : Int) := by rw [wrap_i64 (by omega) (by omega)]; omega
    have wi1 : IntKind.i64.wrap ((i : Int) + 1) = ((i + 1 : Nat) : Int) := wrap_i64 (by omega) (by omega)
    obtain ⟨d, hd⟩ : ∃ d, i / 4 = d := ⟨_, rfl⟩
    obtain ⟨k, hk⟩ : ∃ k, 8 * (i % 4) = k := ⟨_, rfl⟩
    rw [hd] at q1 q1' q2 q4
    rw [hk] at q5
    have d8 : (d : Int) < 8 := by omega
    have sh := wi_shr (g A d) k (by omega)
    have ou : IntKind.u8.wrap (wi (shr (g A d) k)) = ((outB A i).toNat : Int) := by unfold outB; rw [hd, hk]; exact u8_shr _ _
    simp [q2, q3, q4, q5, wi1, q1, q1', d8, a8, wl_gE, sh, ou, oI_len, il, hc_put, -Int.natCast_add, -Int.natCast_mul, -Int.natCast_ediv, -Int.natCast_emod]
    exact ⟨by omega, by omega, round (i + 1) [0, 1, 2, 3, 4] (by omega) (by omega) (by simp [NV]) (by simp [SO, RB, HO, hc_put, oI_len, il, oI_set A il]) (by simp [SO, RB, HO]) (by decide) (by simp)⟩
  · have h32 : i = 32 := by omega
    subst h32
    simp [oI_32, outS_len]
    exact fin [] (by decide) rfl rfl (by simp [objsOut, show List.range 2 = [0, 1] from rfl]) ⟨rfl, rfl⟩

def ini8 : List UInt32 := firstW.set 0 (g firstW 0 ^^^ 0x01010020)
def w00 (b : List UInt8) : Wst := (ini8, [], 0, b)
/-- The sum of bytes. -/
def sumS (b : List UInt8) : List UInt8 := finS (wall (w00 b))
theorem sumS_len (b : List UInt8) : (sumS b).length = 32 := outS_len _
theorem w00_ok (b : List UInt8) : Wok' (([] : List UInt8).length + 0 + b.length) (w00 b) := ⟨rfl, by simp [w00], by simp [w00]⟩

theorem Write0_ok (b : List UInt8) (hb : b.length ≤ 1000000000) :
    ECalls Tryd.prog 81 [.v (.c (.ptr 0 0)), Bs b] [.box 158 (wl ini8 ++ [.fz (.lit (.slice none 0 0)), .fz (.lit (.int .u64 0)), .fz (.lit (.int .i64 0))])] fun y H' => H' = [some (SO 2 (wall (w00 b)).1 (wall (w00 b)).2.1.length (wall (w00 b)).2.2.1 (0 + b.length)), none, some (RB (wall (w00 b)).2.1)] ∧ y = .tup [] :=
  ecalls_nilB 0 8 rfl rfl (by omega) (Write_ok ini8 [] 0 0 b (w00_ok b) (by simpa using hb) (by omega))

set_option maxRecDepth 8000 in
set_option maxHeartbeats 4000000 in
theorem BSum_ok (b : List UInt8) (hb : b.length ≤ 100000000) : ECalls Tryd.prog 55 [Bs b] [] fun y H' => H' = [] ∧ y = .v (.agg (hc (sumS b))) := by
  obtain ⟨⟨o8, ow, os⟩, oe⟩ := wall_ok b.length (w00_ok b) (Nat.le_refl _)
  have hl := hc_tk (show (sumS b).length ≤ 32 by rw [sumS_len]; omega)
  have hx : ibit .xor .u32 (wi (g firstW 0)) 16842784 = wi (g firstW 0 ^^^ 0x01010020) := wi_xor (g firstW 0) 0x01010020
  have fl : firstW.length = 8 := rfl
  have g0 : ∀ (r : List EC) h', (wl firstW ++ r)[0]'h' = .fz (.lit (.int .u32 (wi (g firstW 0)))) := fun r h' => wl_gER (by decide) h'
  have p0 : ∀ r : List EC, EC.fz (.lit (.int .u32 (wi (g firstW 0 ^^^ 0x01010020)))) :: List.drop 1 (wl firstW ++ r) = wl ini8 ++ r := fun r => wl_putR (v := firstW) (i := 0) (by decide)
  have p0' : ∀ r : List EC, EC.fz (.lit (.int .u32 (wi (g firstW 0 ^^^ 0x01010020)))) :: (wl firstW ++ r).tail = wl ini8 ++ r := fun r => by rw [← List.drop_one]; exact p0 r
  refine ecalls k_BSum ?_
  simp [c_BSum, Bs, NV]
  refine call0 first_ok (by simp) ?_
  rintro y H' ⟨rfl, rfl⟩
  refine ⟨.inl (by simp), le_ok rfl, ?_⟩
  simp [NV, fl, g0, hx, p0, p0']
  refine callH [48] (Write0_ok b (by omega)) (by simp [Bs]) (by simp) (by simp) (by simp) (by simp) ?_
  rintro y H' ⟨rfl, rfl⟩
  refine ⟨.inl (by simp), by simp, ?_⟩
  simp [NV, SO, RB]
  refine callH [48, 273] (SumM_ok (wall (w00 b)).1 (wall (w00 b)).2.1 (wall (w00 b)).2.2.1 b.length o8 ow (by simp at os; omega)) (by simp) (by simp [SO, RB]) (by simp) (by simp) (by simp) ?_
  rintro y H' ⟨rfl, rfl⟩
  refine ⟨.inl (by simp), by simp, ?_⟩
  have hs : finS ((wall (w00 b)).1, (wall (w00 b)).2.1, (wall (w00 b)).2.2.1, []) = sumS b := rfl
  simp [NV, SO, RB, hs, hl, sumS_len]
  exact fin [] (by decide) rfl rfl (by simp [objsOut]) ⟨rfl, rfl⟩

end Go.Proofs.YtpilpjameifcfaaDoor

namespace Go.Proofs.YtpilpjameifcfaaDoor
open Go Go.EW
set_option linter.unusedSimpArgs false
set_option linter.unusedVariables false

@[simp] def l_SSettle_1 (_ : Unit) : List EOp := [⟨0, (some 3), none, (.q (.box 39 (.t 0))), []⟩, ⟨1, (some 6), none, (.q (.alloc 39 [(.int .i64 0), (.int .i64 0), (.int .i64 0), (.slice none 0 0), (.slice none 0 0)])), []⟩, ⟨2, (some 7), none, (.q (.mov (.k .nilIface))), []⟩]
@[simp] def b_SSettle_2 (_ : Unit) : EB := reg0 (hid l_SSettle_1) 3
@[simp] def l_SSettle_4 (_ : Unit) : List EOp := [⟨6, (some 17), none, (.q (.ext 2 (.t 11))), []⟩, ⟨7, (some 8), none, (.q (.alloc 39 [(.int .i64 0), (.int .i64 0), (.int .i64 0), (.slice none 0 0), (.slice none 0 0)])), []⟩, ⟨8, (some 9), none, (.q (.alloc 45 (([(.int .i64 0), (.int .i64 0), (.int .i64 0), (.int .i64 0)] : List Value) ++ zU8))), []⟩, ⟨9, none, none, (.fz (.sto 5 (.t 8) (.t 15))), []⟩, ⟨10, none, none, (.sto 36 (.t 9) (.t 16)), []⟩, ⟨11, (some 10), none, (.q (.mov (.t 17))), []⟩]
@[simp] def l_SSettle_3 (_ : Unit) : List EOp := ⟨0, (some 12), none, (.q (.lda 5 (.t 3))), []⟩ :: ⟨1, (some 13), none, (.q (.mov (.t 1))), []⟩ :: ⟨2, (some 14), none, (.call 54 [(.t 12), (.t 13)]), []⟩ :: ⟨3, (some 11), none, (.q (.mov (.t 14))), []⟩ :: ⟨4, (some 15), none, (.q (.ext 0 (.t 11))), []⟩ :: ⟨5, (some 16), none, (.q (.ext 1 (.t 11))), []⟩ :: hid l_SSettle_4
@[simp] def b_SSettle_5 (_ : Unit) : EB := reg0 (hid l_SSettle_3) 12
@[simp] def l_SSettle_6 (_ : Unit) : List EOp := [⟨0, (some 19), none, (.q (.mov (.t 10))), []⟩, ⟨1, (some 20), none, (.q (.eqi true (.t 19))), []⟩, ⟨2, (some 18), none, (.q (.mov (.t 20))), []⟩]
@[simp] def b_SSettle_7 (_ : Unit) : EB := reg0 (hid l_SSettle_6) 3
@[simp] def l_SSettle_8 (_ : Unit) : List EOp := [⟨0, (some 21), none, (.q (.build [(.int .i64 0), (.int .i64 0), (.int .i64 0), (.slice none 0 0), (.slice none 0 0)] [])), []⟩, ⟨1, (some 22), none, (.q (.mov (.t 10))), []⟩, ⟨2, none, none, (.fz (.sto 5 (.t 6) (.t 21))), []⟩, ⟨3, (some 7), none, (.q (.mov (.t 22))), []⟩]
@[simp] def b_SSettle_9 (_ : Unit) : EB := reg0 (hid l_SSettle_8) 4
@[simp] def b_SSettle_10 (_ : Unit) : EB := .seq (hid b_SSettle_9) .ret
@[simp] def l_SSettle_11 (_ : Unit) : List EOp := [⟨0, (some 24), none, (.q (.mov (.t 2))), []⟩, ⟨2, (some 26), none, (.q (.fad 4 (.t 9))), []⟩, ⟨3, (some 27), none, (.q (.lda 32 (.t 26))), []⟩, ⟨1, (some 25), none, (.call 55 [(.t 24)]), [2, 3]⟩, ⟨4, (some 28), none, (.q (.eqa true 32 .u8 (.t 25) (.t 27))), []⟩, ⟨5, (some 23), none, (.q (.mov (.t 28))), []⟩]
@[simp] def b_SSettle_12 (_ : Unit) : EB := reg1 (hid l_SSettle_11) 6
@[simp] def l_SSettle_13 (_ : Unit) : List EOp := [⟨0, (some 29), none, (.q (.build [(.int .i64 0), (.int .i64 0), (.int .i64 0), (.slice none 0 0), (.slice none 0 0)] [])), []⟩, ⟨1, (some 30), none, (.q (.mki 73 (.k (.int .i64 22)))), []⟩, ⟨2, none, none, (.fz (.sto 5 (.t 6) (.t 29))), []⟩, ⟨3, (some 7), none, (.q (.mov (.t 30))), []⟩]
@[simp] def b_SSettle_14 (_ : Unit) : EB := reg0 (hid l_SSettle_13) 4
@[simp] def b_SSettle_15 (_ : Unit) : EB := .seq (hid b_SSettle_14) .ret
@[simp] def b_SSettle_16 (_ : Unit) : EB := .cond (.t 23) (hid b_SSettle_15) .skip
@[simp] def b_SSettle_17 (_ : Unit) : EB := .seq (hid b_SSettle_12) (hid b_SSettle_16)
@[simp] def b_SSettle_18 (_ : Unit) : EB := .cond (.t 18) (hid b_SSettle_10) (hid b_SSettle_17)
@[simp] def b_SSettle_19 (_ : Unit) : EB := .seq (hid b_SSettle_7) (hid b_SSettle_18)
@[simp] def b_SSettle_20 (_ : Unit) : EB := .block 0 (hid b_SSettle_19)
@[simp] def l_SSettle_22 (_ : Unit) : List EOp := [⟨6, (some 37), none, (.q (.fad 2 (.t 9))), []⟩, ⟨7, (some 38), none, (.q (.ldc (.t 37))), []⟩, ⟨8, (some 39), none, (.q (.bin .add (.t 36) (.t 38))), []⟩, ⟨9, (some 40), none, (.q (.fad 1 (.t 8))), []⟩, ⟨10, (some 41), none, (.q (.iad 2 1 (.t 40) (.t 33))), []⟩, ⟨11, none, none, (.sto 1 (.t 41) (.t 39)), []⟩]
@[simp] def l_SSettle_21 (_ : Unit) : List EOp := ⟨0, (some 31), none, (.q (.fad 1 (.t 9))), []⟩ :: ⟨1, (some 32), none, (.q (.ldc (.t 31))), []⟩ :: ⟨2, (some 33), none, (.q (.bin .sub (.k (.int .i64 1)) (.t 32))), []⟩ :: ⟨3, (some 34), none, (.q (.fad 1 (.t 8))), []⟩ :: ⟨4, (some 35), none, (.q (.iad 2 1 (.t 34) (.t 33))), []⟩ :: ⟨5, (some 36), none, (.q (.ldc (.t 35))), []⟩ :: hid l_SSettle_22
@[simp] def b_SSettle_23 (_ : Unit) : EB := reg0 (hid l_SSettle_21) 12
@[simp] def l_SSettle_24 (_ : Unit) : List EOp := [⟨0, (some 42), none, (.q (.lda 5 (.t 8))), []⟩, ⟨1, none, none, (.fz (.sto 5 (.t 6) (.t 42))), []⟩, ⟨2, (some 7), none, (.q (.mov (.k .nilIface))), []⟩]
@[simp] def b_SSettle_25 (_ : Unit) : EB := reg0 (hid l_SSettle_24) 3
@[simp] def b_SSettle_26 (_ : Unit) : EB := .seq (hid b_SSettle_25) .ret
@[simp] def b_SSettle_27 (_ : Unit) : EB := .seq (hid b_SSettle_23) (hid b_SSettle_26)
@[simp] def b_SSettle_28 (_ : Unit) : EB := .seq (hid b_SSettle_20) (hid b_SSettle_27)
@[simp] def b_SSettle_29 (_ : Unit) : EB := .seq (hid b_SSettle_5) (hid b_SSettle_28)
@[simp] def b_SSettle_30 (_ : Unit) : EB := .seq (hid b_SSettle_2) (hid b_SSettle_29)
def c_SSettle : EB × List QOp × Nat := ((hid b_SSettle_30), [(.lda 5 (.t 6)), (.mov (.t 7))], 43)
theorem k_SSettle : cfun Tryd.prog 24 = some c_SSettle := by kernel_rfl


@[simp] theorem errV_22 : Value.iface 73 (.int .i64 22) = errV 22 := rfl
/-- A payment given to whom the secret opens it; the error. -/
def setS (s : Sta) (x : Int) (b : List UInt8) : Sta × Nat :=
  if (takS s x).2.2 ≠ 0 then (zSta, (takS s x).2.2) else if sumS b ≠ (takS s x).2.1.lock then (zSta, 22)
  else (⟨(takS s x).1.num, if (takS s x).2.1.fr = 0 then s.h0 else s.h0 + (takS s x).2.1.am, if (takS s x).2.1.fr = 0 then s.h1 + (takS s x).2.1.am else s.h1, (takS s x).1.pays, s.holds⟩, 0)
theorem pd4 (p : Pay) : (payC p).drop 4 = hc p.lock := rfl

set_option maxHeartbeats 4000000 in
theorem SSettle_ok (s : Sta) (x : Int) (b : List UInt8) (hs : s.ok) (hx64 : i64 x) (hbl : b.length ≤ 100000000) : ECalls Tryd.prog 24 [SV s, I .i64 x, Bs b] [] fun y H' => H' = [] ∧ y = SE (setS s x b) := by
  obtain ⟨ok1, ok2, ok3, ok4, ok5, ok6, ok7⟩ := id hs
  have hsl := sumS_len b
  refine ecalls k_SSettle ?_
  simp [c_SSettle, SV, staC, I, Bs, -errV_0]
  refine call0 (Stake_ok s x hs hx64) (by simp [SV, staC, I]) ?_
  rintro y H' ⟨rfl, rfl⟩
  refine ⟨.inl (by simp), le_ok rfl, ?_⟩
  by_cases h0 : mayS s = true ∧ s.num ≠ 1099511627776
  rotate_left
  · have hx : nxt s = (zSta, 1) := by simp only [nxt, if_neg h0]
    have ha : takS s x = (zSta, zPay, 1) := by simp [takS, hx]
    have hb : setS s x b = (zSta, 1) := by simp [setS, ha]
    rw [ha, hb]
    simp [SE, SP, staC, zSta, zPay, payC, -errV_0]
    refine finW _ (weak_nlB (o := 16) (k := 3) 36 rfl rfl) (finW _ (weak_nlB (o := 16) (k := 4) 3 rfl rfl) ?_)
    exact fin [] (by decide) rfl rfl rfl ⟨rfl, rfl⟩
  have hx : nxt s = (⟨s.num + 1, s.h0, s.h1, s.pays, s.holds⟩, 0) := by simp only [nxt, if_pos h0]
  obtain ⟨hr, hpl', hh, htot⟩ := mayS_t h0.1
  cases hf : fndI (s.pays.map (·.id)) x
  · have ha : takS s x = (zSta, zPay, 8) := by simp [takS, hx, hf]
    have hb : setS s x b = (zSta, 8) := by simp [setS, ha]
    rw [ha, hb]
    simp [SE, SP, staC, zSta, zPay, payC, -errV_0]
    refine finW _ (weak_nlB (o := 16) (k := 3) 36 rfl rfl) (finW _ (weak_nlB (o := 16) (k := 4) 3 rfl rfl) ?_)
    exact fin [] (by decide) rfl rfl rfl ⟨rfl, rfl⟩
  obtain ⟨p, hc, hid⟩ := fnd_get (f := Pay.id) hf
  have hpm := List.mem_of_getElem? hc
  have hpo := ok4 p hpm
  obtain ⟨m1, m2, m3, m4, m5, m6, m7, m8⟩ := of_decide_eq_true (payL_mem hpl' p hpm)
  have hle := payL_sum hpl' p hpm
  have hnn := sumH_nn hh
  have hto : total s = s.h0 + s.h1 + sumP s.pays + sumH s.holds := rfl
  have ha : takS s x = (⟨s.num + 1, s.h0, s.h1, delP s.pays x, s.holds⟩, p, 0) := by simp [takS, hx, hf, hc]
  have hb : setS s x b = if sumS b ≠ p.lock then (zSta, 22) else (⟨s.num + 1, if p.fr = 0 then s.h0 else s.h0 + p.am, if p.fr = 0 then s.h1 + p.am else s.h1, delP s.pays x, s.holds⟩, 0) := by simp [setS, ha]
  rw [ha, hb]
  have hpt := payC_take hpo.2.2.2.2
  have hpl := payC_len hpo.2.2.2.2
  have hlk : p.lock.length = 32 := hpo.2.2.2.2
  have hlt32 : List.take 32 (Go.EW.hc p.lock) = Go.EW.hc p.lock := hc_t32 hlk
  simp [SP, staC, hpl, hpt, pc0, pc1, pc2, pd1, pd2, pe0, pe1, pe2, -errV_0]
  refine call0 (BSum_ok b hbl) (by simp [Bs]) ?_
  rintro y H' ⟨rfl, rfl⟩
  refine ⟨.inl (by simp), le_ok rfl, ?_⟩
  have hcn : Go.EW.hc [] = [] := rfl
  have hq : (List.map (fun b : UInt8 => (b.toNat : Int)) (sumS b) = List.map (fun b : UInt8 => (b.toNat : Int)) p.lock) ↔ sumS b = p.lock := ⟨hc_inj, fun e => by rw [e]⟩
  by_cases he : sumS b = p.lock
  rotate_left
  · simp [hpl, hpt, pd4, hlt32, hlk, hsl, hcn, hq, he, SE, staC, zSta, -errV_0]
    refine finW _ (weak_nlB (o := 16) (k := 3) 36 rfl rfl) (finW _ (weak_nlB (o := 16) (k := 4) 3 rfl rfl) ?_)
    exact fin [] (by decide) rfl rfl rfl ⟨rfl, rfl⟩
  rcases m3 with hfr | hfr
  · have w0 : IntKind.i64.wrap 1 = 1 := by decide +kernel
    have w1 : IntKind.i64.wrap (s.h1 + p.am) = s.h1 + p.am := wrap_i64 (by omega) (by omega)
    simp [hpl, hpt, pd4, hlt32, hlk, hsl, hcn, hq, he, hfr, pc0, pc1, pc2, pd1, pd2, pe0, pe1, pe2, w0, w1, -errV_0]
    exact fin [] (by decide) rfl rfl rfl ⟨rfl, by simp [SE, staC, hfr, errV, -errV_0]⟩
  · have w0 : IntKind.i64.wrap 0 = 0 := by decide +kernel
    have w1 : IntKind.i64.wrap (s.h0 + p.am) = s.h0 + p.am := wrap_i64 (by omega) (by omega)
    simp [hpl, hpt, pd4, hlt32, hlk, hsl, hcn, hq, he, hfr, pc0, pc1, pc2, pd1, pd2, pe0, pe1, pe2, w0, w1, -errV_0]
    exact fin [] (by decide) rfl rfl rfl ⟨rfl, by simp [SE, staC, hfr, errV, -errV_0]⟩

end Go.Proofs.YtpilpjameifcfaaDoor

namespace Go.Proofs.YtpilpjameifcfaaDoor
open Go Go.EW
set_option linter.unusedSimpArgs false
set_option linter.unusedVariables false

/-- A state that may stand behind s: as much in all, the next number. -/
def Gd (s t : Sta) : Prop := mayS t = true ∧ total t = total s ∧ t.num = s.num + 1 ∧ t.ok

theorem gd_mk {s : Sta} (h0 : mayS s = true ∧ s.num ≠ 1099511627776) {x y : Int} {ps : List Pay} {hl : List Hol} (hx : 0 ≤ x) (hy : 0 ≤ y) (hp : payL none ps = true) (hh : holL none hl = true)
    (po : ∀ p ∈ ps, p.ok) (ho : ∀ h ∈ hl, h.ok) (h8 : hl.length + ps.length ≤ 8) (ht : x + y + sumP ps + sumH hl = total s) : Gd s ⟨s.num + 1, x, y, ps, hl⟩ := by
  obtain ⟨hr, _, _, htot⟩ := mayS_t h0.1
  have n1 := sumP_nn hp
  have n2 := sumH_nn hh
  have h02 := h0.2
  have hm : mayS ⟨s.num + 1, x, y, ps, hl⟩ = true := mayS_mk (by dsimp only; omega) hp hh (by show x + y + sumP ps + sumH hl ≤ _; omega)
  exact ⟨hm, ht, rfl, may_ok hm po ho⟩
theorem nxt_zero {s : Sta} (h : ¬ (nxt s).2 ≠ 0) : mayS s = true ∧ s.num ≠ 1099511627776 := by
  unfold nxt at h
  split at h
  · rename_i h'; exact h'
  · simp at h
theorem delA_sub {α : Type} (f : α → Int) (l : List α) (x : Int) : (delA f l x).Sublist l := by
  unfold delA
  obtain ⟨n, hn⟩ : ∃ n, posI (l.map f) x = n := ⟨_, rfl⟩
  rw [hn]
  have h1 : (l.drop (n + 1)).Sublist (l.drop n) := by
    rw [← List.drop_drop]
    exact List.drop_sublist 1 _
  have h2 := (List.Sublist.refl (l.take n)).append h1
  rwa [List.take_append_drop] at h2
theorem payL_sub {l l' : List Pay} (h : payL none l = true) (hs : l'.Sublist l) : payL none l' = true := by
  obtain ⟨q1, q2, _⟩ := payL_iff.1 h
  exact payL_iff.2 ⟨fun p hp => q1 p (hs.subset hp), q2.sublist (hs.map _), fun q hq => by simp at hq⟩
theorem holL_sub {l l' : List Hol} (h : holL none l = true) (hs : l'.Sublist l) : holL none l' = true := by
  obtain ⟨q1, q2, _⟩ := holL_iff.1 h
  exact holL_iff.2 ⟨fun p hp => q1 p (hs.subset hp), q2.sublist (hs.map _), fun q hq => by simp at hq⟩
theorem moveS_gd {s : Sta} {a n : Int} (hs : s.ok) (h : (moveS s a n).2 = 0) : Gd s (moveS s a n).1 := by
  unfold moveS at h ⊢
  split at h
  · rename_i h1; exact absurd h h1
  rename_i h1
  have h0 := nxt_zero h1
  obtain ⟨hr, hpl, hh, htot⟩ := mayS_t h0.1
  obtain ⟨ok1, ok2, ok3, ok4, ok5, ok6, ok7⟩ := id hs
  have hto : total s = s.h0 + s.h1 + sumP s.pays + sumH s.holds := rfl
  rw [if_neg h1]
  split at h
  · simp at h
  rename_i h2
  rw [if_neg h2]
  split at h
  · simp at h
  rename_i h3
  rw [if_neg h3]
  by_cases h4 : (if a = 0 then s.h0 else s.h1) < n
  · rw [if_pos h4] at h; simp at h
  rw [if_neg h4]
  by_cases e : a = 0
  · rw [if_pos e]
    rw [if_pos e] at h4
    exact gd_mk h0 (by omega) (by omega) hpl hh ok4 ok5 (by omega) (by omega)
  · rw [if_neg e]
    rw [if_neg e] at h4
    exact gd_mk h0 (by omega) (by omega) hpl hh ok4 ok5 (by omega) (by omega)
theorem addP_gd {s : Sta} {p : Pay} (hs : s.ok) (hp : p.ok) (h : (addP s p).2 = 0) : Gd s (addP s p).1 := by
  obtain ⟨h1, h2, h3, h4, h5, h6, h7⟩ := addP_may h
  exact ⟨h6, h7, by rw [h5], addP_ok hs hp h⟩
theorem takS_gd {s : Sta} {x : Int} (h : (takS s x).2.2 = 0) : (mayS s = true ∧ s.num ≠ 1099511627776) ∧ (takS s x).1 = ⟨s.num + 1, s.h0, s.h1, delA Pay.id s.pays x, s.holds⟩ ∧ (takS s x).2.1 ∈ s.pays ∧ sumP (delA Pay.id s.pays x) = sumP s.pays - (takS s x).2.1.am ∧ (delA Pay.id s.pays x).length = s.pays.length - 1 ∧ 10 ≤ (takS s x).2.1.am := by
  unfold takS at h ⊢
  split at h
  · simp at h
  rename_i h1
  have h0 := nxt_zero h1
  obtain ⟨hr, hpl, hh, htot⟩ := mayS_t h0.1
  split at h
  · simp at h
  rename_i h2
  rw [if_neg h1, if_neg h2]
  have hf : fndI (s.pays.map Pay.id) x = true := by simpa using h2
  obtain ⟨b, hb, hid⟩ := fnd_get (f := Pay.id) hf
  have hb' : s.pays[posI (s.pays.map (·.id)) x]? = some b := hb
  have hmem := List.mem_of_getElem? hb
  refine ⟨h0, by rw [delP_eq], ?_, ?_, len_del (f := Pay.id) hb, ?_⟩
  · show (s.pays[posI (s.pays.map (·.id)) x]?).getD zPay ∈ s.pays
    rw [hb']; exact hmem
  · have e := sum_del (f := Pay.id) (·.am) hb
    show sumP _ = sumP _ - ((s.pays[posI (s.pays.map (·.id)) x]?).getD zPay).am
    rw [hb']; exact e
  · show 10 ≤ ((s.pays[posI (s.pays.map (·.id)) x]?).getD zPay).am
    rw [hb']; exact (mayP_pos (payL_mem hpl b hmem)).2.1
theorem back_gd {s : Sta} {x u v : Int} (hs : s.ok) (h : (takS s x).2.2 = 0) (hu : s.h0 ≤ u) (hv : s.h1 ≤ v) (huv : u + v = s.h0 + s.h1 + (takS s x).2.1.am) : Gd s ⟨(takS s x).1.num, u, v, (takS s x).1.pays, s.holds⟩ := by
  obtain ⟨h0, e, hm, h5, h6, h7⟩ := takS_gd h
  obtain ⟨hr, hpl, hh, htot⟩ := mayS_t h0.1
  obtain ⟨ok1, ok2, ok3, ok4, ok5, ok6, ok7⟩ := id hs
  have hto : total s = s.h0 + s.h1 + sumP s.pays + sumH s.holds := rfl
  rw [e]
  show Gd s ⟨s.num + 1, u, v, delA Pay.id s.pays x, s.holds⟩
  have hsub := delA_sub Pay.id s.pays x
  exact gd_mk h0 (by omega) (by omega) (payL_sub hpl hsub) hh (fun p hp => ok4 p (hsub.subset hp)) ok5 (by omega) (by omega)
theorem falS_gd {s : Sta} {x : Int} (hs : s.ok) (h : (falS s x).2 = 0) : Gd s (falS s x).1 := by
  unfold falS at h ⊢
  split at h
  · rename_i h1; exact absurd h h1
  rename_i h1
  rw [if_neg h1]
  have ht : (takS s x).2.2 = 0 := Classical.not_not.1 h1
  obtain ⟨_, _, _, _, _, h7⟩ := takS_gd ht
  exact back_gd hs ht (by split <;> omega) (by split <;> omega) (by split <;> omega)
theorem setS_gd {s : Sta} {x : Int} {b : List UInt8} (hs : s.ok) (h : (setS s x b).2 = 0) : Gd s (setS s x b).1 := by
  unfold setS at h ⊢
  split at h
  · rename_i h1; exact absurd h h1
  rename_i h1
  rw [if_neg h1]
  split at h
  · simp at h
  rename_i h2
  rw [if_neg h2]
  have ht : (takS s x).2.2 = 0 := Classical.not_not.1 h1
  obtain ⟨_, _, _, _, _, h7⟩ := takS_gd ht
  exact back_gd hs ht (by split <;> omega) (by split <;> omega) (by split <;> omega)
theorem keeS_gd {s : Sta} {who : Int} {q : Hol} (hs : s.ok) (hq : q.ok) (h : (keeS s who q).2 = 0) : Gd s (keeS s who q).1 := by
  unfold keeS at h ⊢
  split at h
  · simp at h
  rename_i h1
  have h0 := nxt_zero h1
  obtain ⟨hr, hpl, hh, htot⟩ := mayS_t h0.1
  obtain ⟨ok1, ok2, ok3, ok4, ok5, ok6, ok7⟩ := id hs
  obtain ⟨q1, q2, _⟩ := holL_iff.1 hh
  have hto : total s = s.h0 + s.h1 + sumP s.pays + sumH s.holds := rfl
  rw [if_neg h1]
  split at h
  · simp at h
  rename_i c1
  split at h
  · simp at h
  rename_i c2
  split at h
  · simp at h
  rename_i c3
  split at h
  · simp at h
  rename_i c4
  split at h
  · simp at h
  rename_i c5
  split at h
  · simp at h
  rename_i c6
  rw [if_neg c1, if_neg c2, if_neg c3, if_neg c4, if_neg c5, if_neg c6]
  have hm : mayH q = true := by simpa using c3
  have hf : fndI (s.holds.map Hol.id) q.id = false := by simpa using c4
  have hs1 : sumH (insA Hol.id s.holds q) = sumH s.holds + q.am := sum_ins Hol.id (·.am) s.holds q
  have hl1 : (insA Hol.id s.holds q).length = s.holds.length + 1 := len_ins Hol.id s.holds q
  have hpi : holL none (insA Hol.id s.holds q) = true := holL_iff.2 ⟨fun b hb => by
      rcases mem_ins (f := Hol.id) hb with rfl | hb
      · exact hm
      · exact q1 b hb, by
      rw [map_ins]
      exact pw_ins q2 hf, fun q hq => by simp at hq⟩
  unfold sideS at c6
  refine gd_mk h0 ?_ ?_ hpl hpi ok4 ?_ (by omega) ?_
  · split
    · rename_i e; rw [if_pos e] at c6; omega
    · omega
  · split
    · omega
    · rename_i e; rw [if_neg e] at c6; omega
  · intro b hb
    rcases mem_ins (f := Hol.id) hb with rfl | hb
    · exact hq
    · exact ok5 b hb
  · rw [hs1]; split <;> omega
theorem freS_gd {s : Sta} {x a : Int} (hs : s.ok) (h : (freS s x a).2 = 0) : Gd s (freS s x a).1 := by
  unfold freS at h ⊢
  split at h
  · simp at h
  rename_i h1
  have h0 := nxt_zero h1
  obtain ⟨hr, hpl, hh, htot⟩ := mayS_t h0.1
  obtain ⟨ok1, ok2, ok3, ok4, ok5, ok6, ok7⟩ := id hs
  have hto : total s = s.h0 + s.h1 + sumP s.pays + sumH s.holds := rfl
  rw [if_neg h1]
  split at h
  · simp at h
  rename_i b hb
  split at h
  · simp at h
  rename_i c1
  split at h
  · simp at h
  rename_i c2
  rw [if_neg c1, if_neg c2]
  have hsub := delA_sub Hol.id s.holds x
  have e : sumH (delA Hol.id s.holds x) = sumH s.holds - b.am := sum_del (f := Hol.id) (·.am) hb
  have hl := len_del (f := Hol.id) hb
  exact gd_mk h0 (by omega) (by omega) hpl (holL_sub hh hsub) ok4 (fun p hp => ok5 p (hsub.subset hp)) (by omega) (by omega)

end Go.Proofs.YtpilpjameifcfaaDoor

namespace Go.Proofs.YtpilpjameifcfaaDoor
open Go Go.EW
set_option linter.unusedSimpArgs false
set_option linter.unusedVariables false

@[simp] def l_SCheck_1 (_ : Unit) : List EOp := [⟨0, (some 1), none, (.q (.box 39 (.t 0))), []⟩, ⟨1, (some 2), none, (.q (.mov (.k .nilIface))), []⟩]
@[simp] def b_SCheck_2 (_ : Unit) : EB := reg0 (hid l_SCheck_1) 2
@[simp] def l_SCheck_3 (_ : Unit) : List EOp := [⟨0, (some 3), none, (.q (.lda 5 (.t 1))), []⟩, ⟨1, (some 4), none, (.call 26 [(.t 3)]), []⟩, ⟨2, (some 5), none, (.q (.un .not (.t 4))), []⟩]
@[simp] def b_SCheck_4 (_ : Unit) : EB := reg0 (hid l_SCheck_3) 3
@[simp] def l_SCheck_5 (_ : Unit) : List EOp := [⟨0, (some 6), none, (.q (.mki 73 (.k (.int .i64 1)))), []⟩, ⟨1, (some 2), none, (.q (.mov (.t 6))), []⟩]
@[simp] def b_SCheck_6 (_ : Unit) : EB := reg0 (hid l_SCheck_5) 2
@[simp] def b_SCheck_7 (_ : Unit) : EB := .seq (hid b_SCheck_6) .ret
@[simp] def b_SCheck_8 (_ : Unit) : EB := .cond (.t 5) (hid b_SCheck_7) .skip
@[simp] def b_SCheck_9 (_ : Unit) : EB := .seq (hid b_SCheck_4) (hid b_SCheck_8)
@[simp] def l_SCheck_10 (_ : Unit) : List EOp := [⟨0, (some 2), none, (.q (.mov (.k .nilIface))), []⟩]
@[simp] def b_SCheck_11 (_ : Unit) : EB := reg0 (hid l_SCheck_10) 1
@[simp] def b_SCheck_12 (_ : Unit) : EB := .seq (hid b_SCheck_11) .ret
@[simp] def b_SCheck_13 (_ : Unit) : EB := .seq (hid b_SCheck_9) (hid b_SCheck_12)
@[simp] def b_SCheck_14 (_ : Unit) : EB := .seq (hid b_SCheck_2) (hid b_SCheck_13)
def c_SCheck : EB × List QOp × Nat := ((hid b_SCheck_14), [(.mov (.t 2))], 7)
theorem k_SCheck : cfun Tryd.prog 20 = some c_SCheck := by kernel_rfl


/-- What is said of a state without payments and holds is said of one whose slices are nil. -/
theorem ecalls_nlS {P : Program} {f : FuncId} {e1 e2 : Nat} {a b c : EC} {rest : List EV} {H : List EO} {post : EV → List (Option EO) → Prop} (h : ECalls P f (.v (.agg [a, b, c, .fz (.sl e1 []), .fz (.sl e2 [])]) :: rest) H post) :
    ECalls P f (.v (.agg [a, b, c, .fz (.lit (.slice none 0 0)), .fz (.lit (.slice none 0 0))]) :: rest) H post := by
  intro ρ Φ w vals r ha
  refine h ρ Φ w vals r ?_
  obtain ⟨u, us, rfl, h1, h2⟩ := ha.cons_left
  refine All2.cons ?_ h2
  obtain ⟨vs, rfl, hv⟩ := h1
  refine ⟨vs, rfl, by simpa using hv.1, ?_⟩
  intro i x y hx hy
  rcases i with _ | _ | _ | _ | _ | i
  · exact hv.2 0 x y hx hy
  · exact hv.2 1 x y hx hy
  · exact hv.2 2 x y hx hy
  · have := hv.2 3 _ y rfl hy
    simp at hx; subst hx
    exact nl_vr this
  · have := hv.2 4 _ y rfl hy
    simp at hx; subst hx
    exact nl_vr this
  · simp at hx

theorem SCheck_ok (s : Sta) (hs : s.ok) : ECalls Tryd.prog 20 [SV s] [] fun y H' => H' = [] ∧ y = .lit (if mayS s then .nilIface else errV 1) := by
  refine ecalls k_SCheck ?_
  simp [c_SCheck, SV, staC]
  refine call0 (Smay_ok s hs) (by simp [Ptr, I, EV.lit, SV, staC, SE]) ?_
  rintro y H' ⟨rfl, rfl⟩
  refine ⟨.inl (by simp [Ptr, I, EV.lit, SV, staC, SE]), le_ok rfl, ?_⟩
  simp [Ptr, I, EV.lit, SV, staC, SE]
  cases hm : mayS s
  · simp
    exact fin [] (by decide) rfl rfl rfl ⟨rfl, rfl⟩
  · simp
    exact fin [] (by decide) rfl rfl rfl ⟨rfl, rfl⟩

end Go.Proofs.YtpilpjameifcfaaDoor

namespace Go.Proofs.YtpilpjameifcfaaDoor
open Go Go.EW
def Sta.small (s : Sta) : Prop := s.pays.length ≤ 1000 ∧ s.holds.length ≤ 1000 ∧ ∀ h ∈ s.holds, h.keys.length ≤ 1000
def RE (q : Sta × Nat) : EV := .tup [.agg (staC q.1), .c (.fz (.lit (.int .i64 (q.2 : Int))))]
end Go.Proofs.YtpilpjameifcfaaDoor

namespace Go.Proofs.YtpilpjameifcfaaDoor
open Go Go.EW
set_option linter.unusedSimpArgs false
set_option linter.unusedVariables false

@[simp] def l_longState_1 (_ : Unit) : List EOp := [⟨0, (some 1), none, (.q (.box 26 (.t 0))), []⟩, ⟨1, (some 2), none, (.q (.mov (.k (.bool false)))), []⟩]
@[simp] def b_longState_2 (_ : Unit) : EB := reg0 (hid l_longState_1) 2
@[simp] def l_longState_4 (_ : Unit) : List EOp := [⟨6, (some 11), none, (.q (.bin .add (.t 7) (.t 10))), []⟩, ⟨7, (some 3), none, (.q (.mov (.t 11))), []⟩]
@[simp] def l_longState_3 (_ : Unit) : List EOp := ⟨0, (some 5), none, (.q (.fad 3 (.t 1))), []⟩ :: ⟨1, (some 6), none, (.q (.ldc (.t 5))), []⟩ :: ⟨2, (some 7), none, (.q (.len (.t 6))), []⟩ :: ⟨3, (some 8), none, (.q (.fad 4 (.t 1))), []⟩ :: ⟨4, (some 9), none, (.q (.ldc (.t 8))), []⟩ :: ⟨5, (some 10), none, (.q (.len (.t 9))), []⟩ :: hid l_longState_4
@[simp] def b_longState_5 (_ : Unit) : EB := reg0 (hid l_longState_3) 8
@[simp] def l_longState_6 (_ : Unit) : List EOp := [⟨0, (some 12), none, (.q (.mov (.t 3))), []⟩, ⟨1, (some 13), none, (.q (.bin .gtr (.t 12) (.k (.int .i64 100)))), []⟩]
@[simp] def b_longState_7 (_ : Unit) : EB := reg0 (hid l_longState_6) 2
@[simp] def l_longState_8 (_ : Unit) : List EOp := [⟨0, (some 2), none, (.q (.mov (.k (.bool true)))), []⟩]
@[simp] def b_longState_9 (_ : Unit) : EB := reg0 (hid l_longState_8) 1
@[simp] def b_longState_10 (_ : Unit) : EB := .seq (hid b_longState_9) .ret
@[simp] def b_longState_11 (_ : Unit) : EB := .cond (.t 13) (hid b_longState_10) .skip
@[simp] def b_longState_12 (_ : Unit) : EB := .seq (hid b_longState_7) (hid b_longState_11)
@[simp] def l_longState_13 (_ : Unit) : List EOp := [⟨0, (some 4), none, (.q (.mov (.k (.int .i64 0)))), []⟩]
@[simp] def b_longState_14 (_ : Unit) : EB := reg0 (hid l_longState_13) 1
@[simp] def l_longState_15 (_ : Unit) : List EOp := [⟨0, (some 14), none, (.q (.mov (.t 4))), []⟩, ⟨1, (some 15), none, (.q (.fad 4 (.t 1))), []⟩, ⟨2, (some 16), none, (.q (.ldc (.t 15))), []⟩, ⟨3, (some 17), none, (.q (.len (.t 16))), []⟩, ⟨4, (some 18), none, (.q (.bin .lss (.t 14) (.t 17))), []⟩]
@[simp] def b_longState_16 (_ : Unit) : EB := reg0 (hid l_longState_15) 5
@[simp] def b_longState_17 (_ : Unit) : EB := .cond (.t 18) .skip (.exit 0)
@[simp] def b_longState_18 (_ : Unit) : EB := .seq (hid b_longState_16) (hid b_longState_17)
@[simp] def l_longState_20 (_ : Unit) : List EOp := [⟨6, (some 27), none, (.q (.ldc (.t 26))), []⟩, ⟨7, (some 28), none, (.q (.len (.t 27))), []⟩, ⟨8, (some 29), none, (.q (.bin .add (.t 21) (.t 28))), []⟩, ⟨9, (some 3), none, (.q (.mov (.t 29))), []⟩]
@[simp] def l_longState_19 (_ : Unit) : List EOp := ⟨0, (some 21), none, (.q (.mov (.t 3))), []⟩ :: ⟨1, (some 22), none, (.q (.fad 4 (.t 1))), []⟩ :: ⟨2, (some 23), none, (.q (.ldc (.t 22))), []⟩ :: ⟨3, (some 24), none, (.q (.mov (.t 4))), []⟩ :: ⟨4, (some 25), none, (.q (.isl 3 (.t 23) (.t 24))), []⟩ :: ⟨5, (some 26), none, (.q (.fad 2 (.t 25))), []⟩ :: hid l_longState_20
@[simp] def b_longState_21 (_ : Unit) : EB := reg0 (hid l_longState_19) 10
@[simp] def b_longState_22 (_ : Unit) : EB := .block 1 (hid b_longState_21)
@[simp] def l_longState_23 (_ : Unit) : List EOp := [⟨0, (some 19), none, (.q (.mov (.t 4))), []⟩, ⟨1, (some 20), none, (.q (.bin .add (.t 19) (.k (.int .i64 1)))), []⟩, ⟨2, (some 4), none, (.q (.mov (.t 20))), []⟩]
@[simp] def b_longState_24 (_ : Unit) : EB := reg0 (hid l_longState_23) 3
@[simp] def b_longState_25 (_ : Unit) : EB := .seq (hid b_longState_22) (hid b_longState_24)
@[simp] def b_longState_26 (_ : Unit) : EB := .seq (hid b_longState_18) (hid b_longState_25)
@[simp] def b_longState_27 (_ : Unit) : EB := .loop (hid b_longState_26)
@[simp] def b_longState_28 (_ : Unit) : EB := .block 0 (hid b_longState_27)
@[simp] def b_longState_29 (_ : Unit) : EB := .seq (hid b_longState_14) (hid b_longState_28)
@[simp] def l_longState_30 (_ : Unit) : List EOp := [⟨0, (some 30), none, (.q (.mov (.t 3))), []⟩, ⟨1, (some 31), none, (.q (.bin .gtr (.t 30) (.k (.int .i64 300)))), []⟩, ⟨2, (some 2), none, (.q (.mov (.t 31))), []⟩]
@[simp] def b_longState_31 (_ : Unit) : EB := reg0 (hid l_longState_30) 3
@[simp] def b_longState_32 (_ : Unit) : EB := .seq (hid b_longState_31) .ret
@[simp] def b_longState_33 (_ : Unit) : EB := .seq (hid b_longState_29) (hid b_longState_32)
@[simp] def b_longState_34 (_ : Unit) : EB := .seq (hid b_longState_12) (hid b_longState_33)
@[simp] def b_longState_35 (_ : Unit) : EB := .seq (hid b_longState_5) (hid b_longState_34)
@[simp] def b_longState_36 (_ : Unit) : EB := .seq (hid b_longState_2) (hid b_longState_35)
def c_longState : EB × List QOp × Nat := ((hid b_longState_36), [(.mov (.t 2))], 32)
theorem k_longState : cfun Tryd.prog 6 = some c_longState := by kernel_rfl


def sumK (l : List Hol) : Nat := (l.map (·.keys.length)).sum
theorem sumK_snoc (l : List Hol) (h : Hol) : sumK (l ++ [h]) = sumK l + h.keys.length := by simp [sumK]
theorem sumK_le : ∀ {l : List Hol}, (∀ h ∈ l, h.keys.length ≤ 100000000) → sumK l ≤ 100000000 * l.length
  | [], _ => by simp [sumK]
  | h :: r, q => by
    have h1 := q h (by simp)
    have h2 := sumK_le (l := r) (fun y hy => q y (by simp [hy]))
    simp [sumK] at *; omega
theorem sumK_mem : ∀ {l : List Hol} {h : Hol}, h ∈ l → h.keys.length ≤ sumK l
  | x :: r, h, q => by
    rcases List.mem_cons.1 q with rfl | q
    · simp [sumK]
    · have := sumK_mem q
      simp [sumK] at *; omega
/-- Has a state more than is gone through here? -/
def longS (s : Sta) : Bool := decide (100 < s.pays.length + s.holds.length ∨ 300 < s.pays.length + s.holds.length + sumK s.holds)
theorem longS_small {s : Sta} (h : longS s = false) : s.small ∧ s.pays.length ≤ 100 ∧ s.holds.length ≤ 100 ∧ ∀ h ∈ s.holds, h.keys.length ≤ 300 := by
  have h' := of_decide_eq_false h
  refine ⟨⟨by omega, by omega, fun x hx => ?_⟩, by omega, by omega, fun x hx => ?_⟩ <;>
  · have := sumK_mem hx
    omega

set_option maxHeartbeats 2000000 in
theorem longState_ok (s : Sta) (hs : s.ok) : ECalls Tryd.prog 6 [SV s] [] fun y H' => H' = [] ∧ y = .lit (.bool (longS s)) := by
  obtain ⟨ok1, ok2, ok3, ok4, ok5, ok6, ok7⟩ := id hs
  have w0 : IntKind.i64.wrap ((s.pays.length : Int) + (s.holds.length : Int)) = ((s.pays.length + s.holds.length : Nat) : Int) := by rw [wrap_i64 (by omega) (by omega)]; simp
  refine ecalls k_longState ?_
  simp [c_longState, SV, staC, w0, -Int.natCast_add]
  refine alt (fun hlt => ?_) (fun hlt => ?_)
  · simp
    have : longS s = true := by unfold longS; exact decide_eq_true (.inl (by omega))
    exact fin [] (by decide) rfl rfl rfl ⟨rfl, by simp [this]⟩
  simp [-Int.natCast_add]
  refine eloop (α := Nat) (fun i => i ≤ s.holds.length) (fun i => s.holds.length - i)
    (fun i => [.any, Ptr 0, .any, I .i64 ((s.pays.length + s.holds.length + sumK (s.holds.take i) : Nat) : Int), I .i64 i, .any, .any, .any, .any, .any, .any, .any, .any, .any, .any, .any, .any, .any, .any, .any, .any, .any, .any, .any, .any, .any, .any, .any, .any, .any, .any, .any]) (fun i => [some (.box 26 (staC s))]) 0 [0]
    (Nat.zero_le _) (by simp [Ptr, I, sumK]) (by simp [staC]) (by simp) (by simp) (by simp) ?_
  intro i hi
  have hlk := sumK_le (l := s.holds.take i) (fun h hh => (ok5 h (List.mem_of_mem_take hh)).2.2.2)
  have hlt' : (s.holds.take i).length = i := by simp; omega
  simp [Ptr, I, staC, -Int.natCast_add]
  refine alt (fun hlt => ?_) (fun hlt => ?_)
  · obtain ⟨p, hc⟩ : ∃ p, s.holds[i]? = some p := ⟨s.holds[i], by simp [hlt]⟩
    have hcb := holv_get hc
    have hk := (ok5 p (List.mem_of_getElem? hc)).2.2.2
    have hts : sumK (s.holds.take (i + 1)) = sumK (s.holds.take i) + p.keys.length := by rw [take_s hc, sumK_snoc]
    have w2 : IntKind.i64.wrap ((i : Int) + 1) = ((i + 1 : Nat) : Int) := wrap_i64 (by omega) (by omega)
    have w3 : IntKind.i64.wrap (((s.pays.length + s.holds.length + sumK (s.holds.take i) : Nat) : Int) + (p.keys.length : Int)) = ((s.pays.length + s.holds.length + sumK (s.holds.take (i + 1)) : Nat) : Int) := by
      rw [wrap_i64 (by omega) (by omega), hts]; simp; omega
    simp [hcb, holF, w2, w3, -Int.natCast_add]
    exact round (i + 1) [0] (by omega) (by omega) (by simp) (by simp) (by simp) (by simp) (by simp)
  have hil : i = s.holds.length := by omega
  subst hil
  rw [List.take_length] at *
  simp [-Int.natCast_add]
  exact fin [] (by decide) rfl rfl rfl ⟨rfl, by
    have : longS s = decide (300 < ((s.pays.length + s.holds.length + sumK s.holds : Nat) : Int)) := decide_eq_decide.2 (by omega)
    simp [this]⟩

end Go.Proofs.YtpilpjameifcfaaDoor

namespace Go.Proofs.YtpilpjameifcfaaDoor
open Go Go.EW
set_option linter.unusedSimpArgs false
set_option linter.unusedVariables false

@[simp] def l_giveState_1 (_ : Unit) : List EOp := [⟨0, (some 1), none, (.q (.box 26 (.t 0))), []⟩, ⟨1, (some 2), none, (.q (.alloc 39 [(.int .i64 0), (.int .i64 0), (.int .i64 0), (.slice none 0 0), (.slice none 0 0)])), []⟩]
@[simp] def b_giveState_2 (_ : Unit) : EB := reg0 (hid l_giveState_1) 2
@[simp] def l_giveState_4 (_ : Unit) : List EOp := [⟨6, none, none, (.fz (.sto 5 (.t 3) (.t 11))), []⟩]
@[simp] def l_giveState_3 (_ : Unit) : List EOp := ⟨0, (some 7), none, (.q (.fad 0 (.t 1))), []⟩ :: ⟨1, (some 8), none, (.q (.ldc (.t 7))), []⟩ :: ⟨2, (some 9), none, (.q (.fad 1 (.t 1))), []⟩ :: ⟨3, (some 10), none, (.q (.lda 2 (.t 9))), []⟩ :: ⟨4, (some 11), none, (.q (.build [(.int .i64 0), (.int .i64 0), (.int .i64 0), (.slice none 0 0), (.slice none 0 0)] [(0, 1, (.t 8)), (1, 2, (.t 10))])), []⟩ :: ⟨5, (some 3), none, (.q (.alloc 39 [(.int .i64 0), (.int .i64 0), (.int .i64 0), (.slice none 0 0), (.slice none 0 0)])), []⟩ :: hid l_giveState_4
@[simp] def b_giveState_5 (_ : Unit) : EB := reg0 (hid l_giveState_3) 7
@[simp] def l_giveState_6 (_ : Unit) : List EOp := [⟨0, (some 4), none, (.q (.mov (.k (.int .i64 0)))), []⟩]
@[simp] def b_giveState_7 (_ : Unit) : EB := reg0 (hid l_giveState_6) 1
@[simp] def l_giveState_8 (_ : Unit) : List EOp := [⟨0, (some 12), none, (.q (.mov (.t 4))), []⟩, ⟨1, (some 13), none, (.q (.fad 3 (.t 1))), []⟩, ⟨2, (some 14), none, (.q (.ldc (.t 13))), []⟩, ⟨3, (some 15), none, (.q (.len (.t 14))), []⟩, ⟨4, (some 16), none, (.q (.bin .lss (.t 12) (.t 15))), []⟩]
@[simp] def b_giveState_9 (_ : Unit) : EB := reg0 (hid l_giveState_8) 5
@[simp] def b_giveState_10 (_ : Unit) : EB := .cond (.t 16) .skip (.exit 0)
@[simp] def b_giveState_11 (_ : Unit) : EB := .seq (hid b_giveState_9) (hid b_giveState_10)
@[simp] def l_giveState_13 (_ : Unit) : List EOp := [⟨6, (some 25), none, (.q (.lda 36 (.t 24))), []⟩, ⟨7, (some 26), none, (.q (.bsl 36 (([(.int .i64 0), (.int .i64 0), (.int .i64 0), (.int .i64 0)] : List Value) ++ zU8) 1 [(0, (.t 25))])), []⟩, ⟨8, (some 27), none, (.app 45 36 64 (.t 20) (.t 26)), []⟩, ⟨9, (some 28), none, (.q (.fad 3 (.t 3))), []⟩, ⟨10, none, none, (.fz (.sto 1 (.t 28) (.t 27))), []⟩]
@[simp] def l_giveState_12 (_ : Unit) : List EOp := ⟨0, (some 19), none, (.q (.fad 3 (.t 3))), []⟩ :: ⟨1, (some 20), none, (.q (.ldc (.t 19))), []⟩ :: ⟨2, (some 21), none, (.q (.fad 3 (.t 1))), []⟩ :: ⟨3, (some 22), none, (.q (.ldc (.t 21))), []⟩ :: ⟨4, (some 23), none, (.q (.mov (.t 4))), []⟩ :: ⟨5, (some 24), none, (.q (.isl 36 (.t 22) (.t 23))), []⟩ :: hid l_giveState_13
@[simp] def b_giveState_14 (_ : Unit) : EB := reg0 (hid l_giveState_12) 11
@[simp] def b_giveState_15 (_ : Unit) : EB := .block 1 (hid b_giveState_14)
@[simp] def l_giveState_16 (_ : Unit) : List EOp := [⟨0, (some 17), none, (.q (.mov (.t 4))), []⟩, ⟨1, (some 18), none, (.q (.bin .add (.t 17) (.k (.int .i64 1)))), []⟩, ⟨2, (some 4), none, (.q (.mov (.t 18))), []⟩]
@[simp] def b_giveState_17 (_ : Unit) : EB := reg0 (hid l_giveState_16) 3
@[simp] def b_giveState_18 (_ : Unit) : EB := .seq (hid b_giveState_15) (hid b_giveState_17)
@[simp] def b_giveState_19 (_ : Unit) : EB := .seq (hid b_giveState_11) (hid b_giveState_18)
@[simp] def b_giveState_20 (_ : Unit) : EB := .loop (hid b_giveState_19)
@[simp] def b_giveState_21 (_ : Unit) : EB := .block 0 (hid b_giveState_20)
@[simp] def b_giveState_22 (_ : Unit) : EB := .seq (hid b_giveState_7) (hid b_giveState_21)
@[simp] def l_giveState_23 (_ : Unit) : List EOp := [⟨0, (some 5), none, (.q (.mov (.k (.int .i64 0)))), []⟩]
@[simp] def b_giveState_24 (_ : Unit) : EB := reg0 (hid l_giveState_23) 1
@[simp] def l_giveState_25 (_ : Unit) : List EOp := [⟨0, (some 29), none, (.q (.mov (.t 5))), []⟩, ⟨1, (some 30), none, (.q (.fad 4 (.t 1))), []⟩, ⟨2, (some 31), none, (.q (.ldc (.t 30))), []⟩, ⟨3, (some 32), none, (.q (.len (.t 31))), []⟩, ⟨4, (some 33), none, (.q (.bin .lss (.t 29) (.t 32))), []⟩]
@[simp] def b_giveState_26 (_ : Unit) : EB := reg0 (hid l_giveState_25) 5
@[simp] def b_giveState_27 (_ : Unit) : EB := .cond (.t 33) .skip (.exit 2)
@[simp] def b_giveState_28 (_ : Unit) : EB := .seq (hid b_giveState_26) (hid b_giveState_27)
@[simp] def l_giveState_29 (_ : Unit) : List EOp := [⟨0, (some 6), none, (.q (.mov (.k (.slice none 0 0)))), []⟩]
@[simp] def b_giveState_30 (_ : Unit) : EB := reg0 (hid l_giveState_29) 1
@[simp] def l_giveState_35 (_ : Unit) : List EOp := [⟨24, (some 60), none, (.app 71 3 40 (.t 37) (.t 59)), []⟩, ⟨25, (some 61), none, (.q (.fad 4 (.t 3))), []⟩, ⟨26, none, none, (.fz (.sto 1 (.t 61) (.t 60))), []⟩]
@[simp] def l_giveState_34 (_ : Unit) : List EOp := ⟨18, (some 54), none, (.q (.isl 3 (.t 52) (.t 53))), []⟩ :: ⟨19, (some 55), none, (.q (.fad 2 (.t 54))), []⟩ :: ⟨20, (some 56), none, (.q (.ldc (.t 55))), []⟩ :: ⟨21, (some 57), none, (.app 3 1 8 (.t 50) (.t 56)), [0, 1, 2, 3, 4, 5, 6, 7, 8, 9, 10, 11, 12, 13]⟩ :: ⟨22, (some 58), none, (.q (.build [(.int .i64 0), (.int .i64 0), (.slice none 0 0)] [(0, 1, (.t 43)), (1, 1, (.t 49)), (2, 1, (.t 57))])), []⟩ :: ⟨23, (some 59), none, (.fz (.q (.bsl 3 [(.int .i64 0), (.int .i64 0), (.slice none 0 0)] 1 [(0, (.t 58))]))), [0, 1]⟩ :: hid l_giveState_35
@[simp] def l_giveState_33 (_ : Unit) : List EOp := ⟨12, (some 48), none, (.q (.fad 1 (.t 47))), []⟩ :: ⟨13, (some 49), none, (.q (.ldc (.t 48))), []⟩ :: ⟨14, (some 50), none, (.q (.mov (.t 6))), []⟩ :: ⟨15, (some 51), none, (.q (.fad 4 (.t 1))), []⟩ :: ⟨16, (some 52), none, (.q (.ldc (.t 51))), []⟩ :: ⟨17, (some 53), none, (.q (.mov (.t 5))), []⟩ :: hid l_giveState_34
@[simp] def l_giveState_32 (_ : Unit) : List EOp := ⟨6, (some 42), none, (.q (.fad 0 (.t 41))), []⟩ :: ⟨7, (some 43), none, (.q (.ldc (.t 42))), []⟩ :: ⟨8, (some 44), none, (.q (.fad 4 (.t 1))), []⟩ :: ⟨9, (some 45), none, (.q (.ldc (.t 44))), []⟩ :: ⟨10, (some 46), none, (.q (.mov (.t 5))), []⟩ :: ⟨11, (some 47), none, (.q (.isl 3 (.t 45) (.t 46))), []⟩ :: hid l_giveState_33
@[simp] def l_giveState_31 (_ : Unit) : List EOp := ⟨0, (some 36), none, (.q (.fad 4 (.t 3))), []⟩ :: ⟨1, (some 37), none, (.q (.ldc (.t 36))), []⟩ :: ⟨2, (some 38), none, (.q (.fad 4 (.t 1))), []⟩ :: ⟨3, (some 39), none, (.q (.ldc (.t 38))), []⟩ :: ⟨4, (some 40), none, (.q (.mov (.t 5))), []⟩ :: ⟨5, (some 41), none, (.q (.isl 3 (.t 39) (.t 40))), []⟩ :: hid l_giveState_32
@[simp] def b_giveState_36 (_ : Unit) : EB := reg1 (hid l_giveState_31) 27
@[simp] def b_giveState_37 (_ : Unit) : EB := .seq (hid b_giveState_30) (hid b_giveState_36)
@[simp] def b_giveState_38 (_ : Unit) : EB := .block 3 (hid b_giveState_37)
@[simp] def l_giveState_39 (_ : Unit) : List EOp := [⟨0, (some 34), none, (.q (.mov (.t 5))), []⟩, ⟨1, (some 35), none, (.q (.bin .add (.t 34) (.k (.int .i64 1)))), []⟩, ⟨2, (some 5), none, (.q (.mov (.t 35))), []⟩]
@[simp] def b_giveState_40 (_ : Unit) : EB := reg0 (hid l_giveState_39) 3
@[simp] def b_giveState_41 (_ : Unit) : EB := .seq (hid b_giveState_38) (hid b_giveState_40)
@[simp] def b_giveState_42 (_ : Unit) : EB := .seq (hid b_giveState_28) (hid b_giveState_41)
@[simp] def b_giveState_43 (_ : Unit) : EB := .loop (hid b_giveState_42)
@[simp] def b_giveState_44 (_ : Unit) : EB := .block 2 (hid b_giveState_43)
@[simp] def b_giveState_45 (_ : Unit) : EB := .seq (hid b_giveState_24) (hid b_giveState_44)
@[simp] def l_giveState_46 (_ : Unit) : List EOp := [⟨0, (some 62), none, (.q (.lda 5 (.t 3))), []⟩, ⟨1, none, none, (.fz (.sto 5 (.t 2) (.t 62))), []⟩]
@[simp] def b_giveState_47 (_ : Unit) : EB := reg0 (hid l_giveState_46) 2
@[simp] def b_giveState_48 (_ : Unit) : EB := .seq (hid b_giveState_47) .ret
@[simp] def b_giveState_49 (_ : Unit) : EB := .seq (hid b_giveState_45) (hid b_giveState_48)
@[simp] def b_giveState_50 (_ : Unit) : EB := .seq (hid b_giveState_22) (hid b_giveState_49)
@[simp] def b_giveState_51 (_ : Unit) : EB := .seq (hid b_giveState_5) (hid b_giveState_50)
@[simp] def b_giveState_52 (_ : Unit) : EB := .seq (hid b_giveState_2) (hid b_giveState_51)
def c_giveState : EB × List QOp × Nat := ((hid b_giveState_52), [(.lda 5 (.t 2))], 63)
theorem k_giveState : cfun Tryd.prog 8 = some c_giveState := by kernel_rfl


def zC : List EC := [.fz (.lit (.int .i64 0)), .fz (.lit (.int .i64 0)), .fz (.lit (.int .i64 0)), .fz (.lit (.slice none 0 0)), .fz (.lit (.slice none 0 0))]
def gC (s : Sta) (a b : EC) : List EC := [.fz (.lit (.int .i64 s.num)), .fz (.lit (.int .i64 s.h0)), .fz (.lit (.int .i64 s.h1)), a, b]

set_option maxHeartbeats 2000000 in
theorem giveState_ok (s : Sta) (hs : s.ok) (hm : s.small) : ECalls Tryd.prog 8 [SV s] [] fun y H' => H' = [] ∧ y = SV s := by
  obtain ⟨ok1, ok2, ok3, ok4, ok5, ok6, ok7⟩ := id hs
  obtain ⟨m1, m2, m3⟩ := hm
  refine ecalls k_giveState ?_
  simp [c_giveState, SV, staC]
  refine loopW _ (weak_nil (o := 112) (k := 3) (ty := 45) (es := 36) rfl rfl (by omega)) ?_
  refine loopW _ (weak_nil (o := 112) (k := 4) (ty := 71) (es := 3) rfl rfl (by omega)) ?_
  refine eloop (α := Nat) (fun i => i ≤ s.pays.length) (fun i => s.pays.length - i)
    (fun i => [.any, Ptr 0, Ptr 1, Ptr 2, I .i64 i, .any, .any, .any, .any, .any, .any, .any, .any, .any, .any, .any, .any, .any, .any, .any, .any, .any, .any, .any, .any, .any, .any, .any, .any, .any, .any, .any, .any, .any, .any, .any, .any, .any, .any, .any, .any, .any, .any, .any, .any, .any, .any, .any, .any, .any, .any, .any, .any, .any, .any, .any, .any, .any, .any, .any, .any, .any, .any]) (fun i => [some (.box 26 (staC s)), some (.box 39 zC), some (.box 39 (gC s (.row 3 i) (.row 4 0))), some (.row 45 36 (payv (s.pays.take i))), some (.row 71 3 [])]) 0 [0, 16, 112, 160, 161]
    (Nat.zero_le _) (by simp [Ptr, I]) (by simp [zC, gC, staC, payv]) (by simp) (by simp) (by simp) ?_
  intro i hi
  simp [Ptr, I, staC, zC, gC]
  refine alt (fun hlt => ?_) (fun hlt => ?_)
  · obtain ⟨p, hc⟩ : ∃ p, s.pays[i]? = some p := ⟨s.pays[i], by simp [hlt]⟩
    have hpo := ok4 p (List.mem_of_getElem? hc)
    have hl32 := hpo.2.2.2.2
    have ht : p.lock.take 32 = p.lock := List.take_of_length_le (by omega)
    have hcb := payv_get hc
    have w2 : IntKind.i64.wrap ((i : Int) + 1) = ((i + 1 : Nat) : Int) := wrap_i64 (by omega) (by omega)
    have e2 : payv (s.pays.take (i + 1)) = payv (s.pays.take i) ++ [payF p] := by rw [take_s hc]; simp [payv]
    have hm0 : min i s.pays.length = i := by omega
    simp [hcb, payF, hl32, ht, w2, hm0, -Int.natCast_add]
    refine ⟨by omega, ?_⟩
    exact round (i + 1) [0, 1, 2, 213, 4] (by omega) (by omega) (by simp) (by simp [e2, payF]) (by simp) (by simp) (by simp)
  have hil : i = s.pays.length := by omega
  subst hil
  rw [List.take_length]
  simp
  refine eloop (α := Nat) (fun i => i ≤ s.holds.length) (fun i => s.holds.length - i)
    (fun i => [.any, Ptr 0, Ptr 1, Ptr 2, .any, I .i64 i, .any, .any, .any, .any, .any, .any, .any, .any, .any, .any, .any, .any, .any, .any, .any, .any, .any, .any, .any, .any, .any, .any, .any, .any, .any, .any, .any, .any, .any, .any, .any, .any, .any, .any, .any, .any, .any, .any, .any, .any, .any, .any, .any, .any, .any, .any, .any, .any, .any, .any, .any, .any, .any, .any, .any, .any, .any]) (fun i => [some (.box 26 (staC s)), some (.box 39 zC), some (.box 39 (gC s (.row 3 s.pays.length) (.row 4 i))), some (.row 45 36 (payv s.pays)), some (.row 71 3 (holv (s.holds.take i)))]) 0 [0, 1, 2, 3, 4]
    (Nat.zero_le _) (by simp [Ptr, I]) (by simp [zC, gC, staC, holv]) (by simp) (by simp) (by simp) ?_
  intro i hi
  simp [Ptr, I, staC, zC, gC]
  refine alt (fun hlt => ?_) (fun hlt => ?_)
  · obtain ⟨p, hc⟩ : ∃ p, s.holds[i]? = some p := ⟨s.holds[i], by simp [hlt]⟩
    have hk := m3 p (List.mem_of_getElem? hc)
    have hcb := holv_get hc
    have w2 : IntKind.i64.wrap ((i : Int) + 1) = ((i + 1 : Nat) : Int) := wrap_i64 (by omega) (by omega)
    have e2 : holv (s.holds.take (i + 1)) = holv (s.holds.take i) ++ [holF p] := by rw [take_s hc]; simp [holv]
    have hm0 : min i s.holds.length = i := by omega
    simp [hcb, holF, w2, hm0, -Int.natCast_add]
    refine ⟨⟨by omega, by omega⟩, ⟨by omega, by omega⟩, ?_⟩
    exact round (i + 1) [0, 1, 2, 3, 485] (by omega) (by omega) (by simp) (by simp [e2, holF, List.take_of_length_le]) (by simp) (by simp) (by simp)
  have hil : i = s.holds.length := by omega
  subst hil
  rw [List.take_length]
  simp
  refine finW _ (weak_frz (o := 3) (ty := 45) (es := 36) (xs := payv s.pays) rfl) ?_
  refine finW _ (weak_frz (o := 4) (ty := 71) (es := 3) (xs := holv s.holds) rfl) ?_
  exact fin [] (by decide) rfl rfl rfl ⟨rfl, by simp [List.take_of_length_le]⟩

end Go.Proofs.YtpilpjameifcfaaDoor

namespace Go.Proofs.YtpilpjameifcfaaDoor
open Go Go.EW
set_option linter.unusedSimpArgs false
set_option linter.unusedVariables false

@[simp] def l_giveOp_1 (_ : Unit) : List EOp := [⟨0, (some 1), none, (.q (.box 33 (.t 0))), []⟩, ⟨1, (some 2), none, (.q (.alloc 47 (([(.int .i64 0), (.int .i64 0), (.int .i64 0), (.int .i64 0), (.int .i64 0), (.int .i64 0), (.int .i64 0)] : List Value) ++ zU8 ++ [(.slice none 0 0)]))), []⟩]
@[simp] def b_giveOp_2 (_ : Unit) : EB := reg0 (hid l_giveOp_1) 2
@[simp] def l_giveOp_3 (_ : Unit) : List EOp := [⟨0, (some 3), none, (.q (.mov (.k (.slice none 0 0)))), []⟩]
@[simp] def b_giveOp_4 (_ : Unit) : EB := reg0 (hid l_giveOp_3) 1
@[simp] def l_giveOp_7 (_ : Unit) : List EOp := [⟨12, (some 16), none, (.q (.build (([(.int .i64 0), (.int .i64 0), (.int .i64 0), (.int .i64 0), (.int .i64 0), (.int .i64 0), (.int .i64 0)] : List Value) ++ zU8 ++ [(.slice none 0 0)]) [(0, 1, (.t 5)), (1, 1, (.t 7)), (2, 1, (.t 9)), (3, 36, (.t 11)), (39, 1, (.t 15))])), []⟩, ⟨13, none, none, (.fz (.sto 40 (.t 2) (.t 16))), []⟩]
@[simp] def l_giveOp_6 (_ : Unit) : List EOp := ⟨6, (some 10), none, (.q (.fad 3 (.t 1))), []⟩ :: ⟨7, (some 11), none, (.q (.lda 36 (.t 10))), []⟩ :: ⟨8, (some 12), none, (.q (.mov (.t 3))), []⟩ :: ⟨9, (some 13), none, (.q (.fad 39 (.t 1))), []⟩ :: ⟨10, (some 14), none, (.q (.ldc (.t 13))), []⟩ :: ⟨11, (some 15), none, (.app 5 1 1 (.t 12) (.t 14)), [0, 1, 2, 3, 4, 5, 6, 7]⟩ :: hid l_giveOp_7
@[simp] def l_giveOp_5 (_ : Unit) : List EOp := ⟨0, (some 4), none, (.q (.fad 0 (.t 1))), []⟩ :: ⟨1, (some 5), none, (.q (.ldc (.t 4))), []⟩ :: ⟨2, (some 6), none, (.q (.fad 1 (.t 1))), []⟩ :: ⟨3, (some 7), none, (.q (.ldc (.t 6))), []⟩ :: ⟨4, (some 8), none, (.q (.fad 2 (.t 1))), []⟩ :: ⟨5, (some 9), none, (.q (.ldc (.t 8))), []⟩ :: hid l_giveOp_6
@[simp] def b_giveOp_8 (_ : Unit) : EB := reg1 (hid l_giveOp_5) 14
@[simp] def b_giveOp_9 (_ : Unit) : EB := .seq (hid b_giveOp_8) .ret
@[simp] def b_giveOp_10 (_ : Unit) : EB := .seq (hid b_giveOp_4) (hid b_giveOp_9)
@[simp] def b_giveOp_11 (_ : Unit) : EB := .seq (hid b_giveOp_2) (hid b_giveOp_10)
def c_giveOp : EB × List QOp × Nat := ((hid b_giveOp_11), [(.lda 40 (.t 2))], 17)
theorem k_giveOp : cfun Tryd.prog 10 = some c_giveOp := by kernel_rfl


@[simp] theorem fz_hc (o es : Nat) (xs : List (List FV)) (l : List UInt8) : (hc l).map (fzE o es xs) = hc l := by
  induction l with
  | nil => rfl
  | cons b r ih =>
    have e : hc (b :: r) = .fz (.lit (.int .u8 (b.toNat : Int))) :: hc r := rfl
    rw [e, List.map_cons, ih]
    rfl

set_option maxRecDepth 8000 in
set_option maxHeartbeats 8000000 in
theorem giveOp_ok (o : WOp) (ho : o.ok) : ECalls Tryd.prog 10 [OpV o] [] fun y H' => H' = [] ∧ y = OpV o := by
  have h32 := ho.2.2.2.1.2.2.2.2
  have hs := ho.2.2.2.2
  have t32 : o.pay.lock.take 32 = o.pay.lock := List.take_of_length_le (by omega)
  have hcn : hc ([] : List UInt8) = [] := rfl
  have z33 := dr33 hz_len
  refine ecalls k_giveOp ?_
  simp [c_giveOp, OpV, wopC, h32, t32, hcn, z33, tk33 h32, dr33 h32]
  refine ⟨⟨by omega, by omega⟩, ?_⟩
  refine finW _ (weak_frz (o := 224) (ty := 5) (es := 1) (xs := bsv o.sec) rfl) ?_
  exact fin [] (by decide) (v := OpV o) (by simp [resV, resT, evT, asT, OpV, wopC, fzEO, h32, t32, hcn, tk33 h32]) (by simp [conR, conTs, conT, OpV, wopC]) rfl ⟨rfl, rfl⟩

end Go.Proofs.YtpilpjameifcfaaDoor
