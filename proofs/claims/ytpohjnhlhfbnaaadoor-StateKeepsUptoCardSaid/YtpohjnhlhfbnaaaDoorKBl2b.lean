import Derived.Test.YtpohjnhlhfbnaaaDoorKBl2
namespace Go.Proofs.YtpohjnhlhfbnaaaDoor
open Go Go.EW
set_option linter.unusedSimpArgs false
set_option linter.unusedVariables false

/-! the loops, each by itself -/
def SO (r : Nat) (h : List UInt32) (n tt nn : Nat) : EO := .box 153 (wl h ++ [.row r n, .fz (.lit (.int .u64 tt)), .fz (.lit (.int .i64 nn))])
def RB (w : List UInt8) : EO := .row 5 1 (bsv w)
def hSB (h : List UInt32) (tt nn : Nat) : Option EO := some (SO 1 h 64 tt nn)
theorem wl_putR {v : List UInt32} {i : Nat} {x : UInt32} {r : List EC} (h : i < v.length) : List.take i (wl v ++ r) ++ .fz (.lit (.int .u32 (wi x))) :: List.drop (i + 1) (wl v ++ r) = wl (v.set i x) ++ r := by
  rw [List.take_append_of_le_length (by simp; omega), List.drop_append_of_le_length (by simp; omega), ← wl_put h]
  simp
theorem wl_gER {v : List UInt32} {i : Nat} {r : List EC} (h : i < v.length) (h2 : i < (wl v ++ r).length) : (wl v ++ r)[i]'h2 = .fz (.lit (.int .u32 (wi (g v i)))) := by
  rw [List.getElem_append_left (by simpa using h), wl_gE h]
theorem wl_gR {v : List UInt32} {i : Nat} {r : List EC} (h : i < v.length) : (wl v ++ r)[i]? = some (.fz (.lit (.int .u32 (wi (g v i))))) := by
  rw [List.getElem?_append_left (by simpa using h), wl_g h]
@[simp] theorem strAll_wlR (ids : List Nat) (l : List UInt32) (r : List EC) : strAll ids (wl l ++ r) = (strAll ids r).map (wl l ++ ·) := by
  induction l with
  | nil => simp [wl]
  | cons b t ih =>
    have e : wl (b :: t) ++ r = .fz (.lit (.int .u32 (wi b))) :: (wl t ++ r) := rfl
    rw [e]
    simp only [strAll, ih]
    cases strAll ids r <;> rfl
theorem wl_t8 {v : List UInt32} {r : List EC} (h : v.length = 8) : List.take 8 (wl v ++ r) = wl v := List.take_left' (by simpa using h)
def tb0 (t : Nat) (last : Bool) (i : Nat) (e : EV) : List EV := [.v (.c (.ptr 0 0)), .any, .lit (.int .u64 t), .lit (.bool last), .any, .v (.c (.ptr 2 0)), .any, .any, .v (.c (.ptr 3 0)), .v (.c (.ptr 4 0)), .any, .any, .any, .any, .any, .any, .any, NV i, e, .any, .any, .any, .any, .any, .any, .any, .any, .any, .any, .any, .any, .any, .any, .any, .any, .any, .any, .any, .any, .any, .any, .any, .any, .any, .any, .any, .any, .any, .any, .any, .any, .any, .any, .any, .any, .any, .any, .any, .any, .any, .any, .any, .any, .any, .any, .any, .any, .any, .any, .any, .any, .any, .any, .any, .any, .any, .any, .any, .any, .any, .any, .any, .any, .any, .any, .any, .any, .any, .any, .any, .any, .any, .any, .any, .any, .any, .any, .any, .any, .any, .any, .any, .any, .any, .any, .any, .any, .any, .any, .any, .any, .any, .any, .any, .any, .any, .any, .any, .any, .any, .any, .any, .any, .any, .any, .any, .any, .any, .any, .any, .any, .any, .any, .any, .any, .any, .any, .any, .any, .any, .any, .any, .any, .any, .any, .any, .any, .any, .any, .any, .any, .any, .any, .any, .any, .any, .any, .any, .any, .any, .any, .any, .any]
def hb0 (tt nn : Nat) (w : List UInt8) (h : List UInt32) (b : List UInt8) (i : Nat) : List (Option EO) := [hSB h tt nn, some (RB w), some (.box 177 (hc b)), wB (mI b i), wB Z16]
@[simp] theorem hb0_len (tt nn : Nat) (w : List UInt8) (h : List UInt32) (b : List UInt8) (i : Nat) : (hb0 tt nn w h b i).length = 5 := rfl

set_option maxRecDepth 8000 in
set_option maxHeartbeats 8000000 in
theorem takeB_words (tt nn : Nat) (w : List UInt8) (h : List UInt32) (b : List UInt8) (t : Nat) (last : Bool) (hb : b.length = 64) (Q : Exit → St → Go.EW.Tok → Prop) (hQ : ∀ n, Q (.exit 0) ⟨tb0 t last 16 (.lit (.bool false)), ofO (hb0 tt nn w h b 16), n⟩ .on) :
    LoopT Tryd.prog 2 (hid b_btake_25) Q ⟨tb0 t last 0 .any, ofO (hb0 tt nn w h b 0), 5⟩ := by
  refine eloop (α := Nat) (fun i => i ≤ 16) (fun i => 16 - i) (fun i => tb0 t last i .any) (fun i => hb0 tt nn w h b i) 0 [0, 1, 2, 3, 4]
    (by omega) (by simp [tb0, NV]) (by simp [hb0, hSB, SO, RB, wB]) (by simp [hb0, hSB, SO, RB, wB]) (by decide) (by simp [hb0]) ?_
  intro i hi
  have hml : (mI b i).length = 16 := upW_len _ _
  by_cases hlt : i < 16
  · have il : (i : Int) < 16 := by omega
    have xl : i ≤ 15 := by omega
    obtain ⟨k, hk⟩ : ∃ k, k = 4 * i := ⟨_, rfl⟩
    have w0 : IntKind.i64.wrap (4 * (i : Int)) = (k : Int) := by rw [wrap_i64 (by omega) (by omega)]; omega
    have w1 : IntKind.i64.wrap ((k : Int) + 1) = ((k + 1 : Nat) : Int) := wrap_i64 (by omega) (by omega)
    have w2 : IntKind.i64.wrap ((k : Int) + 2) = ((k + 2 : Nat) : Int) := wrap_i64 (by omega) (by omega)
    have w3 : IntKind.i64.wrap ((k : Int) + 3) = ((k + 3 : Nat) : Int) := wrap_i64 (by omega) (by omega)
    have wi1 : IntKind.i64.wrap ((i : Int) + 1) = ((i + 1 : Nat) : Int) := wrap_i64 (by omega) (by omega)
    have k0 : k < 64 := by omega
    have k1 : k + 1 < 64 := by omega
    have k2 : k + 2 < 64 := by omega
    have k3 : k + 3 < 64 := by omega
    have j0 : (k : Int) < 64 := by omega
    have j1 : ((k + 1 : Nat) : Int) < 64 := by omega
    have j2 : ((k + 2 : Nat) : Int) < 64 := by omega
    have j3 : ((k + 3 : Nat) : Int) < 64 := by omega
    have s8 : ∀ x, ishl .u32 (wi x) 8 = wi (shl x 8) := fun x => wi_shl x 8 (by omega)
    have s16 : ∀ x, ishl .u32 (wi x) 16 = wi (shl x 16) := fun x => wi_shl x 16 (by omega)
    have s24 : ∀ x, ishl .u32 (wi x) 24 = wi (shl x 24) := fun x => wi_shl x 24 (by omega)
    have hw : ((bw (g8 b k) ||| shl (bw (g8 b (k + 1))) 8) ||| shl (bw (g8 b (k + 2))) 16) ||| shl (bw (g8 b (k + 3))) 24 = wordS b i := by rw [hk]; rfl
    simp [tb0, hb0, wB, hSB, SO, RB, NV, il, xl, w0, w1, w2, w3, wi1, hb, k0, k1, k2, k3, j0, j1, j2, j3, s8, s16, s24, hc_gE, hc_d0, wi_bw, wi_or, hw, hml, hlt, wl_put, wl_putR, wl_gER, wl_gR, mI_set, -Int.natCast_add]
    exact round (i + 1) [0, 1, 2, 3, 4] (by omega) (by omega) (by simp [tb0, NV]) (by simp [hb0, hSB, SO, RB, wB]) (by simp [hb0, hSB, SO, RB, wB]) (by decide) (by simp [hb0])
  · have hi16 : i = 16 := by omega
    subst hi16
    simp [tb0, hb0, NV]
    exact hQ _

def tb4 (r i : Nat) (e : EV) : List EV := [.v (.c (.ptr 0 0)), .any, .any, .any, .any, .any, .any, .any, .v (.c (.ptr 2 0)), .v (.c (.ptr 3 0)), .any, .any, .any, .v (.c (.ptr 4 0)), .any, .any, .any, .any, .any, .any, .any, .any, .any, .any, .any, .any, .any, .any, .any, .any, .any, .any, .any, .any, .any, .any, .any, .any, .any, .any, .any, .any, .any, .any, .any, .any, .any, .any, .any, .any, .any, .any, .any, .any, .any, .any, .any, .any, .any, .any, .any, .any, .any, .any, .any, .any, .any, .any, .any, .any, .any, .any, .any, .any, .any, .any, .any, .any, .any, NV r, .any, .any, .any, .any, .any, NV i, e, .any, .any, .any, .any, .any, .any, .any, .any, .any, .any, .any, .any, .any, .any, .any, .any, .any, .any, .any, .any, .any, .any, .any, .any, .any, .any, .any, .any, .any, .any, .any, .any, .any, .any, .any, .any, .any, .any, .any, .any, .any, .any, .any, .any, .any, .any, .any, .any, .any, .any, .any, .any, .any, .any, .any, .any, .any, .any, .any, .any, .any, .any, .any, .any, .any, .any, .any, .any, .any, .any, .any, .any, .any, .any, .any, .any]
def hb4 (tt nn : Nat) (w : List UInt8) (h m v : List UInt32) (r : Nat) : List (Option EO) := [hSB h tt nn, some (RB w), wB m, wB v, some (.box 197 (hc (ocB r)))]
@[simp] theorem hb4_len (tt nn : Nat) (w : List UInt8) (h m v : List UInt32) (r : Nat) : (hb4 tt nn w h m v r).length = 5 := rfl
set_option maxRecDepth 8000 in
set_option maxHeartbeats 8000000 in
theorem takeB_cols (tt nn : Nat) (w : List UInt8) (h m V : List UInt32) (r : Nat) (hlr : r < 10) (hml : m.length = 16) (er : V.length = 16) (Q : Exit → St → Go.EW.Tok → Prop) (hQ : ∀ n, Q (.exit 4) ⟨tb4 r 4 (.lit (.bool false)), ofO (hb4 tt nn w h m (colsS m r V 4) r), n⟩ .on) :
    LoopT Tryd.prog 2 (hid b_btake_74) Q ⟨tb4 r 0 .any, ofO (hb4 tt nn w h m V r), 5⟩ := by
  refine eloop (α := Nat) (fun i => i ≤ 4) (fun i => 4 - i) (fun i => tb4 r i .any) (fun i => hb4 tt nn w h m (colsS m r V i) r) 0 [0, 1, 2, 3, 4]
    (by omega) (by simp [tb4, NV]) (by simp [hb4, hSB, SO, RB, wB, colsS]) (by simp [hb4, hSB, SO, RB, wB]) (by decide) (by simp [hb4]) ?_
  intro i hi
  have ei : (colsS m r V i).length = 16 := by rw [colsS_len]; exact er
  by_cases hli : i < 4
  · have ii : (i : Int) < 4 := by omega
    have wi1 : IntKind.i64.wrap ((i : Int) + 1) = ((i + 1 : Nat) : Int) := wrap_i64 (by omega) (by omega)
    have w4 : IntKind.i64.wrap (4 + (i : Int)) = ((4 + i : Nat) : Int) := by rw [wrap_i64 (by omega) (by omega)]; omega
    have w8 : IntKind.i64.wrap (8 + (i : Int)) = ((8 + i : Nat) : Int) := by rw [wrap_i64 (by omega) (by omega)]; omega
    have w12 : IntKind.i64.wrap (12 + (i : Int)) = ((12 + i : Nat) : Int) := by rw [wrap_i64 (by omega) (by omega)]; omega
    have wa : IntKind.i64.wrap (2 * (i : Int)) = ((2 * i : Nat) : Int) := by rw [wrap_i64 (by omega) (by omega)]; omega
    have wb : IntKind.i64.wrap (((2 * i : Nat) : Int) + 1) = ((2 * i + 1 : Nat) : Int) := wrap_i64 (by omega) (by omega)
    have xa : ((2 * i : Nat) : Int) < 16 := by omega
    have xb : ((2 * i + 1 : Nat) : Int) < 16 := by omega
    have ol := ocB_len r
    have oa := ocB_get hlr (show 2 * i < 16 by omega)
    have ob := ocB_get hlr (show 2 * i + 1 < 16 by omega)
    have la : 2 * i < 16 := by omega
    have lb : 2 * i + 1 < 16 := by omega
    have sa := sN_lt r hlr (2 * i) (by omega)
    have sb := sN_lt r hlr (2 * i + 1) (by omega)
    have ta : (sN r (2 * i) : Int) < 16 := by omega
    have tb : (sN r (2 * i + 1) : Int) < 16 := by omega
    simp [tb4, hb4, wB, hSB, SO, RB, NV, ii, w4, w8, w12, wa, wb, xa, xb, ol, la, lb, hc_d0, hc_gE, oa, ob, sa, sb, ta, tb, hml, wl_gE, -Int.natCast_add, -Int.natCast_mul]
    refine callH [3] (mix_ok (colsS m r V i) i (4 + i) (8 + i) (12 + i) (g m (sN r (2 * i))) (g m (sN r (2 * i + 1))) ei (by omega) (by omega) (by omega) (by omega)) (by simp [NV, WV]) (by simp [VO]) (by simp) (by simp) (by simp) ?_
    rintro y H' ⟨rfl, rfl⟩
    refine ⟨.inl (by simp), by simp, ?_⟩
    simp [VO, wi1, -Int.natCast_add]
    exact round (i + 1) [0, 1, 2, 3, 4] (by omega) (by omega) (by simp [tb4, NV]) (by simp [hb4, hSB, SO, RB, wB, colsS, colS]) (by simp [hb4, hSB, SO, RB, wB]) (by decide) (by simp [hb4])
  · have h4 : i = 4 := by omega
    subst h4
    simp [tb4, hb4, NV]
    exact hQ _

def tb6 (r i : Nat) (e : EV) : List EV := [.v (.c (.ptr 0 0)), .any, .any, .any, .any, .any, .any, .any, .v (.c (.ptr 2 0)), .v (.c (.ptr 3 0)), .any, .any, .any, .v (.c (.ptr 4 0)), .any, .any, .any, .any, .any, .any, .any, .any, .any, .any, .any, .any, .any, .any, .any, .any, .any, .any, .any, .any, .any, .any, .any, .any, .any, .any, .any, .any, .any, .any, .any, .any, .any, .any, .any, .any, .any, .any, .any, .any, .any, .any, .any, .any, .any, .any, .any, .any, .any, .any, .any, .any, .any, .any, .any, .any, .any, .any, .any, .any, .any, .any, .any, .any, .any, NV r, .any, .any, .any, .any, .any, .any, .any, .any, .any, .any, .any, .any, .any, .any, .any, .any, .any, .any, .any, .any, .any, .any, .any, .any, .any, .any, .any, .any, .any, .any, NV i, e, .any, .any, .any, .any, .any, .any, .any, .any, .any, .any, .any, .any, .any, .any, .any, .any, .any, .any, .any, .any, .any, .any, .any, .any, .any, .any, .any, .any, .any, .any, .any, .any, .any, .any, .any, .any, .any, .any, .any, .any, .any, .any, .any, .any, .any, .any, .any, .any, .any, .any, .any]
set_option maxRecDepth 8000 in
set_option maxHeartbeats 8000000 in
theorem takeB_dias (tt nn : Nat) (w : List UInt8) (h m W : List UInt32) (r : Nat) (hlr : r < 10) (hml : m.length = 16) (er : W.length = 16) (Q : Exit → St → Go.EW.Tok → Prop) (hQ : ∀ n, Q (.exit 6) ⟨tb6 r 4 (.lit (.bool false)), ofO (hb4 tt nn w h m (diasS m r W 4) r), n⟩ .on) :
    LoopT Tryd.prog 2 (hid b_btake_97) Q ⟨tb6 r 0 .any, ofO (hb4 tt nn w h m W r), 5⟩ := by
  refine eloop (α := Nat) (fun i => i ≤ 4) (fun i => 4 - i) (fun i => tb6 r i .any) (fun i => hb4 tt nn w h m (diasS m r W i) r) 0 [0, 1, 2, 3, 4]
    (by omega) (by simp [tb6, NV]) (by simp [hb4, hSB, SO, RB, wB, diasS]) (by simp [hb4, hSB, SO, RB, wB]) (by decide) (by simp [hb4]) ?_
  intro i hi
  have ei2 : (diasS m r W i).length = 16 := by rw [diasS_len]; exact er
  by_cases hli : i < 4
  · have ii : (i : Int) < 4 := by omega
    have wi1 : IntKind.i64.wrap ((i : Int) + 1) = ((i + 1 : Nat) : Int) := wrap_i64 (by omega) (by omega)
    have wi2 : IntKind.i64.wrap ((i : Int) + 2) = ((i + 2 : Nat) : Int) := wrap_i64 (by omega) (by omega)
    have wi3 : IntKind.i64.wrap ((i : Int) + 3) = ((i + 3 : Nat) : Int) := wrap_i64 (by omega) (by omega)
    obtain ⟨a1, ha1⟩ : ∃ a, (i + 1) % 4 = a := ⟨_, rfl⟩
    obtain ⟨a2, ha2⟩ : ∃ a, (i + 2) % 4 = a := ⟨_, rfl⟩
    obtain ⟨a3, ha3⟩ : ∃ a, (i + 3) % 4 = a := ⟨_, rfl⟩
    have m1 : ((i + 1 : Nat) : Int).tmod 4 = (a1 : Int) := by rw [← ha1]; rfl
    have m2 : ((i + 2 : Nat) : Int).tmod 4 = (a2 : Int) := by rw [← ha2]; rfl
    have m3 : ((i + 3 : Nat) : Int).tmod 4 = (a3 : Int) := by rw [← ha3]; rfl
    have w4 : IntKind.i64.wrap (4 + (a1 : Int)) = ((4 + a1 : Nat) : Int) := by rw [wrap_i64 (by omega) (by omega)]; omega
    have w8 : IntKind.i64.wrap (8 + (a2 : Int)) = ((8 + a2 : Nat) : Int) := by rw [wrap_i64 (by omega) (by omega)]; omega
    have w12 : IntKind.i64.wrap (12 + (a3 : Int)) = ((12 + a3 : Nat) : Int) := by rw [wrap_i64 (by omega) (by omega)]; omega
    have wc : IntKind.i64.wrap (2 * (i : Int)) = ((2 * i : Nat) : Int) := by rw [wrap_i64 (by omega) (by omega)]; omega
    have wa : IntKind.i64.wrap (8 + ((2 * i : Nat) : Int)) = ((8 + 2 * i : Nat) : Int) := by rw [wrap_i64 (by omega) (by omega)]; omega
    have wb : IntKind.i64.wrap (9 + ((2 * i : Nat) : Int)) = ((9 + 2 * i : Nat) : Int) := by rw [wrap_i64 (by omega) (by omega)]; omega
    have xa : ((8 + 2 * i : Nat) : Int) < 16 := by omega
    have xb : ((9 + 2 * i : Nat) : Int) < 16 := by omega
    have ol := ocB_len r
    have oa := ocB_get hlr (show 8 + 2 * i < 16 by omega)
    have ob := ocB_get hlr (show 9 + 2 * i < 16 by omega)
    have la : 8 + 2 * i < 16 := by omega
    have lb : 9 + 2 * i < 16 := by omega
    have sa := sN_lt r hlr (8 + 2 * i) (by omega)
    have sb := sN_lt r hlr (9 + 2 * i) (by omega)
    have ta : (sN r (8 + 2 * i) : Int) < 16 := by omega
    have tb : (sN r (9 + 2 * i) : Int) < 16 := by omega
    simp [tb6, hb4, wB, hSB, SO, RB, NV, ii, wi1, wi2, wi3, m1, m2, m3, w4, w8, w12, wc, wa, wb, xa, xb, ol, la, lb, hc_d0, hc_gE, oa, ob, sa, sb, ta, tb, hml, wl_gE, -Int.natCast_add, -Int.natCast_mul]
    refine callH [3] (mix_ok (diasS m r W i) i (4 + a1) (8 + a2) (12 + a3) (g m (sN r (8 + 2 * i))) (g m (sN r (9 + 2 * i))) ei2 (by omega) (by omega) (by omega) (by omega)) (by simp [NV, WV]) (by simp [VO]) (by simp) (by simp) (by simp) ?_
    rintro y H' ⟨rfl, rfl⟩
    refine ⟨.inl (by simp), by simp, ?_⟩
    simp [VO, wi1, -Int.natCast_add]
    exact round (i + 1) [0, 1, 2, 3, 4] (by omega) (by omega) (by simp [tb6, NV]) (by simp [hb4, hSB, SO, RB, wB, diasS, diaS, ha1, ha2, ha3]) (by simp [hb4, hSB, SO, RB, wB]) (by decide) (by simp [hb4])
  · have h4 : i = 4 := by omega
    subst h4
    simp [tb6, hb4, NV]
    exact hQ _

def tb2 (r : Nat) (e : EV) : List EV := [.v (.c (.ptr 0 0)), .any, .any, .any, .any, .any, .any, .any, .v (.c (.ptr 2 0)), .v (.c (.ptr 3 0)), .any, .any, .any, .any, .any, .any, .any, .any, .any, .any, .any, .any, .any, .any, .any, .any, .any, .any, .any, .any, .any, .any, .any, .any, .any, .any, .any, .any, .any, .any, .any, .any, .any, .any, .any, .any, .any, .any, .any, .any, .any, .any, .any, .any, .any, .any, .any, .any, .any, .any, .any, .any, .any, .any, .any, .any, .any, .any, .any, .any, .any, .any, .any, .any, .any, .any, .any, .any, .any, NV r, e, .any, .any, .any, .any, .any, .any, .any, .any, .any, .any, .any, .any, .any, .any, .any, .any, .any, .any, .any, .any, .any, .any, .any, .any, .any, .any, .any, .any, .any, .any, .any, .any, .any, .any, .any, .any, .any, .any, .any, .any, .any, .any, .any, .any, .any, .any, .any, .any, .any, .any, .any, .any, .any, .any, .any, .any, .any, .any, .any, .any, .any, .any, .any, .any, .any, .any, .any, .any, .any, .any, .any, .any, .any, .any, .any, .any, .any, .any, .any, .any, .any, .any]
def hb2 (tt nn : Nat) (w : List UInt8) (h m v : List UInt32) : List (Option EO) := [hSB h tt nn, some (RB w), wB m, wB v]
@[simp] theorem hb2_len (tt nn : Nat) (w : List UInt8) (h m v : List UInt32) : (hb2 tt nn w h m v).length = 4 := rfl
set_option maxRecDepth 8000 in
set_option maxHeartbeats 8000000 in
theorem takeB_rnds (tt nn : Nat) (w : List UInt8) (h m v3 : List UInt32) (hml : m.length = 16) (e3 : v3.length = 16) (Q : Exit → St → Go.EW.Tok → Prop) (hQ : ∀ n, Q (.exit 2) ⟨tb2 10 (.lit (.bool false)), ofO (hb2 tt nn w h m (rndsS m v3 10)), n⟩ .on) :
    LoopT Tryd.prog 2 (hid b_btake_109) Q ⟨tb2 0 .any, ofO (hb2 tt nn w h m v3), 4⟩ := by
  refine eloop (α := Nat) (fun r => r ≤ 10) (fun r => 10 - r) (fun r => tb2 r .any) (fun r => hb2 tt nn w h m (rndsS m v3 r)) 0 [0, 1, 2, 3]
    (by omega) (by simp [tb2, NV]) (by simp [hb2, hSB, SO, RB, wB, rndsS]) (by simp [hb2, hSB, SO, RB, wB]) (by decide) (by simp [hb2]) ?_
  intro r hr
  have er : (rndsS m v3 r).length = 16 := by rw [rndsS_len]; exact e3
  by_cases hlr : r < 10
  · have ir : (r : Int) < 10 := by omega
    have wr : IntKind.i64.wrap ((r : Int) + 1) = ((r + 1 : Nat) : Int) := wrap_i64 (by omega) (by omega)
    have lr : 16 ≤ 160 - r * 16 := by omega
    have hoc := oc_eq r hlr
    simp [tb2, hb2, wB, hSB, SO, RB, NV, hlr, ir, lr, hoc, ordN_len, ocB_len r]
    obtain ⟨V, hV⟩ : ∃ V, rndsS m v3 r = V := ⟨_, rfl⟩
    rw [hV] at er
    refine loopW _ (weak_norm [0, 1, 2, 3, 100] (tb4 r 0 .any) (hb4 tt nn w h m V r) (by simp [tb4, NV]) (by simp [hb4, hSB, SO, RB, wB, hV, hoc]) (by simp [hb4, hSB, SO, RB, wB]) (by decide) (by simp [hb4])) (takeB_cols tt nn w h m V r hlr hml er _ fun n => ?_)
    simp [tb4, hb4, NV]
    obtain ⟨W, hW⟩ : ∃ W, colsS m r V 4 = W := ⟨_, rfl⟩
    have ei : W.length = 16 := by rw [← hW, colsS_len]; exact er
    refine loopW _ (weak_norm [0, 1, 2, 3, 4] (tb6 r 0 .any) (hb4 tt nn w h m W r) (by simp [tb6, NV]) (by simp [hb4, hSB, SO, RB, wB, hW]) (by simp [hb4, hSB, SO, RB, wB]) (by decide) (by simp [hb4])) (takeB_dias tt nn w h m W r hlr hml ei _ fun n => ?_)
    simp [tb6, hb4, wB, hSB, SO, RB, NV, wr, -Int.natCast_add]
    exact round (r + 1) [0, 1, 2, 3] (by omega) (by omega) (by simp [tb2, NV]) (by simp [hb2, hSB, SO, RB, wB, rndsS, hV, hW]) (by simp [hb2, hSB, SO, RB, wB]) (by decide) (by simp [hb2])
  · have h10 : r = 10 := by omega
    subst h10
    simp [tb2, hb2, NV]
    exact hQ _

def tb8 (i : Nat) (e : EV) : List EV := [.v (.c (.ptr 0 0)), .any, .any, .any, .any, .any, .any, .any, .any, .v (.c (.ptr 2 0)), .any, .any, .any, .any, .any, .any, .any, .any, .any, .any, .any, .any, .any, .any, .any, .any, .any, .any, .any, .any, .any, .any, .any, .any, .any, .any, .any, .any, .any, .any, .any, .any, .any, .any, .any, .any, .any, .any, .any, .any, .any, .any, .any, .any, .any, .any, .any, .any, .any, .any, .any, .any, .any, .any, .any, .any, .any, .any, .any, .any, .any, .any, .any, .any, .any, .any, .any, .any, .any, .any, .any, .any, .any, .any, .any, .any, .any, .any, .any, .any, .any, .any, .any, .any, .any, .any, .any, .any, .any, .any, .any, .any, .any, .any, .any, .any, .any, .any, .any, .any, .any, .any, .any, .any, .any, .any, .any, .any, .any, .any, .any, .any, .any, .any, .any, .any, .any, .any, .any, .any, .any, .any, .any, .any, .any, .any, .any, .any, .any, .any, .any, .any, .any, NV i, e, .any, .any, .any, .any, .any, .any, .any, .any, .any, .any, .any, .any, .any, .any, .any, .any, .any, .any]
set_option maxRecDepth 8000 in
set_option maxHeartbeats 8000000 in
theorem takeB_xor (tt nn : Nat) (w : List UInt8) (h V : List UInt32) (hh : h.length = 8) (er : V.length = 16) (Q : Exit → St → Go.EW.Tok → Prop) (hQ : ∀ n, Q (.exit 8) ⟨tb8 8 (.lit (.bool false)), ofO [hSB (xorS h V 8) tt nn, some (RB w), wB V], n⟩ .on) :
    LoopT Tryd.prog 2 (hid b_btake_130) Q ⟨tb8 0 .any, ofO [hSB h tt nn, some (RB w), wB V], 3⟩ := by
  refine eloop (α := Nat) (fun i => i ≤ 8) (fun i => 8 - i) (fun i => tb8 i .any) (fun i => [hSB (xorS h V i) tt nn, some (RB w), wB V]) 0 [0, 1, 2]
    (by omega) (by simp [tb8, NV]) (by simp [hSB, SO, RB, wB, xorS]) (by simp [hSB, SO, RB, wB]) (by decide) (by simp) ?_
  intro i hi
  have ei : (xorS h V i).length = 8 := by rw [xorS_len]; exact hh
  by_cases hli : i < 8
  · have ii : (i : Int) < 8 := by omega
    have ij : (i : Int) < 16 := by omega
    have xl : i ≤ 7 := by omega
    have xl2 : i ≤ 10 := by omega
    have l16 : i < 16 := by omega
    have l8 : 8 + i < 16 := by omega
    have wi1 : IntKind.i64.wrap ((i : Int) + 1) = ((i + 1 : Nat) : Int) := wrap_i64 (by omega) (by omega)
    have w8 : IntKind.i64.wrap (8 + (i : Int)) = ((8 + i : Nat) : Int) := by rw [wrap_i64 (by omega) (by omega)]; omega
    have j8 : ((8 + i : Nat) : Int) < 16 := by omega
    simp [tb8, hSB, SO, RB, wB, NV, ii, ij, xl, xl2, l16, l8, hli, wi1, w8, j8, ei, er, wl_gE, wl_put, wl_putR, wl_gER, wl_gR, wi_xor, -Int.natCast_add]
    exact round (i + 1) [0, 1, 2] (by omega) (by omega) (by simp [tb8, NV]) (by simp [hSB, SO, RB, wB, xorS]) (by simp [hSB, SO, RB, wB]) (by decide) (by simp)
  · have h8 : i = 8 := by omega
    subst h8
    simp [tb8, NV]
    exact hQ _

set_option maxRecDepth 8000 in
set_option maxHeartbeats 8000000 in
theorem takeB_ok (tt nn : Nat) (w : List UInt8) (h : List UInt32) (b : List UInt8) (t : Nat) (last : Bool) (hh : h.length = 8) (hb : b.length = 64) (ht : t < 18446744073709551616) :
    ECalls Tryd.prog 116 [.v (.c (.ptr 0 0)), BV b, .lit (.int .u64 t), .lit (.bool last)] [SO 1 h 64 tt nn, RB w] fun y H' => H' = [some (SO 1 (takeS h b t last) 64 tt nn), some (RB w)] ∧ y = .tup [] := by
  have z16 : wl (mI b 0) = List.replicate 16 (EC.fz (.lit (.int .u32 0))) := by simp [mI, upW]; rfl
  have zz : wl Z16 = List.replicate 16 (EC.fz (.lit (.int .u32 0))) := by simp [wl, Z16]; rfl
  have th : ∀ r, List.take 8 (wl h ++ r) = wl h := fun r => wl_t8 hh
  have th' : List.take 8 (wl h) = wl h := List.take_of_length_le (by simp [hh])
  have f1 := wf_flat h 16 (by omega)
  have f2 := wf_sum h 16 (by omega)
  refine ecalls k_btake ?_
  simp [c_btake, BV, SO, RB, hb, hh]
  refine loopW _ (weak_norm [0, 1, 2, 18, 34] (tb0 t last 0 .any) (hb0 tt nn w h b 0) (by simp [tb0, NV]) (by simp [hb0, hSB, SO, RB, wB, z16, zz]) (by simp [hb0, hSB, SO, RB, wB]) (by decide) (by simp [hb0])) (takeB_words tt nn w h b t last hb _ fun n => ?_)
  have hml : (mI b 16).length = 16 := upW_len _ _
  have z16l : Z16.length = 16 := rfl
  have dz : List.drop 8 (wl Z16) = wl (Z16.drop 8) := wl_drop _ _
  simp [tb0, hb0, wB, hSB, SO, RB, NV, hb, hh, th, th', f1, f2, dz, wl_app, z16l]
  have tf : List.take 8 (wl firstW) = wl firstW := List.take_of_length_le (by simp; decide)
  have ff1 := wf_flat firstW 8 (by decide)
  have ff2 := wf_sum firstW 8 (by decide)
  have fl : firstW.length = 8 := rfl
  have tk : List.take 8 (wl (h ++ List.drop 8 Z16)) = wl h := by rw [wl_take, List.take_left' hh]
  have dk : List.drop 16 (wl (h ++ List.drop 8 Z16)) = [] := List.drop_of_length_le (by simp [hh, z16l])
  obtain ⟨v0, h0⟩ : ∃ w, h ++ firstW = w := ⟨_, rfl⟩
  have e0 : v0.length = 16 := by rw [← h0, List.length_append, hh, fl]
  obtain ⟨v1, h1⟩ : ∃ w, v0.set 12 (g v0 12 ^^^ lo32 t) = w := ⟨_, rfl⟩
  have e1 : v1.length = 16 := by rw [← h1, List.length_set]; exact e0
  obtain ⟨v2, h2⟩ : ∃ w, v1.set 13 (g v1 13 ^^^ hi32 t) = w := ⟨_, rfl⟩
  have e2 : v2.length = 16 := by rw [← h2, List.length_set]; exact e1
  have hini : iniS h t last = if last then v2.set 14 (~~~ g v2 14) else v2 := by unfold iniS; simp only [h0, h1, h2]
  have p12 : ∀ x, List.take 12 (wl v0) ++ .fz (.lit (.int .u32 (wi x))) :: List.drop 13 (wl v0) = wl (v0.set 12 x) := fun x => wl_put (by omega)
  have p13 : ∀ x, List.take 13 (wl v1) ++ .fz (.lit (.int .u32 (wi x))) :: List.drop 14 (wl v1) = wl (v1.set 13 x) := fun x => wl_put (by omega)
  have p14 : ∀ x, List.take 14 (wl v2) ++ .fz (.lit (.int .u32 (wi x))) :: List.drop 15 (wl v2) = wl (v2.set 14 x) := fun x => wl_put (by omega)
  refine call0 first_ok (by simp) ?_
  rintro y H' ⟨rfl, rfl⟩
  refine ⟨.inl (by simp), le_ok rfl, ?_⟩
  simp [NV, hb, hh, tf, ff1, ff2, fl, z16l, wl_app, tk, dk, h0, e0, e1, e2, wl_g, wl_gE, wi_xor, wi_lo, wi_hi, p12, p13, h1, h2]
  obtain ⟨v3, h3⟩ : ∃ w, iniS h t last = w := ⟨_, rfl⟩
  have e3 : v3.length = 16 := by rw [← h3, hini]; split <;> simp [e2]
  obtain ⟨m, hm⟩ : ∃ m, mI b 16 = m := ⟨_, rfl⟩
  rw [hm] at hml
  have er : (rndsS m v3 10).length = 16 := by rw [rndsS_len]; exact e3
  obtain ⟨V, hV⟩ : ∃ V, rndsS m v3 10 = V := ⟨_, rfl⟩
  rw [hV] at er
  have ht2 : takeS h b t last = xorS h V 8 := by unfold takeS; rw [hm, h3, hV]
  rw [ht2]
  refine alt (fun hl => ?_) (fun hl => ?_)
  case' refine_1 =>
    have h14 : v2.set 14 (~~~ g v2 14) = v3 := by rw [← h3, hini, if_pos hl]
    simp [e2, wl_g, wl_gE, pun_x32, p14, h14]
  case' refine_2 =>
    have h14 : v2 = v3 := by rw [← h3, hini, if_neg (by simpa using hl)]
    simp [h14]
  all_goals
    refine loopW _ (weak_norm [0, 1, 3, 4] (tb2 0 .any) (hb2 tt nn w h m v3) (by simp [tb2, NV]) (by simp [hb2, hSB, SO, RB, wB, hm]) (by simp [hb2, hSB, SO, RB, wB]) (by decide) (by simp [hb2])) (takeB_rnds tt nn w h m v3 hml e3 _ fun n => ?_)
    simp [tb2, hb2, wB, hSB, SO, RB, NV]
    refine loopW _ (weak_norm [0, 1, 3] (tb8 0 .any) [hSB h tt nn, some (RB w), wB V] (by simp [tb8, NV]) (by simp [hSB, SO, RB, wB, hV]) (by simp [hSB, SO, RB, wB]) (by decide) (by simp)) (takeB_xor tt nn w h V hh er _ fun n => ?_)
    simp [tb8, wB, hSB, SO, RB, NV]
    exact fin [] (by decide) rfl rfl (by simp [objsOut, show List.range 2 = [0, 1] from rfl]) ⟨rfl, rfl⟩

end Go.Proofs.YtpohjnhlhfbnaaaDoor
