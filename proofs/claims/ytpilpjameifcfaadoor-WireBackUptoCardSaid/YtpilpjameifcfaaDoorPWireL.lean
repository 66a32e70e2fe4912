import Derived.Test.YtpilpjameifcfaaDoorPOpen
import Derived.Test.YtpilpjameifcfaaDoorPWire1
namespace Go.Proofs.YtpilpjameifcfaaDoor
open Go Go.EW
set_option linter.unusedSimpArgs false

theorem opn_pay : Opn BB Tryd.prog 30 payF Pay.ok (fun _ => 1) :=
  (opn_struct (tot := 36) bok Tryd.underlying30 (by kernel_rfl)
    (opnFs_cons bok (n := 1) (tot := 35) opn_i64 rfl (by kernel_rfl) (opnFs_cons bok (n := 1) (tot := 34) opn_i64 rfl (by kernel_rfl)
      (opnFs_cons bok (n := 1) (tot := 33) opn_i64 rfl (by kernel_rfl) (opnFs_cons bok (n := 1) (tot := 32) opn_i64 rfl (by kernel_rfl)
      (opnFs_cons bok (n := 32) (tot := 0) opn_hash rfl (by kernel_rfl) opnFs_nil)))))).map
    (fun p => (⟨p.1, p.2.1, p.2.2.1, p.2.2.2.1, p.2.2.2.2.1⟩ : Pay)) (by rintro ⟨a, b, c, d, e, u⟩ _; simp [payF]) (by rintro ⟨a, b, c, d, e, u⟩ h; exact ⟨h.1, h.2.1, h.2.2.1, h.2.2.2.1, h.2.2.2.2.1⟩) (by rintro ⟨a, b, c, d, e, u⟩ _; simp)
def wopF (o : WOp) : List FV := .lit (.int .i64 o.kind) :: .lit (.int .i64 o.am) :: .lit (.int .i64 o.id) :: (payF o.pay ++ [.sl 1 (bsv o.sec)])
def msgF (m : WMsg) : List FV := .lit (.int .i64 m.kind) :: .lit (.int .i64 m.num) :: (wopF m.op ++ (hf m.lock ++ [.sl 1 (bsv m.sec)]))
def WOp.ok0 (o : WOp) : Prop := i64 o.kind ∧ i64 o.am ∧ i64 o.id ∧ o.pay.ok
def WMsg.ok0 (m : WMsg) : Prop := i64 m.kind ∧ i64 m.num ∧ m.op.ok0 ∧ m.lock.length = 32
def wopS (o : WOp) : Nat := o.sec.length
def msgS (m : WMsg) : Nat := m.op.sec.length + m.sec.length
theorem opn_op : Opn BB Tryd.prog 33 wopF WOp.ok0 wopS :=
  (opn_struct (tot := 40) bok Tryd.underlying33 (by kernel_rfl)
    (opnFs_cons bok (n := 1) (tot := 39) opn_i64 rfl (by kernel_rfl) (opnFs_cons bok (n := 1) (tot := 38) opn_i64 rfl (by kernel_rfl)
      (opnFs_cons bok (n := 1) (tot := 37) opn_i64 rfl (by kernel_rfl) (opnFs_cons bok (n := 36) (tot := 1) opn_pay rfl (by kernel_rfl)
      (opnFs_cons bok (n := 1) (tot := 0) opn_bytes rfl (by kernel_rfl) opnFs_nil)))))).map
    (fun p => (⟨p.1, p.2.1, p.2.2.1, p.2.2.2.1, p.2.2.2.2.1⟩ : WOp)) (by rintro ⟨a, b, c, d, e, u⟩ _; simp [wopF]) (by rintro ⟨a, b, c, d, e, u⟩ h; exact ⟨h.1, h.2.1, h.2.2.1, h.2.2.2.1⟩) (by rintro ⟨a, b, c, d, e, u⟩ _; simp [wopS]; omega)
theorem opn_msg : Opn BB Tryd.prog 52 msgF WMsg.ok0 msgS :=
  (opn_struct (tot := 75) bok Tryd.underlying52 (by kernel_rfl)
    (opnFs_cons bok (n := 1) (tot := 74) opn_i64 rfl (by kernel_rfl) (opnFs_cons bok (n := 1) (tot := 73) opn_i64 rfl (by kernel_rfl)
      (opnFs_cons bok (n := 40) (tot := 33) opn_op rfl (by kernel_rfl) (opnFs_cons bok (n := 32) (tot := 1) opn_hash rfl (by kernel_rfl)
      (opnFs_cons bok (n := 1) (tot := 0) opn_bytes rfl (by kernel_rfl) opnFs_nil)))))).map
    (fun p => (⟨p.1, p.2.1, p.2.2.1, p.2.2.2.1, p.2.2.2.2.1⟩ : WMsg)) (by rintro ⟨a, b, c, d, e, u⟩ _; simp [msgF]) (by rintro ⟨a, b, c, d, e, u⟩ h; exact ⟨h.1, h.2.1, h.2.2.1, h.2.2.2.1⟩) (by rintro ⟨a, b, c, d, e, u⟩ _; simp [msgS, wopS]; omega)
theorem msg_ok {m : WMsg} (h : m.ok0) (hb : msgS m ≤ 1048576) : m.ok := by
  obtain ⟨h1, h2, ⟨h3, h4, h5, h6⟩, h7⟩ := h
  unfold msgS at hb
  exact ⟨h1, h2, ⟨h3, h4, h5, h6, by omega⟩, h7, by omega⟩
/-- A message of nothing, as a value; as it reads. -/
def zMV : Array Value := (List.replicate 9 (Value.int .i64 0) ++ List.replicate 32 (Value.int .u8 0) ++ [Value.slice none 0 0] ++ List.replicate 32 (Value.int .u8 0) ++ [Value.slice none 0 0]).toArray
def zU {H : Type} : List (DataW H) := List.replicate 32 (.lit (.int .u8 0))
def zI {H : Type} : DataW H := .lit (.int .i64 0)
def zMD {H : Type} : DataW H := .agg [zI, zI, .agg [zI, zI, zI, .agg [zI, zI, zI, zI, .agg zU], .nil], .agg zU, .nil]
theorem msgF_fz (m : WMsg) : (msgF m).map EC.fz = msgC m := by
  simp [msgF, msgC, wopF, wopC, payF]

end Go.Proofs.YtpilpjameifcfaaDoor
