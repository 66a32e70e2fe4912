import Derived.Test.YtoomdgmggkcgfaaDoorOpen
import Derived.Test.YtoomdgmggkcgfaaDoorTreeA
namespace Go.Proofs.YtoomdgmggkcgfaaDoor
open Go Go.EW
set_option linter.unusedSimpArgs false

def intF (n : Int) : List FV := [.lit (.int .i64 n)]
theorem opn_ints : Opn BB Tryd.prog 26 (fun l : List Int => [FV.sl 1 (l.map intF)]) (fun l => (∀ x ∈ l, i64 x) ∧ l.length ≤ maxLen) (fun l => l.length + 1) :=
  (opn_slice bok (e := 3) (es := 1) (by kernel_rfl) (by kernel_rfl) (by omega) opn_i64).map id (fun _ _ => rfl) (fun _ h => h) (fun l _ => by rw [sumB_one]; exact Nat.le_refl _)
theorem opn_pt : Opn BB Tryd.prog 25 (fun p : List UInt8 × Int => hf p.1 ++ [FV.lit (.int .i64 p.2)]) (fun p => p.1.length = 32 ∧ i64 p.2) (fun _ => 1) :=
  (opn_struct (tot := 33) bok Tryd.underlying25 (by kernel_rfl)
    (opnFs_cons bok (n := 32) (tot := 1) opn_hash rfl (by kernel_rfl) (opnFs_cons bok (n := 1) (tot := 0) opn_i64 rfl (by kernel_rfl) opnFs_nil))).map
    (fun p => (p.1, p.2.1)) (by rintro ⟨a, b, u⟩ _; simp) (by rintro ⟨a, b, u⟩ h; exact ⟨h.1, h.2.1⟩) (by rintro ⟨a, b, u⟩ _; simp)
def cfgF (c : Cfg) : List FV := hf c.pt ++ [.lit (.int .i64 c.pn), .lit (.int .i64 c.am), .sl 1 (intv c.keys), .lit (.int .i64 c.dep), .lit (.int .i64 c.fst), .lit (.int .i64 c.lst), .lit (.int .i64 c.stp), .lit (.int .i64 c.fee)]
def Cfg.ok0 (c : Cfg) : Prop := c.pt.length = 32 ∧ i64 c.pn ∧ i64 c.am ∧ (∀ k ∈ c.keys, i64 k) ∧ i64 c.dep ∧ i64 c.fst ∧ i64 c.lst ∧ i64 c.stp ∧ i64 c.fee
theorem opn_cfg : Opn BB Tryd.prog 28 cfgF Cfg.ok0 (fun c => c.keys.length) :=
  (opn_struct (tot := 40) bok Tryd.underlying28 (by kernel_rfl)
    (opnFs_cons bok (n := 33) (tot := 7) opn_pt rfl (by kernel_rfl) (opnFs_cons bok (n := 1) (tot := 6) opn_i64 rfl (by kernel_rfl)
      (opnFs_cons bok (n := 1) (tot := 5) opn_ints rfl (by kernel_rfl) (opnFs_cons bok (n := 1) (tot := 4) opn_i64 rfl (by kernel_rfl)
      (opnFs_cons bok (n := 1) (tot := 3) opn_i64 rfl (by kernel_rfl) (opnFs_cons bok (n := 1) (tot := 2) opn_i64 rfl (by kernel_rfl)
      (opnFs_cons bok (n := 1) (tot := 1) opn_i64 rfl (by kernel_rfl) (opnFs_cons bok (n := 1) (tot := 0) opn_i64 rfl (by kernel_rfl) opnFs_nil))))))))).map
    (fun p => (⟨p.1.1, p.1.2, p.2.1, p.2.2.1, p.2.2.2.1, p.2.2.2.2.1, p.2.2.2.2.2.1, p.2.2.2.2.2.2.1, p.2.2.2.2.2.2.2.1⟩ : Cfg)) (by rintro ⟨⟨a, a'⟩, b, c, d, e, f, g, h, u⟩ _; simp [cfgF, intv, intF]) (by rintro ⟨⟨a, a'⟩, b, c, d, e, f, g, h, u⟩ q; exact ⟨q.1.1, q.1.2, q.2.1, q.2.2.1.1, q.2.2.2.1, q.2.2.2.2.1, q.2.2.2.2.2.1, q.2.2.2.2.2.2.1, q.2.2.2.2.2.2.2.1⟩) (by rintro ⟨⟨a, a'⟩, b, c, d, e, f, g, h, u⟩ _; simp; omega)
theorem cfg_ok {c : Cfg} (h : c.ok0) (hb : c.keys.length ≤ 1048576) : c.ok := by
  obtain ⟨h1, h2, h3, h4, h5, h6, h7, h8, h9⟩ := h
  exact ⟨h1, h2, h3, h4, h5, h6, h7, h8, h9, by omega⟩
theorem cfgF_fz (c : Cfg) : (cfgF c).map EC.fz = cfgC c := by simp [cfgF, cfgC, cfgT]
/-- A tree of nothing, as a value; as it reads. -/
def zTV : Array Value := (List.replicate 32 (Value.int .u8 0) ++ [Value.int .i64 0, Value.int .i64 0, Value.slice none 0 0, Value.int .i64 0, Value.int .i64 0, Value.int .i64 0, Value.int .i64 0, Value.int .i64 0]).toArray
def zTD {H : Type} : DataW H := .agg [.agg [.agg (List.replicate 32 (.lit (.int .u8 0))), .lit (.int .i64 0)], .lit (.int .i64 0), .nil, .lit (.int .i64 0), .lit (.int .i64 0), .lit (.int .i64 0), .lit (.int .i64 0), .lit (.int .i64 0)]

end Go.Proofs.YtoomdgmggkcgfaaDoor
