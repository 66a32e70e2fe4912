import Derived.Test.YtpohjnhlhfbnaaaDoorKStateL
import Derived.Test.YtpohjnhlhfbnaaaDoorKStateU
namespace Go.Proofs.YtpohjnhlhfbnaaaDoor
open Go Go.EW
set_option linter.unusedSimpArgs false

def Act.ok0 (a : Act) : Prop := i64 a.kind ∧ i64 a.fr ∧ i64 a.n ∧ a.pay.ok ∧ (i64 a.hold.id ∧ i64 a.hold.am ∧ (∀ k ∈ a.hold.keys, i64 k))
def actB (a : Act) : Nat := a.hold.keys.length + a.sec.length
theorem opn_act : Opn BB Tryd.prog 59 actF Act.ok0 actB :=
  (opn_struct (tot := 43) bok Tryd.underlying59 (by kernel_rfl)
    (opnFs_cons bok (n := 1) (tot := 42) opn_i64 rfl (by kernel_rfl) (opnFs_cons bok (n := 1) (tot := 41) opn_i64 rfl (by kernel_rfl)
      (opnFs_cons bok (n := 1) (tot := 40) opn_i64 rfl (by kernel_rfl) (opnFs_cons bok (n := 36) (tot := 4) opn_pay rfl (by kernel_rfl)
      (opnFs_cons bok (n := 3) (tot := 1) opn_hol rfl (by kernel_rfl) (opnFs_cons bok (n := 1) (tot := 0) opn_bytes rfl (by kernel_rfl) opnFs_nil))))))).map
    (fun p => (⟨p.1, p.2.1, p.2.2.1, p.2.2.2.1, p.2.2.2.2.1, p.2.2.2.2.2.1⟩ : Act)) (by rintro ⟨a, b, c, d, e, f, u⟩ _; simp [actF])
    (by rintro ⟨a, b, c, d, e, f, u⟩ h; exact ⟨h.1, h.2.1, h.2.2.1, h.2.2.2.1, h.2.2.2.2.1⟩) (by rintro ⟨a, b, c, d, e, f, u⟩ _; simp [actB]; omega)
theorem opn_acts : Opn BB Tryd.prog 49 (fun l : List Act => [FV.sl 43 (actv l)]) (fun l => ∀ a ∈ l, a.ok0) (fun l => sumB actB l) :=
  (opn_slice bok (by kernel_rfl) (by kernel_rfl) (by omega) opn_act).map id (fun _ _ => rfl) (fun _ h => h.1) (fun l _ => by simp)
theorem act_ok {l : List Act} (h : ∀ a ∈ l, a.ok0) (hb : sumB actB l ≤ 1048576) : ∀ a ∈ l, a.ok := by
  have key : ∀ (l : List Act), ∀ x ∈ l, actB x ≤ sumB actB l := by
    intro l
    induction l with
    | nil => intro x hx; simp at hx
    | cons a r ih =>
      intro x hx
      simp only [sumB]
      rcases List.mem_cons.1 hx with rfl | hx
      · omega
      · have := ih x hx; omega
  intro a ha
  have h1 := key l a ha
  obtain ⟨q1, q2, q3, q4, q5⟩ := h a ha
  have h2 : actB a = a.hold.keys.length + a.sec.length := rfl
  exact ⟨q1, q2, q3, q4, ⟨q5.1, q5.2.1, q5.2.2, by omega⟩, by omega⟩

end Go.Proofs.YtpohjnhlhfbnaaaDoor
