import Derived.Test.YtejjhgdnmknejaaOpen
namespace Go.Proofs.Ytejjhgdnmknejaa
open Go Go.EW
set_option linter.unusedSimpArgs false

theorem opn_four : Opn BB Try.prog 22 (fun p : Int × Int × Int × Int => [FV.lit (.int .i64 p.1), .lit (.int .i64 p.2.1), .lit (.int .i64 p.2.2.1), .lit (.int .i64 p.2.2.2)]) (fun _ => True) (fun _ => 1) :=
  (opn_array bok (e := 3) (es := 1) (n := 4) (by kernel_rfl) (by kernel_rfl) (by kernel_rfl) opn_i64).map (fun l => (l[0]?.getD 0, l[1]?.getD 0, l[2]?.getD 0, l[3]?.getD 0)) (by
    rintro l ⟨_, h⟩
    match l, h with
    | [a, b, c, d], _ => simp) (fun _ _ => trivial) (fun _ _ => by omega)
theorem opn_flag : Opn BB Try.prog 4 (fun b : Bool => [FV.lit (.bool b)]) (fun _ => True) (fun _ => 1) := opn_bool bok (by kernel_rfl)
theorem opn_flags : Opn BB Try.prog 23 (fun p : Bool × Bool => [FV.lit (.bool p.1), .lit (.bool p.2)]) (fun _ => True) (fun _ => 1) :=
  (opn_array bok (e := 4) (es := 1) (n := 2) (by kernel_rfl) (by kernel_rfl) (by kernel_rfl) opn_flag).map (fun l => (l[0]?.getD false, l[1]?.getD false)) (by
    rintro l ⟨_, h⟩
    match l, h with
    | [a, b], _ => simp) (fun _ _ => trivial) (fun _ _ => by omega)

end Go.Proofs.Ytejjhgdnmknejaa
