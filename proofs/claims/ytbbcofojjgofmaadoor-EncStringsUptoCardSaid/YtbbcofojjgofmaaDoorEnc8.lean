import Derived.Test.YtbbcofojjgofmaaDoorEnc7
import Derived.Test.YtbbcofojjgofmaaDoorEwX
namespace Go.Proofs.YtbbcofojjgofmaaDoor
open Go Go.EW
set_option linter.unusedSimpArgs false
set_option linter.unusedVariables false

def c_number : EB × List QOp × Nat := ((.seq (.reg [⟨0, (some 4), none, (.q (.mov (.k (.int .u64 0)))), []⟩,
    ⟨1, (some 5), none, (.q (.mov (.k (.int .i64 0)))), []⟩,
    ⟨2, (some 6), none, (.q (.mov (.k (.bool false)))), []⟩] 3)
  (.seq (.reg [⟨0, (some 10), none, (.q (.mov (.t 0))), []⟩,
    ⟨1, (some 11), none, (.call 23 [(.t 10)]), []⟩,
    ⟨2, (some 7), none, (.q (.mov (.t 11))), []⟩] 3)
  (.seq (.block 0 (.seq (.reg [⟨0, (some 13), none, (.q (.mov (.t 7))), []⟩,
    ⟨1, (some 14), none, (.q (.len (.t 13))), []⟩,
    ⟨2, (some 15), none, (.q (.bin .eql (.t 14) (.k (.int .i64 0)))), []⟩,
    ⟨3, (some 12), none, (.q (.mov (.t 15))), []⟩] 4)
  (.cond (.t 12)
  (.seq (.reg [⟨0, (some 16), none, (.q (.mov (.t 0))), []⟩,
    ⟨1, (some 17), none, (.q (.mki 61 (.k (.int .i64 12)))), []⟩,
    ⟨2, (some 18), none, (.call 24 [(.t 16), (.t 17)]), []⟩] 3)
  (.seq (.reg [⟨0, (some 4), none, (.q (.mov (.k (.int .u64 0)))), []⟩,
    ⟨1, (some 5), none, (.q (.mov (.k (.int .i64 0)))), []⟩,
    ⟨2, (some 6), none, (.q (.mov (.k (.bool false)))), []⟩] 3)
  .ret))
  (.seq (.reg [⟨0, (some 20), none, (.q (.mov (.t 7))), []⟩,
    ⟨1, (some 21), none, (.q (.isl 1 (.t 20) (.k (.int .i64 0)))), []⟩,
    ⟨2, (some 22), none, (.q (.ldc (.t 21))), []⟩,
    ⟨3, (some 23), none, (.q (.bin .gtr (.t 22) (.k (.int .u8 8)))), []⟩,
    ⟨4, (some 19), none, (.q (.mov (.t 23))), []⟩] 5)
  (.cond (.t 19)
  (.seq (.reg [⟨0, (some 24), none, (.q (.mov (.t 0))), []⟩,
    ⟨1, (some 25), none, (.q (.mki 61 (.k (.int .i64 3)))), []⟩,
    ⟨2, (some 26), none, (.call 24 [(.t 24), (.t 25)]), []⟩] 3)
  (.seq (.reg [⟨0, (some 4), none, (.q (.mov (.k (.int .u64 0)))), []⟩,
    ⟨1, (some 5), none, (.q (.mov (.k (.int .i64 0)))), []⟩,
    ⟨2, (some 6), none, (.q (.mov (.k (.bool false)))), []⟩] 3)
  .ret))
  .skip)))))
  (.seq (.reg [⟨0, (some 28), none, (.q (.mov (.t 0))), []⟩,
    ⟨1, (some 29), none, (.q (.mov (.t 7))), []⟩,
    ⟨2, (some 30), none, (.q (.isl 1 (.t 29) (.k (.int .i64 0)))), []⟩,
    ⟨3, (some 31), none, (.q (.ldc (.t 30))), []⟩,
    ⟨4, (some 32), none, (.q (.cnv .i64 (.t 31))), []⟩,
    ⟨5, (some 33), none, (.call 25 [(.t 28), (.t 32), (.k (.int .u8 0))]), []⟩,
    ⟨6, (some 27), none, (.q (.mov (.t 33))), []⟩,
    ⟨7, (some 34), none, (.q (.ext 0 (.t 27))), []⟩,
    ⟨8, (some 35), none, (.q (.ext 1 (.t 27))), []⟩,
    ⟨9, (some 8), none, (.q (.mov (.t 34))), []⟩,
    ⟨10, (some 9), none, (.q (.mov (.t 35))), []⟩] 11)
  (.seq (.seq (.reg [⟨0, (some 36), none, (.q (.mov (.t 9))), []⟩,
    ⟨1, (some 37), none, (.q (.eqi false (.t 36))), []⟩,
    ⟨2, (some 38), none, (.q (.mov (.t 37))), []⟩,
    ⟨3, (some 39), (some (38, true)), (.q (.mov (.t 8))), []⟩,
    ⟨4, (some 40), (some (38, true)), (.q (.mov (.t 1))), []⟩,
    ⟨5, (some 41), (some (38, true)), (.q (.bin .gtr (.t 39) (.t 40))), []⟩,
    ⟨6, (some 42), none, (.q (.pick (.t 38) (.t 41) (.k (.bool false)))), []⟩] 7)
  (.cond (.t 42)
  (.reg [⟨0, (some 43), none, (.q (.mki 61 (.k (.int .i64 4)))), []⟩,
    ⟨1, (some 9), none, (.q (.mov (.t 43))), []⟩] 2)
  .skip))
  (.seq (.seq (.reg [⟨0, (some 44), none, (.q (.mov (.t 9))), []⟩,
    ⟨1, (some 45), none, (.q (.eqi true (.t 44))), []⟩] 2)
  (.cond (.t 45)
  (.seq (.reg [⟨0, (some 46), none, (.q (.mov (.t 0))), []⟩,
    ⟨1, (some 47), none, (.q (.mov (.t 9))), []⟩,
    ⟨2, (some 48), none, (.call 24 [(.t 46), (.t 47)]), []⟩] 3)
  (.seq (.reg [⟨0, (some 4), none, (.q (.mov (.k (.int .u64 0)))), []⟩,
    ⟨1, (some 5), none, (.q (.mov (.k (.int .i64 0)))), []⟩,
    ⟨2, (some 6), none, (.q (.mov (.k (.bool false)))), []⟩] 3)
  .ret))
  .skip))
  (.seq (.reg [⟨0, (some 49), none, (.q (.mov (.t 8))), []⟩,
    ⟨1, (some 50), none, (.q (.mov (.t 7))), []⟩,
    ⟨2, (some 51), none, (.q (.isl 1 (.t 50) (.k (.int .i64 0)))), []⟩,
    ⟨3, (some 52), none, (.q (.ldc (.t 51))), []⟩,
    ⟨4, (some 53), none, (.q (.cnv .i64 (.t 52))), []⟩,
    ⟨5, (some 54), none, (.q (.bin .add (.k (.int .i64 1)) (.t 53))), []⟩,
    ⟨6, (some 4), none, (.q (.mov (.t 49))), []⟩,
    ⟨7, (some 5), none, (.q (.mov (.t 54))), []⟩,
    ⟨8, (some 6), none, (.q (.mov (.k (.bool true)))), []⟩] 9)
  .ret))))))), [.mov (.t 4), .mov (.t 5), .mov (.t 6)], 55)
theorem k_number : cfun Tryd.prog 26 = some c_number := by kernel_rfl

def c_RdUint : EB × List QOp × Nat := ((.seq (.reg [⟨0, (some 4), none, (.q (.mov (.k (.int .u64 0)))), []⟩] 1)
  (.seq (.seq (.reg [⟨0, (some 8), none, (.q (.mov (.t 0))), []⟩,
    ⟨1, (some 9), none, (.call 22 [(.t 8)]), []⟩] 2)
  (.cond (.t 9)
  (.seq (.reg [⟨0, (some 4), none, (.q (.mov (.k (.int .u64 0)))), []⟩] 1)
  .ret)
  .skip))
  (.seq (.reg [⟨0, (some 11), none, (.q (.mov (.t 0))), []⟩,
    ⟨1, (some 12), none, (.q (.mov (.t 1))), []⟩,
    ⟨2, (some 13), none, (.call 26 [(.t 11), (.t 12)]), []⟩,
    ⟨3, (some 10), none, (.q (.mov (.t 13))), []⟩,
    ⟨4, (some 14), none, (.q (.ext 0 (.t 10))), []⟩,
    ⟨5, (some 15), none, (.q (.ext 1 (.t 10))), []⟩,
    ⟨6, (some 16), none, (.q (.ext 2 (.t 10))), []⟩,
    ⟨7, (some 5), none, (.q (.mov (.t 14))), []⟩,
    ⟨8, (some 6), none, (.q (.mov (.t 15))), []⟩,
    ⟨9, (some 7), none, (.q (.mov (.t 16))), []⟩] 10)
  (.seq (.seq (.reg [⟨0, (some 17), none, (.q (.mov (.t 7))), []⟩] 1)
  (.cond (.t 17)
  (.reg [⟨0, (some 18), none, (.q (.mov (.t 0))), []⟩,
    ⟨1, (some 19), none, (.q (.nilc (.t 18))), []⟩,
    ⟨2, (some 20), none, (.q (.fad 1 (.t 19))), []⟩,
    ⟨3, (some 21), none, (.q (.ldc (.t 20))), []⟩,
    ⟨4, (some 22), none, (.q (.mov (.t 6))), []⟩,
    ⟨5, (some 23), none, (.q (.bin .add (.t 21) (.t 22))), []⟩,
    ⟨6, (some 24), none, (.q (.nilc (.t 18))), []⟩,
    ⟨7, (some 25), none, (.q (.fad 1 (.t 24))), []⟩,
    ⟨8, none, none, (.sto 1 (.t 25) (.t 23)), []⟩] 9)
  .skip))
  (.seq (.reg [⟨0, (some 26), none, (.q (.mov (.t 5))), []⟩,
    ⟨1, (some 4), none, (.q (.mov (.t 26))), []⟩] 2)
  .ret))))), [.mov (.t 4)], 27)
theorem k_RdUint : cfun Tryd.prog 8 = some c_RdUint := by kernel_rfl

def c_RdHash : EB × List QOp × Nat := ((.seq (.reg [⟨0, (some 2), none, (.q (.alloc 52 (List.replicate 32 (.int .u8 0)))), []⟩] 1)
  (.seq (.reg [⟨0, (some 3), none, (.q (.alloc 52 (List.replicate 32 (.int .u8 0)))), []⟩] 1)
  (.seq (.block 0 (.seq (.reg [⟨0, (some 16), none, (.q (.mov (.t 0))), []⟩,
    ⟨1, (some 17), none, (.call 22 [(.t 16)]), []⟩,
    ⟨2, (some 15), none, (.q (.mov (.t 17))), []⟩] 3)
  (.cond (.t 15)
  .skip
  (.seq (.reg [⟨0, (some 19), none, (.q (.mov (.t 0))), []⟩,
    ⟨1, (some 20), none, (.call 23 [(.t 19)]), []⟩,
    ⟨2, (some 21), none, (.q (.len (.t 20))), []⟩,
    ⟨3, (some 22), none, (.q (.bin .lss (.t 21) (.k (.int .i64 32)))), []⟩,
    ⟨4, (some 18), none, (.q (.mov (.t 22))), []⟩] 5)
  (.cond (.t 18)
  (.reg [⟨0, (some 23), none, (.q (.mov (.t 0))), []⟩,
    ⟨1, (some 24), none, (.q (.mki 61 (.k (.int .i64 12)))), []⟩,
    ⟨2, (some 25), none, (.call 24 [(.t 23), (.t 24)]), []⟩] 3)
  (.reg [⟨0, (some 4), none, (.q (.mov (.t 0))), []⟩,
    ⟨1, (some 5), none, (.q (.nilc (.t 4))), []⟩,
    ⟨2, (some 6), none, (.q (.fad 1 (.t 5))), []⟩,
    ⟨3, (some 7), none, (.q (.ldc (.t 6))), []⟩,
    ⟨4, (some 8), none, (.q (.sar 32 (.t 3) none none)), []⟩,
    ⟨5, (some 9), none, (.q (.mov (.t 0))), []⟩,
    ⟨6, (some 10), none, (.call 23 [(.t 9)]), [0, 1, 2, 3, 4]⟩,
    ⟨7, (some 11), none, (.cpy 1 (.t 8) (.t 10)), [0, 1, 2, 3]⟩,
    ⟨8, (some 12), none, (.q (.bin .add (.t 7) (.t 11))), []⟩,
    ⟨9, (some 13), none, (.q (.nilc (.t 4))), []⟩,
    ⟨10, (some 14), none, (.q (.fad 1 (.t 13))), []⟩,
    ⟨11, none, none, (.sto 1 (.t 14) (.t 12)), []⟩] 12))))))
  (.seq (.reg [⟨0, (some 26), none, (.q (.lda 32 (.t 3))), []⟩,
    ⟨1, none, none, (.sto 32 (.t 2) (.t 26)), []⟩] 2)
  .ret)))), [.lda 32 (.t 2)], 27)
theorem k_RdHash : cfun Tryd.prog 21 = some c_RdHash := by kernel_rfl

def c_RdLeft : EB × List QOp × Nat := ((.seq (.reg [⟨0, (some 2), none, (.q (.mov (.k (.int .i64 0)))), []⟩] 1)
  (.seq (.seq (.reg [⟨0, (some 3), none, (.q (.mov (.t 0))), []⟩,
    ⟨1, (some 4), none, (.q (.eqp false (.t 3))), []⟩] 2)
  (.cond (.t 4)
  (.seq (.reg [⟨0, (some 2), none, (.q (.mov (.k (.int .i64 0)))), []⟩] 1)
  .ret)
  .skip))
  (.seq (.reg [⟨0, (some 5), none, (.q (.mov (.t 0))), []⟩,
    ⟨1, (some 6), none, (.call 23 [(.t 5)]), []⟩,
    ⟨2, (some 7), none, (.q (.len (.t 6))), []⟩,
    ⟨3, (some 2), none, (.q (.mov (.t 7))), []⟩] 4)
  .ret))), [.mov (.t 2)], 8)
theorem k_RdLeft : cfun Tryd.prog 17 = some c_RdLeft := by kernel_rfl

def c_RdDone : EB × List QOp × Nat := ((.seq (.reg [⟨0, (some 2), none, (.q (.mov (.k .nilIface))), []⟩] 1)
  (.seq (.block 0 (.seq (.reg [⟨0, (some 4), none, (.q (.mov (.t 0))), []⟩,
    ⟨1, (some 5), none, (.q (.eqp false (.t 4))), []⟩,
    ⟨2, (some 3), none, (.q (.mov (.t 5))), []⟩] 3)
  (.cond (.t 3)
  (.seq (.reg [⟨0, (some 6), none, (.q (.mki 61 (.k (.int .i64 1)))), []⟩,
    ⟨1, (some 2), none, (.q (.mov (.t 6))), []⟩] 2)
  .ret)
  (.seq (.reg [⟨0, (some 8), none, (.q (.mov (.t 0))), []⟩,
    ⟨1, (some 9), none, (.q (.nilc (.t 8))), []⟩,
    ⟨2, (some 10), none, (.q (.fad 2 (.t 9))), []⟩,
    ⟨3, (some 11), none, (.q (.ldc (.t 10))), []⟩,
    ⟨4, (some 12), none, (.q (.eqi true (.t 11))), []⟩,
    ⟨5, (some 7), none, (.q (.mov (.t 12))), []⟩] 6)
  (.cond (.t 7)
  (.seq (.reg [⟨0, (some 13), none, (.q (.mov (.t 0))), []⟩,
    ⟨1, (some 14), none, (.q (.nilc (.t 13))), []⟩,
    ⟨2, (some 15), none, (.q (.fad 2 (.t 14))), []⟩,
    ⟨3, (some 16), none, (.q (.ldc (.t 15))), []⟩,
    ⟨4, (some 2), none, (.q (.mov (.t 16))), []⟩] 5)
  .ret)
  (.seq (.reg [⟨0, (some 18), none, (.q (.mov (.t 0))), []⟩,
    ⟨1, (some 19), none, (.q (.nilc (.t 18))), []⟩,
    ⟨2, (some 20), none, (.q (.fad 1 (.t 19))), []⟩,
    ⟨3, (some 21), none, (.q (.ldc (.t 20))), []⟩,
    ⟨4, (some 22), none, (.q (.mov (.t 0))), []⟩,
    ⟨5, (some 23), none, (.q (.nilc (.t 22))), []⟩,
    ⟨6, (some 24), none, (.q (.fad 0 (.t 23))), []⟩,
    ⟨7, (some 25), none, (.q (.ldc (.t 24))), []⟩,
    ⟨8, (some 26), none, (.q (.len (.t 25))), []⟩,
    ⟨9, (some 27), none, (.q (.bin .lss (.t 21) (.t 26))), []⟩,
    ⟨10, (some 17), none, (.q (.mov (.t 27))), []⟩] 11)
  (.cond (.t 17)
  (.seq (.reg [⟨0, (some 28), none, (.q (.mki 61 (.k (.int .i64 3)))), []⟩,
    ⟨1, (some 2), none, (.q (.mov (.t 28))), []⟩] 2)
  .ret)
  .skip)))))))
  (.seq (.reg [⟨0, (some 2), none, (.q (.mov (.k .nilIface))), []⟩] 1)
  .ret))), [.mov (.t 2)], 29)
theorem k_RdDone : cfun Tryd.prog 12 = some c_RdDone := by kernel_rfl

def c_RdBytes : EB × List QOp × Nat := ((.seq (.reg [⟨0, (some 4), none, (.q (.mov (.k (.slice none 0 0)))), []⟩] 1)
  (.seq (.seq (.reg [⟨0, (some 9), none, (.q (.mov (.t 0))), []⟩,
    ⟨1, (some 10), none, (.call 22 [(.t 9)]), []⟩] 2)
  (.cond (.t 10)
  (.seq (.reg [⟨0, (some 4), none, (.q (.mov (.k (.slice none 0 0)))), []⟩] 1)
  .ret)
  .skip))
  (.seq (.seq (.reg [⟨0, (some 11), none, (.q (.mov (.t 1))), []⟩,
    ⟨1, (some 12), none, (.q (.bin .lss (.t 11) (.k (.int .i64 0)))), []⟩] 2)
  (.cond (.t 12)
  (.seq (.reg [⟨0, (some 13), none, (.q (.mov (.t 0))), []⟩,
    ⟨1, (some 14), none, (.q (.mki 61 (.k (.int .i64 1)))), []⟩,
    ⟨2, (some 15), none, (.call 24 [(.t 13), (.t 14)]), []⟩] 3)
  (.seq (.reg [⟨0, (some 4), none, (.q (.mov (.k (.slice none 0 0)))), []⟩] 1)
  .ret))
  .skip))
  (.seq (.reg [⟨0, (some 5), none, (.q (.mov (.k (.slice none 0 0)))), []⟩] 1)
  (.seq (.reg [⟨0, (some 16), none, (.q (.mov (.t 0))), []⟩,
    ⟨1, (some 17), none, (.call 23 [(.t 16)]), []⟩,
    ⟨2, (some 6), none, (.q (.mov (.t 17))), []⟩] 3)
  (.seq (.seq (.reg [⟨0, (some 7), none, (.q (.mov (.k (.int .i64 0)))), []⟩] 1)
  (.block 0 (.loop (.seq (.seq (.reg [⟨0, (some 18), none, (.q (.mov (.t 7))), []⟩,
    ⟨1, (some 19), none, (.q (.mov (.t 6))), []⟩,
    ⟨2, (some 20), none, (.q (.len (.t 19))), []⟩,
    ⟨3, (some 21), none, (.q (.bin .lss (.t 18) (.t 20))), []⟩] 4)
  (.cond (.t 21)
  .skip
  (.exit 0)))
  (.seq (.block 1 (.seq (.reg [⟨0, (some 24), none, (.q (.mov (.t 6))), []⟩,
    ⟨1, (some 25), none, (.q (.mov (.t 7))), []⟩,
    ⟨2, (some 26), none, (.q (.isl 1 (.t 24) (.t 25))), []⟩,
    ⟨3, (some 27), none, (.q (.ldc (.t 26))), []⟩,
    ⟨4, (some 8), none, (.q (.mov (.t 27))), []⟩] 5)
  (.seq (.seq (.reg [⟨0, (some 28), none, (.q (.mov (.t 8))), []⟩,
    ⟨1, (some 29), none, (.q (.bin .eql (.t 28) (.k (.int .u8 0)))), []⟩] 2)
  (.cond (.t 29)
  (.seq (.reg [⟨0, (some 30), none, (.q (.mov (.t 7))), []⟩,
    ⟨1, (some 31), none, (.q (.bin .add (.t 30) (.k (.int .i64 1)))), []⟩,
    ⟨2, (some 7), none, (.q (.mov (.t 31))), []⟩] 3)
  (.block 2 (.seq (.reg [⟨0, (some 33), none, (.q (.mov (.t 7))), []⟩,
    ⟨1, (some 34), none, (.q (.mov (.t 6))), []⟩,
    ⟨2, (some 35), none, (.q (.len (.t 34))), []⟩,
    ⟨3, (some 36), none, (.q (.bin .eql (.t 33) (.t 35))), []⟩,
    ⟨4, (some 32), none, (.q (.mov (.t 36))), []⟩] 5)
  (.cond (.t 32)
  (.seq (.reg [⟨0, (some 37), none, (.q (.mov (.t 0))), []⟩,
    ⟨1, (some 38), none, (.q (.mki 61 (.k (.int .i64 12)))), []⟩,
    ⟨2, (some 39), none, (.call 24 [(.t 37), (.t 38)]), []⟩] 3)
  (.seq (.reg [⟨0, (some 4), none, (.q (.mov (.k (.slice none 0 0)))), []⟩] 1)
  .ret))
  (.seq (.reg [⟨0, (some 41), none, (.q (.mov (.t 6))), []⟩,
    ⟨1, (some 42), none, (.q (.mov (.t 7))), []⟩,
    ⟨2, (some 43), none, (.q (.isl 1 (.t 41) (.t 42))), []⟩,
    ⟨3, (some 44), none, (.q (.ldc (.t 43))), []⟩,
    ⟨4, (some 45), none, (.q (.bin .eql (.t 44) (.k (.int .u8 0)))), []⟩,
    ⟨5, (some 40), none, (.q (.mov (.t 45))), []⟩] 6)
  (.cond (.t 40)
  (.seq (.reg [⟨0, (some 46), none, (.q (.mov (.t 0))), []⟩,
    ⟨1, (some 47), none, (.q (.nilc (.t 46))), []⟩,
    ⟨2, (some 48), none, (.q (.fad 1 (.t 47))), []⟩,
    ⟨3, (some 49), none, (.q (.ldc (.t 48))), []⟩,
    ⟨4, (some 50), none, (.q (.mov (.t 7))), []⟩,
    ⟨5, (some 51), none, (.q (.bin .add (.t 50) (.k (.int .i64 1)))), []⟩,
    ⟨6, (some 52), none, (.q (.bin .add (.t 49) (.t 51))), []⟩,
    ⟨7, (some 53), none, (.q (.nilc (.t 46))), []⟩,
    ⟨8, (some 54), none, (.q (.fad 1 (.t 53))), []⟩,
    ⟨9, none, none, (.sto 1 (.t 54) (.t 52)), []⟩] 10)
  (.seq (.reg [⟨0, (some 55), none, (.q (.mov (.t 5))), []⟩,
    ⟨1, (some 4), none, (.q (.mov (.t 55))), []⟩] 2)
  .ret))
  (.seq (.reg [⟨0, (some 57), none, (.q (.mov (.t 6))), []⟩,
    ⟨1, (some 58), none, (.q (.mov (.t 7))), []⟩,
    ⟨2, (some 59), none, (.q (.isl 1 (.t 57) (.t 58))), []⟩,
    ⟨3, (some 60), none, (.q (.ldc (.t 59))), []⟩,
    ⟨4, (some 61), none, (.q (.bin .neq (.t 60) (.k (.int .u8 255)))), []⟩,
    ⟨5, (some 56), none, (.q (.mov (.t 61))), []⟩] 6)
  (.cond (.t 56)
  (.seq (.reg [⟨0, (some 62), none, (.q (.mov (.t 0))), []⟩,
    ⟨1, (some 63), none, (.q (.mki 61 (.k (.int .i64 3)))), []⟩,
    ⟨2, (some 64), none, (.call 24 [(.t 62), (.t 63)]), []⟩] 3)
  (.seq (.reg [⟨0, (some 4), none, (.q (.mov (.k (.slice none 0 0)))), []⟩] 1)
  .ret))
  .skip))))))))
  .skip))
  (.seq (.seq (.reg [⟨0, (some 65), none, (.q (.mov (.t 5))), []⟩,
    ⟨1, (some 66), none, (.q (.len (.t 65))), []⟩,
    ⟨2, (some 67), none, (.q (.mov (.t 1))), []⟩,
    ⟨3, (some 68), none, (.q (.bin .eql (.t 66) (.t 67))), []⟩] 4)
  (.cond (.t 68)
  (.seq (.reg [⟨0, (some 69), none, (.q (.mov (.t 0))), []⟩,
    ⟨1, (some 70), none, (.q (.mki 61 (.k (.int .i64 2)))), []⟩,
    ⟨2, (some 71), none, (.call 24 [(.t 69), (.t 70)]), []⟩] 3)
  (.seq (.reg [⟨0, (some 4), none, (.q (.mov (.k (.slice none 0 0)))), []⟩] 1)
  .ret))
  .skip))
  (.reg [⟨0, (some 72), none, (.q (.mov (.t 5))), []⟩,
    ⟨1, (some 73), none, (.q (.mov (.t 8))), []⟩,
    ⟨2, (some 74), none, (.q (.bsl 1 [(.int .u8 0)] 1 [(0, (.t 73))])), []⟩,
    ⟨3, (some 75), none, (.app 5 1 1 (.t 72) (.t 74)), []⟩,
    ⟨4, (some 5), none, (.q (.mov (.t 75))), []⟩] 5)))))
  (.reg [⟨0, (some 22), none, (.q (.mov (.t 7))), []⟩,
    ⟨1, (some 23), none, (.q (.bin .add (.t 22) (.k (.int .i64 1)))), []⟩,
    ⟨2, (some 7), none, (.q (.mov (.t 23))), []⟩] 3))))))
  (.seq (.reg [⟨0, (some 76), none, (.q (.mov (.t 0))), []⟩,
    ⟨1, (some 77), none, (.q (.mki 61 (.k (.int .i64 12)))), []⟩,
    ⟨2, (some 78), none, (.call 24 [(.t 76), (.t 77)]), []⟩] 3)
  (.seq (.reg [⟨0, (some 4), none, (.q (.mov (.k (.slice none 0 0)))), []⟩] 1)
  .ret)))))))), [.mov (.t 4)], 79)
theorem k_RdBytes : cfun Tryd.prog 15 = some c_RdBytes := by kernel_rfl


/-- The number that bytes begin with, up to a bound: the error, the number, how many bytes it takes. -/
def numS (b : List UInt8) (most : Nat) : Nat × Nat × Nat :=
  match b with
  | [] => (12, 0, 0)
  | c :: r => if 8 < c.toNat then (3, 0, 0) else
    let q := lowS r c.toNat 0
    if q.2 ≠ 0 then (q.2, 0, 0) else if most < q.1 then (4, 0, 0) else (0, q.1, 1 + c.toNat)

theorem low_lt (r : List UInt8) (many : Nat) (mask : UInt8) (hm : many ≤ 8) : (lowS r many mask).1 < 18446744073709551616 := by
  unfold lowS
  split
  · simp
  split
  · simp
  have h1 := val_lt ((r.take many).map (· ^^^ mask))
  have h2 : ((r.take many).map (· ^^^ mask)).length ≤ 8 := by simp <;> omega
  have h3 := Nat.pow_le_pow_right (show 0 < 256 by omega) h2
  have h4 : (256 : Nat) ^ 8 = 18446744073709551616 := by decide
  show valB _ < _
  omega
theorem low_len (r : List UInt8) (many : Nat) (mask : UInt8) (h : (lowS r many mask).2 = 0) : many ≤ r.length := by
  unfold lowS at h
  split at h
  · simp at h
  · omega
theorem numS_ok (b : List UInt8) (most : Nat) : (numS b most).2.1 < 18446744073709551616 ∧ (numS b most).2.1 ≤ most ∧ (numS b most).2.2 ≤ b.length ∧ ((numS b most).1 ≠ 0 → (numS b most).2.1 = 0 ∧ (numS b most).2.2 = 0) := by
  unfold numS
  split
  · simp
  rename_i c r
  split
  · simp
  rename_i h8
  have h1 := low_lt r c.toNat 0 (by omega)
  have h2 := low_len r c.toNat 0
  obtain ⟨q, hq⟩ : ∃ q, lowS r c.toNat 0 = q := ⟨_, rfl⟩
  rw [hq] at h1 h2
  simp only [hq]
  split
  · simp
  rename_i hq2
  have := h2 (by omega)
  split
  · simp
  · simp; omega

set_option maxHeartbeats 1000000 in
theorem number_ok (l : List UInt8) (p most : Nat) (hp : p ≤ l.length) (hl : l.length ≤ 1000000000) (hm : most < 18446744073709551616) : ECalls Tryd.prog 26 [Ptr 0, I .u64 most] [RdO l p 0] fun y H' => H' = [some (RdO l p (numS (l.drop p) most).1)] ∧ y = .tup [.c (.fz (.lit (.int .u64 (numS (l.drop p) most).2.1))), .c (.fz (.lit (.int .i64 (numS (l.drop p) most).2.2))), .c (.fz (.lit (.bool (decide ((numS (l.drop p) most).1 = 0)))))] := by
  refine ecalls k_number ?_
  simp [c_number, Ptr, I]
  refine callH [0] (rest_ok l p 0 hp) (by simp [Ptr, NP, I, R, RO, WO, RdO, Bs, EV.lit]) (by simp [Ptr, NP, I, R, RO, WO, RdO, Bs, EV.lit]) (by simp) (by simp [Ptr, NP, I, R, RO, WO, RdO, Bs, EV.lit]) (by simp [Wok]) ?_
  rintro y H' ⟨rfl, rfl⟩
  refine ⟨.inl (by simp [Ptr, NP, I, R, RO, WO, RdO, Bs, EV.lit]), le_ok rfl, ?_⟩
  simp [Ptr, NP, I, R, RO, WO, RdO, Bs, EV.lit]
  obtain ⟨b, hb⟩ : ∃ b, l.drop p = b := ⟨_, rfl⟩
  have hbl : b.length = l.length - p := by rw [← hb, List.length_drop]
  simp only [hb, List.length_drop, ← hbl]
  rcases b with _ | ⟨c, r⟩
  · simp
    refine callH [0] (fail_ok l p 0 12) (by simp [Ptr, NP, I, R, RO, WO, RdO, Bs, EV.lit]) (by simp [Ptr, NP, I, R, RO, WO, RdO, Bs, EV.lit]) (by simp) (by simp [Ptr, NP, I, R, RO, WO, RdO, Bs, EV.lit]) (by simp [Wok]) ?_
    rintro y H' ⟨rfl, rfl⟩
    refine ⟨.inl (by simp [Ptr, NP, I, R, RO, WO, RdO, Bs, EV.lit]), le_ok rfl, ?_⟩
    simp [Ptr, NP, I, R, RO, WO, RdO, Bs, EV.lit]
    exact fin [] (by decide) rfl rfl rfl ⟨rfl, rfl⟩
  have hr : l.drop (p + 1) = r := by
    have := congrArg List.tail hb
    rwa [List.tail_drop] at this
  have hcl := c.toNat_lt
  simp at hcl hbl
  simp [bsv_cons, cb]
  refine alt (fun h8 => ?_) (fun h8 => ?_)
  · have hi : numS (c :: r) most = (3, 0, 0) := by simp only [numS]; rw [if_pos (by omega)]
    rw [hi]
    simp
    refine callH [0] (fail_ok l p 0 3) (by simp [Ptr, NP, I, R, RO, WO, RdO, Bs, EV.lit]) (by simp [Ptr, NP, I, R, RO, WO, RdO, Bs, EV.lit]) (by simp) (by simp [Ptr, NP, I, R, RO, WO, RdO, Bs, EV.lit]) (by simp [Wok]) ?_
    rintro y H' ⟨rfl, rfl⟩
    refine ⟨.inl (by simp [Ptr, NP, I, R, RO, WO, RdO, Bs, EV.lit]), le_ok rfl, ?_⟩
    simp [Ptr, NP, I, R, RO, WO, RdO, Bs, EV.lit]
    exact fin [] (by decide) rfl rfl rfl ⟨rfl, rfl⟩
  have h8' : ¬ 8 < c.toNat := by omega
  have w0 : IntKind.i64.wrap (c.toNat : Int) = c.toNat := wrap_i64 (by omega) (by omega)
  simp [w0]
  refine callH [0] (low_ok l p 0 c.toNat 0 (by omega) (by omega)) (by simp [Ptr, NP, I, R, RO, WO, RdO, Bs, EV.lit]) (by simp [Ptr, NP, I, R, RO, WO, RdO, Bs, EV.lit]) (by simp) (by simp [Ptr, NP, I, R, RO, WO, RdO, Bs, EV.lit]) (by simp [Wok]) ?_
  rintro y H' ⟨rfl, rfl⟩
  refine ⟨.inl (by simp [Ptr, NP, I, R, RO, WO, RdO, Bs, EV.lit]), le_ok rfl, ?_⟩
  rw [hr]
  have h1 := low_lt r c.toNat 0 (by omega)
  obtain ⟨q, hq⟩ : ∃ q, lowS r c.toNat 0 = q := ⟨_, rfl⟩
  rw [hq] at h1 ⊢
  have hi0 : numS (c :: r) most = if q.2 ≠ 0 then (q.2, 0, 0) else if most < q.1 then (4, 0, 0) else (0, q.1, 1 + c.toNat) := by
    simp only [numS, if_neg h8', hq]
  by_cases hq2 : q.2 = 0
  · by_cases hq1 : most < q.1
    · have hi : numS (c :: r) most = (4, 0, 0) := by rw [hi0, if_neg (by omega), if_pos hq1]
      rw [hi]
      simp [RdO, hq2, show ((most : Int) < (q.1 : Int)) from by omega]
      refine callH [0] (fail_ok l p 0 4) (by simp [Ptr, NP, I, R, RO, WO, RdO, Bs, EV.lit]) (by simp [Ptr, NP, I, R, RO, WO, RdO, Bs, EV.lit]) (by simp) (by simp [Ptr, NP, I, R, RO, WO, RdO, Bs, EV.lit]) (by simp [Wok]) ?_
      rintro y H' ⟨rfl, rfl⟩
      refine ⟨.inl (by simp [Ptr, NP, I, R, RO, WO, RdO, Bs, EV.lit]), le_ok rfl, ?_⟩
      simp [Ptr, NP, I, R, RO, WO, RdO, Bs, EV.lit]
      exact fin [] (by decide) rfl rfl rfl ⟨rfl, rfl⟩
    · have hi : numS (c :: r) most = (0, q.1, 1 + c.toNat) := by rw [hi0, if_neg (by omega), if_neg hq1]
      rw [hi]
      have w5 : IntKind.i64.wrap (1 + (c.toNat : Int)) = 1 + (c.toNat : Int) := wrap_i64 (by omega) (by omega)
      simp [RdO, hq2, show ¬ ((most : Int) < (q.1 : Int)) from by omega, w0, w5, bsv_cons, cb]
      exact fin [] (by decide) rfl rfl rfl ⟨rfl, rfl⟩
  · have hi : numS (c :: r) most = (q.2, 0, 0) := by rw [hi0, if_pos hq2]
    rw [hi]
    simp [RdO, hq2]
    refine callH [0] (fail_ok l p 0 q.2) (by simp [Ptr, NP, I, R, RO, WO, RdO, Bs, EV.lit]) (by simp [Ptr, NP, I, R, RO, WO, RdO, Bs, EV.lit]) (by simp) (by simp [Ptr, NP, I, R, RO, WO, RdO, Bs, EV.lit]) (by simp [Wok]) ?_
    rintro y H' ⟨rfl, rfl⟩
    refine ⟨.inl (by simp [Ptr, NP, I, R, RO, WO, RdO, Bs, EV.lit]), le_ok rfl, ?_⟩
    simp [RdO, hq2]
    exact fin [] (by decide) rfl rfl rfl ⟨rfl, rfl⟩

theorem RdUint_ok (l : List UInt8) (p most : Nat) (hp : p ≤ l.length) (hl : l.length ≤ 1000000000) (hm : most < 18446744073709551616) : ECalls Tryd.prog 8 [Ptr 0, I .u64 most] [RdO l p 0] fun y H' => H' = [some (RdO l (p + (numS (l.drop p) most).2.2) (numS (l.drop p) most).1)] ∧ y = I .u64 (numS (l.drop p) most).2.1 := by
  refine ecalls k_RdUint ?_
  simp [c_RdUint, Ptr, I]
  refine callH [0] (off_ok l p 0) (by simp [Ptr, NP, I, R, RO, WO, RdO, Bs, EV.lit]) (by simp [Ptr, NP, I, R, RO, WO, RdO, Bs, EV.lit]) (by simp) (by simp [Ptr, NP, I, R, RO, WO, RdO, Bs, EV.lit]) (by simp [Wok]) ?_
  rintro y H' ⟨rfl, rfl⟩
  refine ⟨.inl (by simp [Ptr, NP, I, R, RO, WO, RdO, Bs, EV.lit]), le_ok rfl, ?_⟩
  simp [Ptr, NP, I, R, RO, WO, RdO, Bs, EV.lit]
  refine callH [0] (number_ok l p most hp hl hm) (by simp [Ptr, NP, I, R, RO, WO, RdO, Bs, EV.lit]) (by simp [Ptr, NP, I, R, RO, WO, RdO, Bs, EV.lit]) (by simp) (by simp [Ptr, NP, I, R, RO, WO, RdO, Bs, EV.lit]) (by simp [Wok]) ?_
  rintro y H' ⟨rfl, rfl⟩
  refine ⟨.inl (by simp [Ptr, NP, I, R, RO, WO, RdO, Bs, EV.lit]), le_ok rfl, ?_⟩
  have hn := numS_ok (l.drop p) most
  obtain ⟨q, hq⟩ : ∃ q, numS (l.drop p) most = q := ⟨_, rfl⟩
  rw [hq] at hn ⊢
  simp at hn
  simp [RdO]
  refine alt (fun h0 => ?_) (fun h0 => ?_)
  · have w6 : IntKind.i64.wrap ((p : Int) + (q.2.2 : Int)) = ((p + q.2.2 : Nat) : Int) := by rw [wrap_i64 (by omega) (by omega)]; omega
    simp [w6, -Int.natCast_add]
    exact fin [] (by decide) rfl rfl rfl ⟨rfl, rfl⟩
  · have := hn.2.2.2 h0
    simp
    exact fin [] (by decide) rfl rfl rfl ⟨by simp [this], rfl⟩

theorem RdUint_off (l : List UInt8) (p e most : Nat) (he : e ≠ 0) : ECalls Tryd.prog 8 [Ptr 0, I .u64 most] [RdO l p e] fun y H' => H' = [some (RdO l p e)] ∧ y = I .u64 0 := by
  refine ecalls k_RdUint ?_
  simp [c_RdUint, Ptr, I]
  refine callH [0] (off_ok l p e) (by simp [Ptr, NP, I, R, RO, WO, RdO, Bs, EV.lit]) (by simp [Ptr, NP, I, R, RO, WO, RdO, Bs, EV.lit]) (by simp) (by simp [Ptr, NP, I, R, RO, WO, RdO, Bs, EV.lit]) (by simp [Wok]) ?_
  rintro y H' ⟨rfl, rfl⟩
  refine ⟨.inl (by simp [Ptr, NP, I, R, RO, WO, RdO, Bs, EV.lit]), le_ok rfl, ?_⟩
  simp [he, RdO, I]
  exact fin [] (by decide) rfl rfl rfl ⟨rfl, rfl⟩
theorem RdUint_nil (most : Nat) : ECalls Tryd.prog 8 [NP, I .u64 most] [] fun y H' => H' = [] ∧ y = I .u64 0 := by
  refine ecalls k_RdUint ?_
  simp [c_RdUint, NP, I]
  refine call0 off_nil (by simp [NP]) ?_
  rintro y H' ⟨rfl, rfl⟩
  simp
  exact fin [] (by decide) rfl rfl rfl ⟨rfl, rfl⟩

theorem RdLeft_ok (l : List UInt8) (p e : Nat) (hp : p ≤ l.length) : ECalls Tryd.prog 17 [Ptr 0] [RdO l p e] fun y H' => H' = [some (RdO l p e)] ∧ y = I .i64 ((l.length - p : Nat) : Int) := by
  refine ecalls k_RdLeft ?_
  simp [c_RdLeft, Ptr]
  refine callH [0] (rest_ok l p e hp) (by simp [Ptr, NP, I, R, RO, WO, RdO, Bs, EV.lit]) (by simp [Ptr, NP, I, R, RO, WO, RdO, Bs, EV.lit]) (by simp) (by simp [Ptr, NP, I, R, RO, WO, RdO, Bs, EV.lit]) (by simp [Wok]) ?_
  rintro y H' ⟨rfl, rfl⟩
  refine ⟨.inl (by simp [Ptr, NP, I, R, RO, WO, RdO, Bs, EV.lit]), le_ok rfl, ?_⟩
  simp [Ptr, NP, I, R, RO, WO, RdO, Bs, EV.lit]
  exact fin [] (by decide) rfl rfl rfl ⟨rfl, rfl⟩
theorem RdDone_ok (l : List UInt8) (p e : Nat) (hp : p ≤ l.length) : ECalls Tryd.prog 12 [Ptr 0] [RdO l p e] fun y H' => H' = [some (RdO l p e)] ∧ y = .lit (errV (if e ≠ 0 then e else if p < l.length then 3 else 0)) := by
  refine ecalls k_RdDone ?_
  by_cases he : e = 0
  · subst he
    simp [c_RdDone, Ptr, RdO]
    refine alt (fun h => ?_) (fun h => ?_)
    · simp
      exact fin [] (by decide) rfl rfl rfl ⟨rfl, by simp [h]⟩
    · simp
      exact fin [] (by decide) rfl rfl rfl ⟨rfl, by simp [h]⟩
  · simp [c_RdDone, Ptr, RdO, he]
    exact fin [] (by decide) rfl rfl rfl ⟨rfl, by simp⟩
theorem RdDone_nil : ECalls Tryd.prog 12 [NP] [] fun y H' => H' = [] ∧ y = .lit (errV 1) := by
  refine ecalls k_RdDone ?_
  simp [c_RdDone, NP]
  exact fin [] (by decide) rfl rfl rfl ⟨rfl, rfl⟩

/-- The sum that bytes begin with. -/
def hashS (b : List UInt8) : Nat × List UInt8 × Nat := if b.length < 32 then (12, List.replicate 32 0, 0) else (0, b.take 32, 32)
theorem RdHash_ok (l : List UInt8) (p : Nat) (hp : p ≤ l.length) (hl : l.length ≤ 1000000000) : ECalls Tryd.prog 21 [Ptr 0] [RdO l p 0] fun y H' => H' = [some (RdO l (p + (hashS (l.drop p)).2.2) (hashS (l.drop p)).1)] ∧ y = Ag (hashS (l.drop p)).2.1 := by
  refine ecalls k_RdHash ?_
  simp [c_RdHash, Ptr]
  refine callH [0] (off_ok l p 0) (by simp [Ptr, NP, I, R, RO, WO, RdO, Bs, EV.lit]) (by simp [Ptr, NP, I, R, RO, WO, RdO, Bs, EV.lit]) (by simp) (by simp [Ptr, NP, I, R, RO, WO, RdO, Bs, EV.lit]) (by simp [Wok]) ?_
  rintro y H' ⟨rfl, rfl⟩
  refine ⟨.inl (by simp [Ptr, NP, I, R, RO, WO, RdO, Bs, EV.lit]), le_ok rfl, ?_⟩
  simp [Ptr, NP, I, R, RO, WO, RdO, Bs, EV.lit]
  refine callH [0] (rest_ok l p 0 hp) (by simp [Ptr, NP, I, R, RO, WO, RdO, Bs, EV.lit]) (by simp [Ptr, NP, I, R, RO, WO, RdO, Bs, EV.lit]) (by simp) (by simp [Ptr, NP, I, R, RO, WO, RdO, Bs, EV.lit]) (by simp [Wok]) ?_
  rintro y H' ⟨rfl, rfl⟩
  refine ⟨.inl (by simp [Ptr, NP, I, R, RO, WO, RdO, Bs, EV.lit]), le_ok rfl, ?_⟩
  simp [Ptr, NP, I, R, RO, WO, RdO, Bs, EV.lit]
  refine alt (fun h => ?_) (fun h => ?_)
  · have hi : hashS (l.drop p) = (12, List.replicate 32 0, 0) := by unfold hashS; rw [if_pos (by rw [List.length_drop]; omega)]
    rw [hi]
    simp
    refine callH [0] (fail_ok l p 0 12) (by simp [Ptr, NP, I, R, RO, WO, RdO, Bs, EV.lit]) (by simp [Ptr, NP, I, R, RO, WO, RdO, Bs, EV.lit]) (by simp) (by simp [Ptr, NP, I, R, RO, WO, RdO, Bs, EV.lit]) (by simp [Wok]) ?_
    rintro y H' ⟨rfl, rfl⟩
    refine ⟨.inl (by simp [Ptr, NP, I, R, RO, WO, RdO, Bs, EV.lit]), le_ok rfl, ?_⟩
    simp [Ptr, NP, I, R, RO, WO, RdO, Bs, EV.lit]
    exact fin [] (by decide) rfl rfl rfl ⟨rfl, rfl⟩
  · have hi : hashS (l.drop p) = (0, (l.drop p).take 32, 32) := by unfold hashS; rw [if_neg (by rw [List.length_drop]; omega)]
    rw [hi]
    simp
    have m1 : min (l.length - p) 32 = 32 := by omega
    have m2 : min 32 (l.length - p) = 32 := by omega
    have w6 : IntKind.i64.wrap ((p : Int) + 32) = (p : Int) + 32 := wrap_i64 (by omega) (by omega)
    refine callS [0] (rest_ok l p 0 hp) (by simp [Ptr, NP, I, R, RO, WO, RdO, Bs, EV.lit]) (by simp [Ptr, NP, I, R, RO, WO, RdO, Bs, EV.lit]) (by simp) (by simp [Ptr, NP, I, R, RO, WO, RdO, Bs, EV.lit]) (by intro i hi y H' h; obtain ⟨rfl, rfl⟩ := h; simp at hi; subst hi; simp [Ptr, NP, I, R, RO, WO, RdO, Bs, EV.lit]) ?_
    rintro y H' ⟨rfl, rfl⟩
    refine ⟨.inl (by simp [Ptr, NP, I, R, RO, WO, RdO, Bs, EV.lit]), le_ok rfl, ?_⟩
    simp [RdO, Bs, m1, m2, w6]
    exact fin [] (by decide) (v := Ag ((l.drop p).take 32)) (by simp [resV, evT, Ag, m1, m2, List.take_take]) (by simp [conR, conT, Ag]) rfl ⟨rfl, rfl⟩

theorem RdHash_off (l : List UInt8) (p e : Nat) (he : e ≠ 0) : ECalls Tryd.prog 21 [Ptr 0] [RdO l p e] fun y H' => H' = [some (RdO l p e)] ∧ y = Ag (List.replicate 32 0) := by
  refine ecalls k_RdHash ?_
  simp [c_RdHash, Ptr]
  refine callH [0] (off_ok l p e) (by simp [Ptr, NP, I, R, RO, WO, RdO, Bs, EV.lit]) (by simp [Ptr, NP, I, R, RO, WO, RdO, Bs, EV.lit]) (by simp) (by simp [Ptr, NP, I, R, RO, WO, RdO, Bs, EV.lit]) (by simp [Wok]) ?_
  rintro y H' ⟨rfl, rfl⟩
  refine ⟨.inl (by simp [Ptr, NP, I, R, RO, WO, RdO, Bs, EV.lit]), le_ok rfl, ?_⟩
  simp [he, RdO]
  exact fin [] (by decide) rfl rfl rfl ⟨rfl, rfl⟩

theorem RdHash_nil : ECalls Tryd.prog 21 [NP] [] fun y H' => H' = [] ∧ y = Ag (List.replicate 32 0) := by
  refine ecalls k_RdHash ?_
  simp [c_RdHash, NP]
  refine call0 off_nil (by simp [NP]) ?_
  rintro y H' ⟨rfl, rfl⟩
  simp
  exact fin [] (by decide) rfl rfl rfl ⟨rfl, rfl⟩

/-- What was taken off ahead, and what comes behind it. -/
def addS (out : List UInt8) (i : Nat) (q : Nat × List UInt8 × Nat) : Nat × List UInt8 × Nat := if q.1 ≠ 0 then (q.1, [], 0) else (0, out ++ q.2.1, i + q.2.2)
theorem addS_addS (o1 o2 : List UInt8) (i j : Nat) (q : Nat × List UInt8 × Nat) : addS o1 i (addS o2 j q) = addS (o1 ++ o2) (i + j) q := by
  by_cases h : q.1 = 0 <;> simp [addS, h, Nat.add_assoc]
/-- The bytes that bytes begin with, at most so many: the error, the bytes, how many it takes. -/
def bytS : List UInt8 → Nat → Nat × List UInt8 × Nat
  | [], _ => (12, [], 0)
  | c :: r, m => if c = 0 then (match r with
      | [] => (12, [], 0)
      | x :: r' => if x = 0 then (0, [], 2) else if x ≠ 255 then (3, [], 0) else if m = 0 then (2, [], 0) else addS [0] 2 (bytS r' (m - 1)))
    else if m = 0 then (2, [], 0) else addS [c] 1 (bytS r (m - 1))
theorem bytS_c {c : UInt8} {r : List UInt8} {m : Nat} (h : c ≠ 0) (hm : m ≠ 0) : bytS (c :: r) m = addS [c] 1 (bytS r (m - 1)) := by rw [bytS.eq_def]; simp [h, hm]
theorem bytS_0 {r : List UInt8} {m : Nat} (hm : m ≠ 0) : bytS (0 :: 255 :: r) m = addS [0] 2 (bytS r (m - 1)) := by rw [bytS.eq_def]; simp [hm]
theorem bytS_len : ∀ (b : List UInt8) (m : Nat), (bytS b m).2.2 ≤ b.length ∧ (bytS b m).2.1.length ≤ m ∧ (bytS b m).2.1.length ≤ b.length ∧ ((bytS b m).1 ≠ 0 → (bytS b m).2.1 = [] ∧ (bytS b m).2.2 = 0)
  | [], m => by simp [bytS]
  | [c], m => by
    by_cases h : c = 0
    · subst h; simp [bytS]
    · by_cases hm : m = 0
      · subst hm; simp [bytS, h]
      · rw [bytS_c h hm]; simp [bytS, addS]
  | c :: x :: r, m => by
    by_cases h : c = 0
    · subst h
      by_cases h1 : x = 0
      · subst h1; simp [bytS]
      · by_cases h2 : x = 255
        · subst h2
          by_cases hm : m = 0
          · subst hm; simp [bytS]
          · rw [bytS_0 hm]
            have := bytS_len r (m - 1)
            unfold addS
            split
            · simp
            · simp; omega
        · have : bytS (0 :: x :: r) m = (3, [], 0) := by rw [bytS.eq_def]; simp [h1, h2]
          rw [this]; simp
    · by_cases hm : m = 0
      · subst hm; simp [bytS, h]
      · rw [bytS_c h hm]
        have := bytS_len (x :: r) (m - 1)
        unfold addS
        split
        · simp
        · simp at this ⊢; omega

theorem drop_cons {α : Type} {b : List α} {i : Nat} {c : α} (h : b[i]? = some c) : b.drop i = c :: b.drop (i + 1) := by
  have hi : i < b.length := lt_len h
  rw [List.drop_eq_getElem_cons hi]
  congr 1
  rw [List.getElem?_eq_getElem hi] at h
  exact Option.some.inj h
theorem bsv_get {b : List UInt8} {i : Nat} {c : UInt8} (h : b[i]? = some c) : (bsv b)[i]? = some (cb c) := by simp [bsv, h]

theorem RdBytes_off (l : List UInt8) (p e : Nat) (most : Int) (he : e ≠ 0) : ECalls Tryd.prog 15 [Ptr 0, I .i64 most] [RdO l p e] fun y H' => H' = [some (RdO l p e)] ∧ y = Bs [] := by
  refine ecalls k_RdBytes ?_
  simp [c_RdBytes, Ptr, I]
  refine callH [0] (off_ok l p e) (by simp [Ptr, NP, I, R, RO, WO, RdO, Bs, EV.lit]) (by simp [Ptr, NP, I, R, RO, WO, RdO, Bs, EV.lit]) (by simp) (by simp [Ptr, NP, I, R, RO, WO, RdO, Bs, EV.lit]) (by simp [Wok]) ?_
  rintro y H' ⟨rfl, rfl⟩
  refine ⟨.inl (by simp [Ptr, NP, I, R, RO, WO, RdO, Bs, EV.lit]), le_ok rfl, ?_⟩
  simp [he, RdO]
  refine finW _ (weak_nilF 4 1 rfl) ?_
  exact fin [] (by decide) rfl rfl rfl ⟨rfl, rfl⟩

theorem RdBytes_nil (most : Int) : ECalls Tryd.prog 15 [NP, I .i64 most] [] fun y H' => H' = [] ∧ y = Bs [] := by
  refine ecalls k_RdBytes ?_
  simp [c_RdBytes, NP, I]
  refine call0 off_nil (by simp [NP]) ?_
  rintro y H' ⟨rfl, rfl⟩
  simp
  refine finW _ (weak_nilF 4 1 rfl) ?_
  exact fin [] (by decide) rfl rfl rfl ⟨rfl, rfl⟩

/-- The same, for any bound. -/
def bytZ (b : List UInt8) (most : Int) : Nat × List UInt8 × Nat := if most < 0 then (1, [], 0) else bytS b most.toNat

set_option maxHeartbeats 2000000 in
theorem RdBytes_ok (l : List UInt8) (p : Nat) (most : Int) (hp : p ≤ l.length) (hl : l.length ≤ 1000000000) : ECalls Tryd.prog 15 [Ptr 0, I .i64 most] [RdO l p 0] fun y H' => H' = [some (RdO l (p + (bytZ (l.drop p) most).2.2) (bytZ (l.drop p) most).1)] ∧ y = Bs (bytZ (l.drop p) most).2.1 := by
  refine ecalls k_RdBytes ?_
  simp [c_RdBytes, Ptr, I]
  refine callH [0] (off_ok l p 0) (by simp [Ptr, NP, I, R, RO, WO, RdO, Bs, EV.lit]) (by simp [Ptr, NP, I, R, RO, WO, RdO, Bs, EV.lit]) (by simp) (by simp [Ptr, NP, I, R, RO, WO, RdO, Bs, EV.lit]) (by simp [Wok]) ?_
  rintro y H' ⟨rfl, rfl⟩
  refine ⟨.inl (by simp [Ptr, NP, I, R, RO, WO, RdO, Bs, EV.lit]), le_ok rfl, ?_⟩
  simp [Ptr, NP, I, R, RO, WO, RdO, Bs, EV.lit]
  refine alt (fun hneg => ?_) (fun hneg => ?_)
  · have hi : bytZ (l.drop p) most = (1, [], 0) := by rw [bytZ, if_pos hneg]
    rw [hi]
    simp
    refine callH [0] (fail_ok l p 0 1) (by simp [Ptr, NP, I, R, RO, WO, RdO, Bs, EV.lit]) (by simp [Ptr, NP, I, R, RO, WO, RdO, Bs, EV.lit]) (by simp) (by simp [Ptr, NP, I, R, RO, WO, RdO, Bs, EV.lit]) (by simp [Wok]) ?_
    rintro y H' ⟨rfl, rfl⟩
    refine ⟨.inl (by simp [Ptr, NP, I, R, RO, WO, RdO, Bs, EV.lit]), le_ok rfl, ?_⟩
    simp [Ptr, NP, I, R, RO, WO, RdO, Bs, EV.lit]
    refine finW _ (weak_nilF 4 1 rfl) ?_
    exact fin [] (by decide) rfl rfl rfl ⟨rfl, rfl⟩
  have hi : bytZ (l.drop p) most = bytS (l.drop p) most.toNat := by rw [bytZ, if_neg hneg]
  rw [hi]
  obtain ⟨k, rfl⟩ : ∃ k : Nat, most = k := ⟨most.toNat, by omega⟩
  simp
  refine callH [0] (rest_ok l p 0 hp) (by simp [Ptr, NP, I, R, RO, WO, RdO, Bs, EV.lit]) (by simp [Ptr, NP, I, R, RO, WO, RdO, Bs, EV.lit]) (by simp) (by simp [Ptr, NP, I, R, RO, WO, RdO, Bs, EV.lit]) (by simp [Wok]) ?_
  rintro y H' ⟨rfl, rfl⟩
  refine ⟨.inl (by simp [Ptr, NP, I, R, RO, WO, RdO, Bs, EV.lit]), le_ok rfl, ?_⟩
  obtain ⟨b, hb⟩ : ∃ b, l.drop p = b := ⟨_, rfl⟩
  have hbl : b.length = l.length - p := by rw [← hb, List.length_drop]
  simp only [hb]
  simp [RdO, Bs]
  refine loopW _ (weak_nilR 5 5 1 rfl (by omega)) ?_
  refine eloop (α := Nat × List UInt8) (fun a => a.1 ≤ b.length ∧ a.2.length ≤ a.1 ∧ a.2.length ≤ k ∧ bytS b k = addS a.2 a.1 (bytS (b.drop a.1) (k - a.2.length))) (fun a => b.length - a.1)
    (fun a => [Ptr 0, I .i64 k, .any, .any, .any, R 1 a.2, Bs b, I .i64 a.1, .any, .any, .any, .any, .any, .any, .any, .any, .any, .any, .any, .any, .any, .any, .any, .any, .any, .any, .any, .any, .any, .any, .any, .any, .any, .any, .any, .any, .any, .any, .any, .any, .any, .any, .any, .any, .any, .any, .any, .any, .any, .any, .any, .any, .any, .any, .any, .any, .any, .any, .any, .any, .any, .any, .any, .any, .any, .any, .any, .any, .any, .any, .any, .any, .any, .any, .any, .any, .any, .any, .any]) (fun a => [some (RdO l p 0), some (RO a.2)]) (0, []) [0, 161]
    ⟨by simp, by simp, by simp, by
      have := (bytS_len b k).2.2.2
      simp only [addS, List.drop_zero, List.length_nil, Nat.sub_zero, List.nil_append, Nat.zero_add]
      split
      · rename_i h; rw [← (this h).1, ← (this h).2]
      · rename_i h; simp at h; rw [← h]⟩ (by simp [Ptr, I, R, Bs]) (by simp [RdO, RO]) (by simp) (by simp) (by simp) ?_
  rintro ⟨i, out⟩ ⟨hi1, hi2, hi3, hi4⟩
  simp [Ptr, I, R, Bs, RdO, RO] at hi1 hi2 hi3 hi4 ⊢
  refine alt (fun hlt => ?_) (fun hlt => ?_)
  rotate_left
  · have : i = b.length := by omega
    subst this
    have hi : bytS b k = (12, [], 0) := by rw [hi4]; simp [bytS, addS]
    rw [hi]
    simp
    refine callH [0] (fail_ok l p 0 12) (by simp [Ptr, NP, I, R, RO, WO, RdO, Bs, EV.lit]) (by simp [Ptr, NP, I, R, RO, WO, RdO, Bs, EV.lit]) (by simp) (by simp [Ptr, NP, I, R, RO, WO, RdO, Bs, EV.lit]) (by simp [Wok]) ?_
    rintro y H' ⟨rfl, rfl⟩
    refine ⟨.inl (by simp [Ptr, NP, I, R, RO, WO, RdO, Bs, EV.lit]), le_ok rfl, ?_⟩
    simp [Ptr, NP, I, R, RO, WO, RdO, Bs, EV.lit]
    refine finW _ (weak_nilF 4 1 rfl) ?_
    exact fin [] (by decide) rfl rfl rfl ⟨rfl, rfl⟩
  obtain ⟨c, hc⟩ : ∃ c, b[i]? = some c := ⟨b[i], by simp [hlt]⟩
  have hcb := bsv_get hc
  have hdc := drop_cons hc
  rw [hdc] at hi4
  have w1 : IntKind.i64.wrap ((i : Int) + 1) = ((i + 1 : Nat) : Int) := wrap_i64 (by omega) (by omega)
  simp [hcb, cb]
  refine alt (fun hz => ?_) (fun hz => ?_)
  · have hc0 : c = 0 := by apply UInt8.toNat_inj.1; simpa using hz
    subst hc0
    simp [w1, -Int.natCast_add]
    refine alt (fun he => ?_) (fun he => ?_)
    · have hd : b.drop (i + 1) = [] := by rw [List.drop_eq_nil_iff]; omega
      have hi : bytS b k = (12, [], 0) := by rw [hi4, hd]; simp [bytS, addS]
      rw [hi]
      simp
      refine callH [0] (fail_ok l p 0 12) (by simp [Ptr, NP, I, R, RO, WO, RdO, Bs, EV.lit]) (by simp [Ptr, NP, I, R, RO, WO, RdO, Bs, EV.lit]) (by simp) (by simp [Ptr, NP, I, R, RO, WO, RdO, Bs, EV.lit]) (by simp [Wok]) ?_
      rintro y H' ⟨rfl, rfl⟩
      refine ⟨.inl (by simp [Ptr, NP, I, R, RO, WO, RdO, Bs, EV.lit]), le_ok rfl, ?_⟩
      simp [Ptr, NP, I, R, RO, WO, RdO, Bs, EV.lit]
      refine finW _ (weak_nilF 4 1 rfl) ?_
      exact fin [] (by decide) rfl rfl rfl ⟨rfl, rfl⟩
    obtain ⟨x, hx⟩ : ∃ x, b[i + 1]? = some x := ⟨b[i + 1]'(by omega), by simp <;> omega⟩
    have hxb := bsv_get hx
    have hdx := drop_cons hx
    rw [hdx] at hi4
    simp [hxb, cb, -Int.natCast_add]
    refine alt (fun hz2 => ?_) (fun hz2 => ?_)
    · have hx0 : x = 0 := by apply UInt8.toNat_inj.1; simpa using hz2
      subst hx0
      have hi : bytS b k = (0, out, i + 2) := by rw [hi4]; simp [bytS, addS]
      rw [hi]
      have w2 : IntKind.i64.wrap (((i + 1 : Nat) : Int) + 1) = ((i + 2 : Nat) : Int) := wrap_i64 (by omega) (by omega)
      have w3 : IntKind.i64.wrap ((p : Int) + ((i + 2 : Nat) : Int)) = ((p + (i + 2) : Nat) : Int) := by rw [wrap_i64 (by omega) (by omega)]; omega
      simp [w2, w3, -Int.natCast_add]
      refine finW _ (weak_frz (o := 1) (ty := 5) (es := 1) (xs := bsv out) rfl) ?_
      exact fin [] (by decide) rfl rfl rfl ⟨rfl, by simp [Bs]⟩
    have hx0 : x ≠ 0 := by rintro rfl; exact hz2 rfl
    simp [hxb, cb, -Int.natCast_add]
    refine alt (fun h255 => ?_) (fun h255 => ?_)
    · have hx1 : x ≠ 255 := by rintro rfl; exact h255 rfl
      have hi : bytS b k = (3, [], 0) := by rw [hi4]; simp [bytS, addS, hx0, hx1]
      rw [hi]
      simp
      refine callH [0] (fail_ok l p 0 3) (by simp [Ptr, NP, I, R, RO, WO, RdO, Bs, EV.lit]) (by simp [Ptr, NP, I, R, RO, WO, RdO, Bs, EV.lit]) (by simp) (by simp [Ptr, NP, I, R, RO, WO, RdO, Bs, EV.lit]) (by simp [Wok]) ?_
      rintro y H' ⟨rfl, rfl⟩
      refine ⟨.inl (by simp [Ptr, NP, I, R, RO, WO, RdO, Bs, EV.lit]), le_ok rfl, ?_⟩
      simp [Ptr, NP, I, R, RO, WO, RdO, Bs, EV.lit]
      refine finW _ (weak_nilF 4 1 rfl) ?_
      exact fin [] (by decide) rfl rfl rfl ⟨rfl, rfl⟩
    have hx1 : x = 255 := by apply UInt8.toNat_inj.1; simp at h255; simp; omega
    subst hx1
    simp [-Int.natCast_add]
    refine alt (fun hk => ?_) (fun hk => ?_)
    · have hi : bytS b k = (2, [], 0) := by rw [hi4]; simp [bytS, addS, show k - out.length = 0 by omega]
      rw [hi]
      simp
      refine callH [0] (fail_ok l p 0 2) (by simp [Ptr, NP, I, R, RO, WO, RdO, Bs, EV.lit]) (by simp [Ptr, NP, I, R, RO, WO, RdO, Bs, EV.lit]) (by simp) (by simp [Ptr, NP, I, R, RO, WO, RdO, Bs, EV.lit]) (by simp [Wok]) ?_
      rintro y H' ⟨rfl, rfl⟩
      refine ⟨.inl (by simp [Ptr, NP, I, R, RO, WO, RdO, Bs, EV.lit]), le_ok rfl, ?_⟩
      simp [Ptr, NP, I, R, RO, WO, RdO, Bs, EV.lit]
      refine finW _ (weak_nilF 4 1 rfl) ?_
      exact fin [] (by decide) rfl rfl rfl ⟨rfl, rfl⟩
    have w2 : IntKind.i64.wrap (((i + 1 : Nat) : Int) + 1) = ((i + 2 : Nat) : Int) := wrap_i64 (by omega) (by omega)
    simp [w2, -Int.natCast_add]
    refine ⟨by omega, round (i + 2, out ++ [0]) [0, 610] ⟨by simp <;> omega, by simp <;> omega, by simp <;> omega, ?_⟩ (by simp <;> omega) (by simp) (by simp [bsv, cb]) (by simp) (by simp) (by simp)⟩
    rw [hi4, bytS_0 (by omega), addS_addS]
    simp [Nat.sub_sub]
  · have hc0 : c ≠ 0 := by rintro rfl; exact hz rfl
    simp
    refine alt (fun hk => ?_) (fun hk => ?_)
    · have hi : bytS b k = (2, [], 0) := by rw [hi4, show k - out.length = 0 by omega, bytS.eq_def]; simp [hc0, addS]
      rw [hi]
      simp
      refine callH [0] (fail_ok l p 0 2) (by simp [Ptr, NP, I, R, RO, WO, RdO, Bs, EV.lit]) (by simp [Ptr, NP, I, R, RO, WO, RdO, Bs, EV.lit]) (by simp) (by simp [Ptr, NP, I, R, RO, WO, RdO, Bs, EV.lit]) (by simp [Wok]) ?_
      rintro y H' ⟨rfl, rfl⟩
      refine ⟨.inl (by simp [Ptr, NP, I, R, RO, WO, RdO, Bs, EV.lit]), le_ok rfl, ?_⟩
      simp [Ptr, NP, I, R, RO, WO, RdO, Bs, EV.lit]
      refine finW _ (weak_nilF 4 1 rfl) ?_
      exact fin [] (by decide) rfl rfl rfl ⟨rfl, rfl⟩
    simp [w1, -Int.natCast_add]
    refine ⟨by omega, round (i + 1, out ++ [c]) [0, 290] ⟨by simp <;> omega, by simp <;> omega, by simp <;> omega, ?_⟩ (by simp <;> omega) (by simp) (by simp [bsv, cb]) (by simp) (by simp) (by simp)⟩
    rw [hi4, bytS_c hc0 (by omega), addS_addS]
    simp [Nat.sub_sub]

end Go.Proofs.YtbbcofojjgofmaaDoor
