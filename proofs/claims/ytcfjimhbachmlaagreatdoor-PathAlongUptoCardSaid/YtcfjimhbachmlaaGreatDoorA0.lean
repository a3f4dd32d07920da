/- A closed call, carried out by the kernel. MADE BY PROGRAM. -/
import Derived.Test.YtcfjimhbachmlaaGreatDoorM4
set_option linter.unusedVariables false
set_option linter.unusedSimpArgs false

namespace Go.Proofs.YtcfjimhbachmlaaGreatDoor.E
open Go Go.Proofs

noncomputable def in0 : List (Nat × Blk) := [(0, .cells [.int .u8 0,.int .u8 1,.int .u8 28,.int .u8 2,.int .u8 29,.int .u8 14,.int .u8 24,.int .u8 3,.int .u8 30,.int .u8 22,.int .u8 20,.int .u8 15,.int .u8 25,.int .u8 17,.int .u8 4,.int .u8 8,.int .u8 31,.int .u8 27,.int .u8 13,.int .u8 23,.int .u8 21,.int .u8 19,.int .u8 16,.int .u8 7,.int .u8 26,.int .u8 12,.int .u8 18,.int .u8 6,.int .u8 11,.int .u8 5,.int .u8 10,.int .u8 9] 380 false true),
  (1, .cells [.int .u8 0,.int .u8 1,.int .u8 56,.int .u8 2,.int .u8 57,.int .u8 49,.int .u8 28,.int .u8 3,.int .u8 61,.int .u8 58,.int .u8 42,.int .u8 50,.int .u8 38,.int .u8 29,.int .u8 17,.int .u8 4,.int .u8 62,.int .u8 47,.int .u8 59,.int .u8 36,.int .u8 45,.int .u8 43,.int .u8 51,.int .u8 22,.int .u8 53,.int .u8 39,.int .u8 33,.int .u8 30,.int .u8 24,.int .u8 18,.int .u8 12,.int .u8 5,.int .u8 63,.int .u8 55,.int .u8 48,.int .u8 27,.int .u8 60,.int .u8 41,.int .u8 37,.int .u8 16,.int .u8 46,.int .u8 35,.int .u8 44,.int .u8 21,.int .u8 52,.int .u8 32,.int .u8 23,.int .u8 11,.int .u8 54,.int .u8 26,.int .u8 40,.int .u8 15,.int .u8 34,.int .u8 20,.int .u8 31,.int .u8 10,.int .u8 25,.int .u8 14,.int .u8 19,.int .u8 9,.int .u8 13,.int .u8 8,.int .u8 7,.int .u8 6] 381 false true),
  (2, .cells [.int .u64 1,.int .u64 10,.int .u64 100,.int .u64 1000,.int .u64 10000,.int .u64 100000,.int .u64 1000000,.int .u64 10000000,.int .u64 100000000,.int .u64 1000000000,.int .u64 10000000000,.int .u64 100000000000,.int .u64 1000000000000,.int .u64 10000000000000,.int .u64 100000000000000,.int .u64 1000000000000000,.int .u64 10000000000000000,.int .u64 100000000000000000,.int .u64 1000000000000000000,.int .u64 10000000000000000000] 405 false true)]
noncomputable def out0 : List (Nat × Blk) := [(0, .cells [.int .u8 0,.int .u8 1,.int .u8 28,.int .u8 2,.int .u8 29,.int .u8 14,.int .u8 24,.int .u8 3,.int .u8 30,.int .u8 22,.int .u8 20,.int .u8 15,.int .u8 25,.int .u8 17,.int .u8 4,.int .u8 8,.int .u8 31,.int .u8 27,.int .u8 13,.int .u8 23,.int .u8 21,.int .u8 19,.int .u8 16,.int .u8 7,.int .u8 26,.int .u8 12,.int .u8 18,.int .u8 6,.int .u8 11,.int .u8 5,.int .u8 10,.int .u8 9] 380 false true),
  (1, .cells [.int .u8 0,.int .u8 1,.int .u8 56,.int .u8 2,.int .u8 57,.int .u8 49,.int .u8 28,.int .u8 3,.int .u8 61,.int .u8 58,.int .u8 42,.int .u8 50,.int .u8 38,.int .u8 29,.int .u8 17,.int .u8 4,.int .u8 62,.int .u8 47,.int .u8 59,.int .u8 36,.int .u8 45,.int .u8 43,.int .u8 51,.int .u8 22,.int .u8 53,.int .u8 39,.int .u8 33,.int .u8 30,.int .u8 24,.int .u8 18,.int .u8 12,.int .u8 5,.int .u8 63,.int .u8 55,.int .u8 48,.int .u8 27,.int .u8 60,.int .u8 41,.int .u8 37,.int .u8 16,.int .u8 46,.int .u8 35,.int .u8 44,.int .u8 21,.int .u8 52,.int .u8 32,.int .u8 23,.int .u8 11,.int .u8 54,.int .u8 26,.int .u8 40,.int .u8 15,.int .u8 34,.int .u8 20,.int .u8 31,.int .u8 10,.int .u8 25,.int .u8 14,.int .u8 19,.int .u8 9,.int .u8 13,.int .u8 8,.int .u8 7,.int .u8 6] 381 false true),
  (2, .cells [.int .u64 1,.int .u64 10,.int .u64 100,.int .u64 1000,.int .u64 10000,.int .u64 100000,.int .u64 1000000,.int .u64 10000000,.int .u64 100000000,.int .u64 1000000000,.int .u64 10000000000,.int .u64 100000000000,.int .u64 1000000000000,.int .u64 10000000000000,.int .u64 100000000000000,.int .u64 1000000000000000,.int .u64 10000000000000000,.int .u64 100000000000000000,.int .u64 1000000000000000000,.int .u64 10000000000000000000] 405 false true),
  (1082, .cells [.string ⟨#[97]⟩,.int .i64 2,.string ⟨#[98]⟩,.int .i64 1,.string ⟨#[99]⟩,.int .i64 0] 146 true false),
  (1093, .cells [.slice none 0 0] 96 true false),
  (1143, .cells [.int .i64 2,.int .i64 2,.slice none 0 0] 57 true false),
  (1263, .cells [.int .i64 0,.int .i64 0,.slice none 0 0] 57 true false),
  (1265, .cells [.int .i64 2,.int .i64 1,.slice (some ⟨1263,0,none⟩) 1 18446744073709551616] 57 true false),
  (1267, .cells [.int .i64 0,.int .i64 0,.slice none 0 0,.int .i64 1,.int .i64 1,.slice (some ⟨1265,0,none⟩) 1 18446744073709551616] 57 true false),
  (1269, .cells [.string ⟨#[115]⟩,.slice none 0 0,.int .i64 1,.int .i64 1,.slice (some ⟨1143,0,none⟩) 1 18446744073709551616,.string ⟨#[102]⟩,.slice (some ⟨1093,0,none⟩) 1 18446744073709551616,.int .i64 2,.int .i64 0,.slice (some ⟨1267,0,none⟩) 2 18446744073709551616] 98 true false),
  (1881, .cells [.int .i64 2,.int .i64 1,.int .i64 0] 3 true false),
  (2342, .cells [.slice (some ⟨3273,0,none⟩) 1 18446744073709551616,.slice none 0 0,.slice (some ⟨3638,0,none⟩) 1 18446744073709551616] 66 true false),
  (2344, .cells [.slice (some ⟨2342,0,none⟩) 3 3] 65 true false),
  (3190, .cells [.int .i64 0,.int .i64 0,.int .i64 1,.int .i64 0] 182 true false),
  (3273, .cells [.slice (some ⟨3190,0,none⟩) 2 18446744073709551616] 142 true false),
  (3638, .cells [.slice none 0 0] 142 true false)]
noncomputable def args0 : Array Value := #[]
noncomputable def val0 : Value := .tuple #[.agg #[.slice (some ⟨1082,0,none⟩) 3 18446744073709551616,.slice (some ⟨1269,0,none⟩) 2 18446744073709551616],.agg #[.slice (some ⟨1881,0,none⟩) 3 18446744073709551616,.int .i64 0,.slice (some ⟨2344,0,none⟩) 1 18446744073709551616]]
set_option maxRecDepth 100000
theorem con0 : Con 42 args0 in0 1000 val0 3719 out0 := con_of (fuel := 3000) fun u => by kernel_rfl

end Go.Proofs.YtcfjimhbachmlaaGreatDoor.E
