/- The law's closed call alive() answers true wherever the three tables are known. MADE WITH A PROGRAM. -/
import Derived.Test.YtcfjimhbachmlaaGreatDoorM4
import Derived.Test.YtcfjimhbachmlaaGreatDoorA0
import Derived.Test.YtcfjimhbachmlaaGreatDoorA1
import Derived.Test.YtcfjimhbachmlaaGreatDoorA2
import Derived.Test.YtcfjimhbachmlaaGreatDoorA3
import Derived.Test.YtcfjimhbachmlaaGreatDoorA4
set_option linter.unusedVariables false
set_option linter.unusedSimpArgs false

namespace Go.Proofs.YtcfjimhbachmlaaGreatDoor.E
open Go Go.Proofs

noncomputable def segs : List Seg := [⟨42, args0, in0, 1000, val0, 3719, out0⟩, ⟨43, args1, in1, 3721, val1, 6314, out1⟩, ⟨17, args2, in2, 6315, val2, 11819, out2⟩, ⟨44, args3, in3, 11820, val3, 12128, out3⟩, ⟨20, args4, in4, 12128, val4, 12816, out4⟩]

theorem segs_ok : ∀ s ∈ segs, s.ok := by
  intro s hs
  simp only [segs, List.mem_cons, List.not_mem_nil, or_false] at hs
  rcases hs with rfl | rfl | rfl | rfl | rfl
  · exact con0
  · exact con1
  · exact con2
  · exact con3
  · exact con4

set_option maxRecDepth 100000 in
theorem alive_run (u : Nat → Prop) : runsTo segs 12 in0 1000 true u = true := by kernel_rfl

theorem globs_const : (in0.all (constBlk Tryz.prog.globals.size)) = true := by kernel_rfl
theorem globs_size : Tryz.prog.globals.size = 3 := by kernel_rfl

/-- alive() is true, and leaves all as it was -/
theorem alive12 {H : Heap} (hH : ∀ i b, (mk in0).get i = some b → H.get i = some b) : SC Tryz.prog 12 #[] H (fun v H' => v = .bool true ∧ H' = H) :=
  SC.closed (runsTo_ok segs_ok (alive_run _)) (by rw [globs_size]; decide) (fun i c hc => constBlk_ok (List.all_eq_true.1 globs_const _ (mk_mem hc))) H hH

end Go.Proofs.YtcfjimhbachmlaaGreatDoor.E
