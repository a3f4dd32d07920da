/- PathAlong: the law holds of every input of bulk at most 1048576: 'virgationlaw21.PathAlong' returns true, and leaves its arguments as they were. -/
import Derived.Test.YtcfjimhbachmlaaGreatDoorM9
import Derived.Test.YtcfjimhbachmlaaGreatDoorF1
import Derived.Test.YtcfjimhbachmlaaGreatDoorF2
import Derived.Test.YtcfjimhbachmlaaGreatDoorF3
import Derived.Test.YtcfjimhbachmlaaGreatDoorF4
set_option linter.unusedVariables false
set_option linter.unusedSimpArgs false

namespace Go.Proofs.YtcfjimhbachmlaaGreatDoor.E
open Go Go.Proofs
open Go.ChangeShapes Go.WideShapes Go.ChangeAt Go.RowKit

theorem and2 {a b : Bool} (ha : a = true) (hb : b = true) : (a && b) = true := by rw [ha, hb]; rfl

set_option maxRecDepth 100000 in
theorem closed : joinedFacts Tryz.pinned.checked.prog 8 Tryz.f8 (Rows.OpenSpec.upto Rows.pathAlongSpec).bare Rows.pathAlongUptoRow = true := by
  unfold joinedFacts
  exact and2 (and2 (and2 (and2 (and2 (and2 (and2 (and2 (and2 (and2 (and2 (and2 (and2 (and2 (and2 (and2 (and2 (and2 (and2 (and2 (and2 (and2 (and2 (and2 (and2 (and2 (and2 (and2 (and2 (and2 (and2 jf0 jf1) jf2) jf3) jf4) jf5) jf6) jf7) jf8) jf9) jf10) jf11) jf12) jf13) jf14) jf15) jf16) jf17) jf18) jf19) jf20) jf21) jf22) jf23) jf24) jf25) jf26) jf27) jf28) jf29) jf30) jf31

theorem named8 : Tryz.pinned.checked.prog.funcNamed Rows.pathAlongUptoRow.func = some 8 := by kernel_rfl

theorem saidUpto : Rows.PathAlongUptoSaid :=
  OpenClaim.holds_of_cond 8 Tryz.f8 rfl rfl rfl rfl rfl rfl rfl ⟨rfl, rfl, rfl, rfl, rfl⟩ rfl rfl rfl rfl rfl named8 Tryz.func8 closed
    (of_decide_eq_true (by kernel_rfl)) (by unfold Func.isWrapper; first | (rw [if_pos (by decide +kernel)]; kernel_rfl) | (rw [if_neg (by decide +kernel)]; exact ⟨rfl, rfl⟩))
    (fun os started H enc _ F => by rw [OpenClaim.pre_eq_preRow]; exact liftedUpto os started H enc F)

/-- no parameter wants a stand-in; the program's own looks are off: what the card asks -/
theorem plain (f : FuncId) (fn : Func) (hf : Tryz.pinned.checked.prog.funcNamed "virgation/virgationlaw21.PathAlong" = some f) (hfn : Tryz.pinned.checked.prog.funcs[f]? = some fn) :
    false = Tryz.pinned.checked.prog.looks [] ∧ ∀ (j : Nat) t, fn.params[j]? = some t → Tryz.pinned.checked.prog.wantsStandIn t = false := by
  obtain rfl : f = 8 := Option.some.inj ((show Tryz.prog.funcNamed "virgation/virgationlaw21.PathAlong" = some 8 by kernel_rfl).symm.trans hf) |>.symm
  obtain rfl : fn = Tryz.f8 := (Option.some.inj (Tryz.func8.symm.trans hfn)).symm
  refine ⟨by kernel_rfl, fun j t ht => ?_⟩
  rw [Tryz.params8] at ht
  have : t = 29 ∨ t = 37 ∨ t = 26 := by simpa using Array.mem_of_getElem? ht
  rcases this with rfl | rfl | rfl
  · exact (show Tryz.prog.wantsStandIn 29 = false by kernel_rfl)
  · exact (show Tryz.prog.wantsStandIn 37 = false by kernel_rfl)
  · exact (show Tryz.prog.wantsStandIn 26 = false by kernel_rfl)

end Go.Proofs.YtcfjimhbachmlaaGreatDoor.E

namespace Go.Proofs.YtcfjimhbachmlaaGreatDoor
open Go

/-- PathAlong: true at every input of bulk at most 1048576 -/
theorem pathAlong_holds : Rows.PathAlongUptoCardSaid :=
  Claim7.holds_tied_plain_at .later [] _ _ _ _ E.saidUpto (fun _ h => by cases h) (by kernel_rfl) (fun _ h => by cases h) pathAlongUpto_row_tie rfl ⟨rfl, rfl⟩ (by kernel_rfl) rfl E.plain (by kernel_rfl)

end Go.Proofs.YtcfjimhbachmlaaGreatDoor
