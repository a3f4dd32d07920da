/- Contracts: the program's check of an automaton. -/
import Derived.Test.YtcfjimhbachmlaaGreatDoorM7
import Derived.Test.YtcfjimhbachmlaaGreatDoorA5
set_option linter.unusedVariables false
set_option linter.unusedSimpArgs false

namespace Go.Proofs.YtcfjimhbachmlaaGreatDoor.E
open Go Go.Proofs
open Go.Proofs.YtcfjimhbachmlaaGreatDoor.L

/-- auto.Check -/
def c75 : C2 :=
  .seq (.ops [(some 1, none, .raw (.box 29 (.tmp 0))),
    (some 2, none, .raw (.assign (.const (.int .i64 0))))]) (
  .seq (.ops [(some 11, none, .fld 2 (.tmp 1)),
    (some 12, none, .ld (.tmp 11)),
    (some 13, none, .len (.tmp 12)),
    (some 3, none, .alloc 3 [.int .i64 0]),
    (none, none, .st 1 (.tmp 3) (.tmp 13))]) (
  .seq (.seq (.ops [(some 14, none, .fld 0 (.tmp 1)),
    (some 15, none, .ld (.tmp 14)),
    (some 16, none, .call 132 [(.tmp 15)]),
    (some 17, none, .raw (.unOp .not 4 (.tmp 16))),
    (some 18, none, .raw (.move (.tmp 17))),
    (some 19, some (18, false), .ld (.tmp 3)),
    (some 20, some (18, false), .raw (.binOp .lss 3 (.tmp 19) (.const (.int .i64 1)) 3)),
    (some 21, none, .raw (.pick (.tmp 18) (.const (.bool true)) (.tmp 20))),
    (some 22, none, .raw (.move (.tmp 21))),
    (some 23, some (22, false), .ld (.tmp 3)),
    (some 24, some (22, false), .raw (.binOp .gtr 3 (.tmp 23) (.const (.int .i64 6)) 3)),
    (some 25, none, .raw (.pick (.tmp 22) (.const (.bool true)) (.tmp 24))),
    (some 26, none, .raw (.move (.tmp 25))),
    (some 27, some (26, false), .fld 1 (.tmp 1)),
    (some 28, some (26, false), .ld (.tmp 27)),
    (some 29, some (26, false), .raw (.binOp .lss 3 (.tmp 28) (.const (.int .i64 0)) 3)),
    (some 30, none, .raw (.pick (.tmp 26) (.const (.bool true)) (.tmp 29))),
    (some 31, none, .raw (.move (.tmp 30))),
    (some 32, some (31, false), .fld 1 (.tmp 1)),
    (some 33, some (31, false), .ld (.tmp 32)),
    (some 34, some (31, false), .ld (.tmp 3)),
    (some 35, some (31, false), .raw (.binOp .geq 3 (.tmp 33) (.tmp 34) 3)),
    (some 36, none, .raw (.pick (.tmp 31) (.const (.bool true)) (.tmp 35)))]) (
  .cond (.tmp 36) (
    .seq (.ops [(some 2, none, .raw (.assign (.const (.int .i64 10))))]) (
    .ret)) (
    .skip))) (
  .seq (.seq (.ops [(some 37, none, .fld 2 (.tmp 1)),
    (some 38, none, .ld (.tmp 37)),
    (some 39, none, .len (.tmp 38)),
    (some 40, none, .raw (.move (.const (.int .i64 0))))]) (
  .block 0 (
    .loop (
      .seq (.ops [(some 41, none, .raw (.binOp .lss 3 (.tmp 40) (.tmp 39) 3))]) (
      .seq (.cond (.tmp 41) (
        .skip) (
        .exit 0)) (
      .seq (.block 1 (
        .seq (.ops [(some 42, none, .ix 1 (.tmp 38) (.tmp 40)),
          (some 43, none, .ld (.tmp 42)),
          (some 5, none, .raw (.assign (.tmp 43)))]) (
        .seq (.seq (.ops [(some 44, none, .raw (.move (.tmp 5))),
          (some 45, none, .len (.tmp 44)),
          (some 46, none, .fld 0 (.tmp 1)),
          (some 47, none, .ld (.tmp 46)),
          (some 48, none, .len (.tmp 47)),
          (some 49, none, .raw (.binOp .neq 3 (.tmp 45) (.tmp 48) 3))]) (
        .cond (.tmp 49) (
          .seq (.ops [(some 2, none, .raw (.assign (.const (.int .i64 10))))]) (
          .ret)) (
          .skip))) (
        .seq (.ops [(some 50, none, .raw (.move (.tmp 5))),
          (some 51, none, .len (.tmp 50)),
          (some 52, none, .raw (.move (.const (.int .i64 0))))]) (
        .block 2 (
          .loop (
            .seq (.ops [(some 53, none, .raw (.binOp .lss 3 (.tmp 52) (.tmp 51) 3))]) (
            .seq (.cond (.tmp 53) (
              .skip) (
              .exit 2)) (
            .seq (.block 3 (
              .seq (.ops [(some 54, none, .raw (.move (.tmp 52))),
                (some 55, none, .ix 1 (.tmp 50) (.tmp 52)),
                (some 56, none, .ld (.tmp 55)),
                (some 6, none, .alloc 3 [.int .i64 0]),
                (none, none, .st 1 (.tmp 6) (.tmp 54)),
                (some 7, none, .raw (.assign (.tmp 56)))]) (
              .seq (.seq (.ops [(some 57, none, .raw (.move (.tmp 7))),
                (some 58, none, .len (.tmp 57)),
                (some 59, none, .raw (.binOp .gtr 3 (.tmp 58) (.const (.int .i64 12)) 3))]) (
              .cond (.tmp 59) (
                .seq (.ops [(some 2, none, .raw (.assign (.const (.int .i64 10))))]) (
                .ret)) (
                .skip))) (
              .seq (.seq (.ops [(some 60, none, .raw (.move (.tmp 7))),
                (some 61, none, .len (.tmp 60)),
                (some 62, none, .raw (.move (.const (.int .i64 0))))]) (
              .block 4 (
                .loop (
                  .seq (.ops [(some 63, none, .raw (.binOp .lss 3 (.tmp 62) (.tmp 61) 3))]) (
                  .seq (.cond (.tmp 63) (
                    .skip) (
                    .exit 4)) (
                  .seq (.block 5 (
                    .seq (.ops [(some 64, none, .ix 1 (.tmp 60) (.tmp 62)),
                      (some 65, none, .ld (.tmp 64)),
                      (some 9, none, .raw (.assign (.tmp 65)))]) (
                    .seq (.ops [(some 66, none, .raw (.makeFunc (.func 133) #[] #[(.tmp 1), (.tmp 6), (.tmp 3)])),
                      (some 10, none, .raw (.assign (.tmp 66)))]) (
                    .seq (.ops [(some 67, none, .raw (.move (.tmp 9))),
                      (some 68, none, .len (.tmp 67)),
                      (some 69, none, .raw (.binOp .gtr 3 (.tmp 68) (.const (.int .i64 24)) 3)),
                      (some 70, none, .raw (.move (.tmp 69))),
                      (some 71, some (70, false), .raw (.move (.tmp 9))),
                      (some 72, some (70, false), .raw (.move (.tmp 10))),
                      (some 73, some (70, false), .call 134 [(.tmp 71), (.tmp 72)]),
                      (some 74, none, .raw (.pick (.tmp 70) (.const (.bool true)) (.tmp 73))),
                      (some 75, none, .raw (.move (.tmp 74))),
                      (some 76, some (75, false), .raw (.move (.tmp 9))),
                      (some 77, some (75, false), .call 135 [(.tmp 76), (.func 136)]),
                      (some 78, some (75, false), .raw (.unOp .not 4 (.tmp 77))),
                      (some 79, none, .raw (.pick (.tmp 75) (.const (.bool true)) (.tmp 78)))]) (
                    .cond (.tmp 79) (
                      .seq (.ops [(some 2, none, .raw (.assign (.const (.int .i64 10))))]) (
                      .ret)) (
                      .skip)))))) (
                  .ops [(some 80, none, .raw (.binOp .add 3 (.tmp 62) (.const (.int .i64 1)) 3)),
                    (some 62, none, .raw (.move (.tmp 80)))]))))))) (
              .seq (.ops [(some 81, none, .raw (.move (.tmp 7))),
                (some 82, none, .call 137 [(.tmp 81), (.func 138)]),
                (some 83, none, .raw (.unOp .not 4 (.tmp 82)))]) (
              .cond (.tmp 83) (
                .seq (.ops [(some 2, none, .raw (.assign (.const (.int .i64 10))))]) (
                .ret)) (
                .skip))))))) (
            .ops [(some 84, none, .raw (.binOp .add 3 (.tmp 52) (.const (.int .i64 1)) 3)),
              (some 52, none, .raw (.move (.tmp 84)))])))))))))) (
      .ops [(some 85, none, .raw (.binOp .add 3 (.tmp 40) (.const (.int .i64 1)) 3)),
        (some 40, none, .raw (.move (.tmp 85)))]))))))) (
  .seq (.ops [(some 2, none, .raw (.assign (.const (.int .i64 0))))]) (
  .ret)))))
theorem fc75 : facts 75 = some (c75, [.tmp 2], 86) := by kernel_rfl

/-- the error for an automaton -/
def err75 (a : Au) : Int := if a.ok = true then 0 else 10

theorem err75_bad {a : Au} (h : a.ok = true → False) : Value.int .i64 10 = .int .i64 (err75 a) := by
  unfold err75
  rw [if_neg (fun e => h e)]

theorem bd_of {r n : Int} {x : Nd} (hr : r ≤ 4) (hn : n ≤ 6) (h : inR r n x = true) : Bd x := by
  simp only [inR, Bool.and_eq_true, decide_eq_true_eq] at h
  unfold Bd
  omega

set_option maxRecDepth 20000 in
theorem check75 {H : Heap} {v : Value} {a : Au} (hv : IsAu H.get v a) : SC Tryz.prog 75 #[v] H (fun r H' => r = .int .i64 (err75 a) ∧ Fr H H') := by
  refine SC_of_W fc75 (by simp) fun hwf => ?_
  obtain ⟨rv, mv, rfl, hr, hm⟩ := hv
  have hr0 := hr
  obtain ⟨pr, cr, rfl, hrlen, hrat⟩ := hr
  obtain ⟨pm, cm, rfl, hmlen, hmat⟩ := hm
  have kn := Kn.self hwf
  unfold c75
  simp only [W_skip, W_ops, W_sops, W_seq, W_block, W_exit, W_ret, W_cond, U_seq, U_seq_exit, U_seq_ret, U_blk, U_blk_ret, U_blk_exit, again_exit', again_ret', again_normal', U_ret1, S_nil, S_gd, S_ld, S_lda, S_fld, S_len, S_ix, S_call, S_callv, S_func, S_move, S_assign, S_pick, S_bin, S_not, gdo_tt, gdo_ff, gdo_tf, gdo_ft, br_true, br_false, fin_val, ldV_ptr, ldaV_ptr, fldV_ptr, lenV_slice, not_bool, pick_true, pick_false, b_lss, b_leq, b_gtr, b_geq, b_eql, b_neq, b_add, b_sub, lift1_some, ev_tmp, ev_const, eput_app, eput_none, List.map_cons, List.map_nil, Nat.reduceEqDiff, Nat.succ_ne_self, Nat.reduceBEq, ↓reduceIte, reduceIte, decide_true, decide_false, Bool.not_true, Bool.not_false, if_true_left, Nat.one_ne_zero, Nat.zero_ne_one, not_true_eq_false, not_false_eq_true, S_nilc, nilc_ptr, S_ext, ext0, ext1, f1_0]
  refine S_box fun HA fA nA gA => ?_
  simp only [W_skip, W_ops, W_sops, W_seq, W_block, W_exit, W_ret, W_cond, U_seq, U_seq_exit, U_seq_ret, U_blk, U_blk_ret, U_blk_exit, again_exit', again_ret', again_normal', U_ret1, S_nil, S_gd, S_ld, S_lda, S_fld, S_len, S_ix, S_call, S_callv, S_func, S_move, S_assign, S_pick, S_bin, S_not, gdo_tt, gdo_ff, gdo_tf, gdo_ft, br_true, br_false, fin_val, ldV_ptr, ldaV_ptr, fldV_ptr, lenV_slice, not_bool, pick_true, pick_false, b_lss, b_leq, b_gtr, b_geq, b_eql, b_neq, b_add, b_sub, lift1_some, ev_tmp, ev_const, eput_app, eput_none, List.map_cons, List.map_nil, Nat.reduceEqDiff, Nat.succ_ne_self, Nat.reduceBEq, ↓reduceIte, reduceIte, decide_true, decide_false, Bool.not_true, Bool.not_false, if_true_left, Nat.one_ne_zero, Nat.zero_ne_one, not_true_eq_false, not_false_eq_true, S_nilc, nilc_ptr, S_ext, ext0, ext1, f1_0, Value.cells, own_add] at gA ⊢
  simp only [W_skip, W_ops, W_sops, W_seq, W_block, W_exit, W_ret, W_cond, U_seq, U_seq_exit, U_seq_ret, U_blk, U_blk_ret, U_blk_exit, again_exit', again_ret', again_normal', U_ret1, S_nil, S_gd, S_ld, S_lda, S_fld, S_len, S_ix, S_call, S_callv, S_func, S_move, S_assign, S_pick, S_bin, S_not, gdo_tt, gdo_ff, gdo_tf, gdo_ft, br_true, br_false, fin_val, ldV_ptr, ldaV_ptr, fldV_ptr, lenV_slice, not_bool, pick_true, pick_false, b_lss, b_leq, b_gtr, b_geq, b_eql, b_neq, b_add, b_sub, lift1_some, ev_tmp, ev_const, eput_app, eput_none, List.map_cons, List.map_nil, Nat.reduceEqDiff, Nat.succ_ne_self, Nat.reduceBEq, ↓reduceIte, reduceIte, decide_true, decide_false, Bool.not_true, Bool.not_false, if_true_left, Nat.one_ne_zero, Nat.zero_ne_one, not_true_eq_false, not_false_eq_true, S_nilc, nilc_ptr, S_ext, ext0, ext1, own_cell 2 gA rfl rfl]
  refine S_alloc fun HC fC nC gC => ?_
  refine S_store (id := HA.nxt) (off := 0) (by simp only [W_skip, W_ops, W_sops, W_seq, W_block, W_exit, W_ret, W_cond, U_seq, U_seq_exit, U_seq_ret, U_blk, U_blk_ret, U_blk_exit, again_exit', again_ret', again_normal', U_ret1, S_nil, S_gd, S_ld, S_lda, S_fld, S_len, S_ix, S_call, S_callv, S_func, S_move, S_assign, S_pick, S_bin, S_not, gdo_tt, gdo_ff, gdo_tf, gdo_ft, br_true, br_false, fin_val, ldV_ptr, ldaV_ptr, fldV_ptr, lenV_slice, not_bool, pick_true, pick_false, b_lss, b_leq, b_gtr, b_geq, b_eql, b_neq, b_add, b_sub, lift1_some, ev_tmp, ev_const, eput_app, eput_none, List.map_cons, List.map_nil, Nat.reduceEqDiff, Nat.succ_ne_self, Nat.reduceBEq, ↓reduceIte, reduceIte, decide_true, decide_false, Bool.not_true, Bool.not_false, if_true_left, Nat.one_ne_zero, Nat.zero_ne_one, not_true_eq_false, not_false_eq_true, S_nilc, nilc_ptr, S_ext, ext0, ext1]) (by simp only [W_skip, W_ops, W_sops, W_seq, W_block, W_exit, W_ret, W_cond, U_seq, U_seq_exit, U_seq_ret, U_blk, U_blk_ret, U_blk_exit, again_exit', again_ret', again_normal', U_ret1, S_nil, S_gd, S_ld, S_lda, S_fld, S_len, S_ix, S_call, S_callv, S_func, S_move, S_assign, S_pick, S_bin, S_not, gdo_tt, gdo_ff, gdo_tf, gdo_ft, br_true, br_false, fin_val, ldV_ptr, ldaV_ptr, fldV_ptr, lenV_slice, not_bool, pick_true, pick_false, b_lss, b_leq, b_gtr, b_geq, b_eql, b_neq, b_add, b_sub, lift1_some, ev_tmp, ev_const, eput_app, eput_none, List.map_cons, List.map_nil, Nat.reduceEqDiff, Nat.succ_ne_self, Nat.reduceBEq, ↓reduceIte, reduceIte, decide_true, decide_false, Bool.not_true, Bool.not_false, if_true_left, Nat.one_ne_zero, Nat.zero_ne_one, not_true_eq_false, not_false_eq_true, S_nilc, nilc_ptr, S_ext, ext0, ext1]; rfl) (by omega) gC (by simp) (by simp) (by simp only [W_skip, W_ops, W_sops, W_seq, W_block, W_exit, W_ret, W_cond, U_seq, U_seq_exit, U_seq_ret, U_blk, U_blk_ret, U_blk_exit, again_exit', again_ret', again_normal', U_ret1, S_nil, S_gd, S_ld, S_lda, S_fld, S_len, S_ix, S_call, S_callv, S_func, S_move, S_assign, S_pick, S_bin, S_not, gdo_tt, gdo_ff, gdo_tf, gdo_ft, br_true, br_false, fin_val, ldV_ptr, ldaV_ptr, fldV_ptr, lenV_slice, not_bool, pick_true, pick_false, b_lss, b_leq, b_gtr, b_geq, b_eql, b_neq, b_add, b_sub, lift1_some, ev_tmp, ev_const, eput_app, eput_none, List.map_cons, List.map_nil, Nat.reduceEqDiff, Nat.succ_ne_self, Nat.reduceBEq, ↓reduceIte, reduceIte, decide_true, decide_false, Bool.not_true, Bool.not_false, if_true_left, Nat.one_ne_zero, Nat.zero_ne_one, not_true_eq_false, not_false_eq_true, S_nilc, nilc_ptr, S_ext, ext0, ext1]; simp [Value.cells, Value.oneCell']) fun HB nB oB gB => ?_
  simp only [W_skip, W_ops, W_sops, W_seq, W_block, W_exit, W_ret, W_cond, U_seq, U_seq_exit, U_seq_ret, U_blk, U_blk_ret, U_blk_exit, again_exit', again_ret', again_normal', U_ret1, S_nil, S_gd, S_ld, S_lda, S_fld, S_len, S_ix, S_call, S_callv, S_func, S_move, S_assign, S_pick, S_bin, S_not, gdo_tt, gdo_ff, gdo_tf, gdo_ft, br_true, br_false, fin_val, ldV_ptr, ldaV_ptr, fldV_ptr, lenV_slice, not_bool, pick_true, pick_false, b_lss, b_leq, b_gtr, b_geq, b_eql, b_neq, b_add, b_sub, lift1_some, ev_tmp, ev_const, eput_app, eput_none, List.map_cons, List.map_nil, Nat.reduceEqDiff, Nat.succ_ne_self, Nat.reduceBEq, ↓reduceIte, reduceIte, decide_true, decide_false, Bool.not_true, Bool.not_false, if_true_left, Nat.one_ne_zero, Nat.zero_ne_one, not_true_eq_false, not_false_eq_true, S_nilc, nilc_ptr, S_ext, ext0, ext1, Value.cells, putL] at gB ⊢
  have fB : Fr H HB := (fA.trans fC).upd fA.nxt nB oB
  have gAB : HB.get H.nxt = _ := (oB H.nxt (by omega)).trans ((fC.old _ (by omega)).trans gA)
  have hxA : H.nxt < HB.nxt := by omega
  have hxC : HA.nxt < HB.nxt := by omega
  have gA1 : ∀ H1, Fr HB H1 → H1.get H.nxt = some (.cells [.slice pr a.ranks.length cr, .int .i64 a.start, .slice pm a.moves.length cm] 29 true false) := fun H1 f1 => (f1.old _ hxA).trans gAB
  have gC1 : ∀ H1, Fr HB H1 → H1.get HA.nxt = some (.cells [.int .i64 a.moves.length] 3 true false) := fun H1 f1 => (f1.old _ hxC).trans gB
  have q0 : ∀ H1, Fr HB H1 → H1.cell ⟨H.nxt, 0, none⟩ = _ := fun H1 f1 => own_cell 0 (gA1 H1 f1) rfl rfl
  have q1 : ∀ H1, Fr HB H1 → H1.cell ⟨H.nxt, 1, none⟩ = _ := fun H1 f1 => own_cell 1 (gA1 H1 f1) rfl rfl
  have q2 : ∀ H1, Fr HB H1 → H1.cell ⟨H.nxt, 2, none⟩ = _ := fun H1 f1 => own_cell 2 (gA1 H1 f1) rfl rfl
  have q3 : ∀ H1, Fr HB H1 → H1.cell ⟨HA.nxt, 0, none⟩ = _ := fun H1 f1 => own_cell 0 (gC1 H1 f1) rfl rfl
  simp only [W_skip, W_ops, W_sops, W_seq, W_block, W_exit, W_ret, W_cond, U_seq, U_seq_exit, U_seq_ret, U_blk, U_blk_ret, U_blk_exit, again_exit', again_ret', again_normal', U_ret1, S_nil, S_gd, S_ld, S_lda, S_fld, S_len, S_ix, S_call, S_callv, S_func, S_move, S_assign, S_pick, S_bin, S_not, gdo_tt, gdo_ff, gdo_tf, gdo_ft, br_true, br_false, fin_val, ldV_ptr, ldaV_ptr, fldV_ptr, lenV_slice, not_bool, pick_true, pick_false, b_lss, b_leq, b_gtr, b_geq, b_eql, b_neq, b_add, b_sub, lift1_some, ev_tmp, ev_const, eput_app, eput_none, List.map_cons, List.map_nil, Nat.reduceEqDiff, Nat.succ_ne_self, Nat.reduceBEq, ↓reduceIte, reduceIte, decide_true, decide_false, Bool.not_true, Bool.not_false, if_true_left, Nat.one_ne_zero, Nat.zero_ne_one, not_true_eq_false, not_false_eq_true, S_nilc, nilc_ptr, S_ext, ext0, ext1, q0 HB (Fr.refl _), own_add]
  refine call_then (ranks132 (hr0.mono (fB.sub hwf))) ?_
  rintro _ H2 ⟨rfl, f2⟩ wf2
  have fr2 := fB.trans f2
  rw [cont_app]
  cases hk : ranksOK a.ranks with
  | false =>
    simp only [W_skip, W_ops, W_sops, W_seq, W_block, W_exit, W_ret, W_cond, U_seq, U_seq_exit, U_seq_ret, U_blk, U_blk_ret, U_blk_exit, again_exit', again_ret', again_normal', U_ret1, S_nil, S_gd, S_ld, S_lda, S_fld, S_len, S_ix, S_call, S_callv, S_func, S_move, S_assign, S_pick, S_bin, S_not, gdo_tt, gdo_ff, gdo_tf, gdo_ft, br_true, br_false, fin_val, ldV_ptr, ldaV_ptr, fldV_ptr, lenV_slice, not_bool, pick_true, pick_false, b_lss, b_leq, b_gtr, b_geq, b_eql, b_neq, b_add, b_sub, lift1_some, ev_tmp, ev_const, eput_app, eput_none, List.map_cons, List.map_nil, Nat.reduceEqDiff, Nat.succ_ne_self, Nat.reduceBEq, ↓reduceIte, reduceIte, decide_true, decide_false, Bool.not_true, Bool.not_false, if_true_left, Nat.one_ne_zero, Nat.zero_ne_one, not_true_eq_false, not_false_eq_true, S_nilc, nilc_ptr, S_ext, ext0, ext1]
    exact ⟨err75_bad fun h => (by rw [(ok_iff.1 h).1] at hk; cases hk), fr2⟩
  | true =>
    simp only [W_skip, W_ops, W_sops, W_seq, W_block, W_exit, W_ret, W_cond, U_seq, U_seq_exit, U_seq_ret, U_blk, U_blk_ret, U_blk_exit, again_exit', again_ret', again_normal', U_ret1, S_nil, S_gd, S_ld, S_lda, S_fld, S_len, S_ix, S_call, S_callv, S_func, S_move, S_assign, S_pick, S_bin, S_not, gdo_tt, gdo_ff, gdo_tf, gdo_ft, br_true, br_false, fin_val, ldV_ptr, ldaV_ptr, fldV_ptr, lenV_slice, not_bool, pick_true, pick_false, b_lss, b_leq, b_gtr, b_geq, b_eql, b_neq, b_add, b_sub, lift1_some, ev_tmp, ev_const, eput_app, eput_none, List.map_cons, List.map_nil, Nat.reduceEqDiff, Nat.succ_ne_self, Nat.reduceBEq, ↓reduceIte, reduceIte, decide_true, decide_false, Bool.not_true, Bool.not_false, if_true_left, Nat.one_ne_zero, Nat.zero_ne_one, not_true_eq_false, not_false_eq_true, S_nilc, nilc_ptr, S_ext, ext0, ext1, q3 H2 f2]
    refine gdo_of ?_ ?_ <;> intro hA
    · simp only [W_skip, W_ops, W_sops, W_seq, W_block, W_exit, W_ret, W_cond, U_seq, U_seq_exit, U_seq_ret, U_blk, U_blk_ret, U_blk_exit, again_exit', again_ret', again_normal', U_ret1, S_nil, S_gd, S_ld, S_lda, S_fld, S_len, S_ix, S_call, S_callv, S_func, S_move, S_assign, S_pick, S_bin, S_not, gdo_tt, gdo_ff, gdo_tf, gdo_ft, br_true, br_false, fin_val, ldV_ptr, ldaV_ptr, fldV_ptr, lenV_slice, not_bool, pick_true, pick_false, b_lss, b_leq, b_gtr, b_geq, b_eql, b_neq, b_add, b_sub, lift1_some, ev_tmp, ev_const, eput_app, eput_none, List.map_cons, List.map_nil, Nat.reduceEqDiff, Nat.succ_ne_self, Nat.reduceBEq, ↓reduceIte, reduceIte, decide_true, decide_false, Bool.not_true, Bool.not_false, if_true_left, Nat.one_ne_zero, Nat.zero_ne_one, not_true_eq_false, not_false_eq_true, S_nilc, nilc_ptr, S_ext, ext0, ext1, hA]
      exact ⟨err75_bad fun h => (by have := (ok_iff.1 h).2.1; simp at hA; omega), fr2⟩
    simp only [W_skip, W_ops, W_sops, W_seq, W_block, W_exit, W_ret, W_cond, U_seq, U_seq_exit, U_seq_ret, U_blk, U_blk_ret, U_blk_exit, again_exit', again_ret', again_normal', U_ret1, S_nil, S_gd, S_ld, S_lda, S_fld, S_len, S_ix, S_call, S_callv, S_func, S_move, S_assign, S_pick, S_bin, S_not, gdo_tt, gdo_ff, gdo_tf, gdo_ft, br_true, br_false, fin_val, ldV_ptr, ldaV_ptr, fldV_ptr, lenV_slice, not_bool, pick_true, pick_false, b_lss, b_leq, b_gtr, b_geq, b_eql, b_neq, b_add, b_sub, lift1_some, ev_tmp, ev_const, eput_app, eput_none, List.map_cons, List.map_nil, Nat.reduceEqDiff, Nat.succ_ne_self, Nat.reduceBEq, ↓reduceIte, reduceIte, decide_true, decide_false, Bool.not_true, Bool.not_false, if_true_left, Nat.one_ne_zero, Nat.zero_ne_one, not_true_eq_false, not_false_eq_true, S_nilc, nilc_ptr, S_ext, ext0, ext1, hA, q3 H2 f2]
    refine gdo_of ?_ ?_ <;> intro hB
    · simp only [W_skip, W_ops, W_sops, W_seq, W_block, W_exit, W_ret, W_cond, U_seq, U_seq_exit, U_seq_ret, U_blk, U_blk_ret, U_blk_exit, again_exit', again_ret', again_normal', U_ret1, S_nil, S_gd, S_ld, S_lda, S_fld, S_len, S_ix, S_call, S_callv, S_func, S_move, S_assign, S_pick, S_bin, S_not, gdo_tt, gdo_ff, gdo_tf, gdo_ft, br_true, br_false, fin_val, ldV_ptr, ldaV_ptr, fldV_ptr, lenV_slice, not_bool, pick_true, pick_false, b_lss, b_leq, b_gtr, b_geq, b_eql, b_neq, b_add, b_sub, lift1_some, ev_tmp, ev_const, eput_app, eput_none, List.map_cons, List.map_nil, Nat.reduceEqDiff, Nat.succ_ne_self, Nat.reduceBEq, ↓reduceIte, reduceIte, decide_true, decide_false, Bool.not_true, Bool.not_false, if_true_left, Nat.one_ne_zero, Nat.zero_ne_one, not_true_eq_false, not_false_eq_true, S_nilc, nilc_ptr, S_ext, ext0, ext1, hB]
      exact ⟨err75_bad fun h => (by have := (ok_iff.1 h).2.2.1; simp at hB; omega), fr2⟩
    simp only [W_skip, W_ops, W_sops, W_seq, W_block, W_exit, W_ret, W_cond, U_seq, U_seq_exit, U_seq_ret, U_blk, U_blk_ret, U_blk_exit, again_exit', again_ret', again_normal', U_ret1, S_nil, S_gd, S_ld, S_lda, S_fld, S_len, S_ix, S_call, S_callv, S_func, S_move, S_assign, S_pick, S_bin, S_not, gdo_tt, gdo_ff, gdo_tf, gdo_ft, br_true, br_false, fin_val, ldV_ptr, ldaV_ptr, fldV_ptr, lenV_slice, not_bool, pick_true, pick_false, b_lss, b_leq, b_gtr, b_geq, b_eql, b_neq, b_add, b_sub, lift1_some, ev_tmp, ev_const, eput_app, eput_none, List.map_cons, List.map_nil, Nat.reduceEqDiff, Nat.succ_ne_self, Nat.reduceBEq, ↓reduceIte, reduceIte, decide_true, decide_false, Bool.not_true, Bool.not_false, if_true_left, Nat.one_ne_zero, Nat.zero_ne_one, not_true_eq_false, not_false_eq_true, S_nilc, nilc_ptr, S_ext, ext0, ext1, hB, q1 H2 f2, own_add]
    refine gdo_of ?_ ?_ <;> intro hC
    · simp only [W_skip, W_ops, W_sops, W_seq, W_block, W_exit, W_ret, W_cond, U_seq, U_seq_exit, U_seq_ret, U_blk, U_blk_ret, U_blk_exit, again_exit', again_ret', again_normal', U_ret1, S_nil, S_gd, S_ld, S_lda, S_fld, S_len, S_ix, S_call, S_callv, S_func, S_move, S_assign, S_pick, S_bin, S_not, gdo_tt, gdo_ff, gdo_tf, gdo_ft, br_true, br_false, fin_val, ldV_ptr, ldaV_ptr, fldV_ptr, lenV_slice, not_bool, pick_true, pick_false, b_lss, b_leq, b_gtr, b_geq, b_eql, b_neq, b_add, b_sub, lift1_some, ev_tmp, ev_const, eput_app, eput_none, List.map_cons, List.map_nil, Nat.reduceEqDiff, Nat.succ_ne_self, Nat.reduceBEq, ↓reduceIte, reduceIte, decide_true, decide_false, Bool.not_true, Bool.not_false, if_true_left, Nat.one_ne_zero, Nat.zero_ne_one, not_true_eq_false, not_false_eq_true, S_nilc, nilc_ptr, S_ext, ext0, ext1, hC]
      exact ⟨err75_bad fun h => (by have := (ok_iff.1 h).2.2.2.1; simp at hC; omega), fr2⟩
    simp only [W_skip, W_ops, W_sops, W_seq, W_block, W_exit, W_ret, W_cond, U_seq, U_seq_exit, U_seq_ret, U_blk, U_blk_ret, U_blk_exit, again_exit', again_ret', again_normal', U_ret1, S_nil, S_gd, S_ld, S_lda, S_fld, S_len, S_ix, S_call, S_callv, S_func, S_move, S_assign, S_pick, S_bin, S_not, gdo_tt, gdo_ff, gdo_tf, gdo_ft, br_true, br_false, fin_val, ldV_ptr, ldaV_ptr, fldV_ptr, lenV_slice, not_bool, pick_true, pick_false, b_lss, b_leq, b_gtr, b_geq, b_eql, b_neq, b_add, b_sub, lift1_some, ev_tmp, ev_const, eput_app, eput_none, List.map_cons, List.map_nil, Nat.reduceEqDiff, Nat.succ_ne_self, Nat.reduceBEq, ↓reduceIte, reduceIte, decide_true, decide_false, Bool.not_true, Bool.not_false, if_true_left, Nat.one_ne_zero, Nat.zero_ne_one, not_true_eq_false, not_false_eq_true, S_nilc, nilc_ptr, S_ext, ext0, ext1, hC, q1 H2 f2, q3 H2 f2, own_add]
    refine br_of ?_ ?_ <;> intro hD
    · simp only [W_skip, W_ops, W_sops, W_seq, W_block, W_exit, W_ret, W_cond, U_seq, U_seq_exit, U_seq_ret, U_blk, U_blk_ret, U_blk_exit, again_exit', again_ret', again_normal', U_ret1, S_nil, S_gd, S_ld, S_lda, S_fld, S_len, S_ix, S_call, S_callv, S_func, S_move, S_assign, S_pick, S_bin, S_not, gdo_tt, gdo_ff, gdo_tf, gdo_ft, br_true, br_false, fin_val, ldV_ptr, ldaV_ptr, fldV_ptr, lenV_slice, not_bool, pick_true, pick_false, b_lss, b_leq, b_gtr, b_geq, b_eql, b_neq, b_add, b_sub, lift1_some, ev_tmp, ev_const, eput_app, eput_none, List.map_cons, List.map_nil, Nat.reduceEqDiff, Nat.succ_ne_self, Nat.reduceBEq, ↓reduceIte, reduceIte, decide_true, decide_false, Bool.not_true, Bool.not_false, if_true_left, Nat.one_ne_zero, Nat.zero_ne_one, not_true_eq_false, not_false_eq_true, S_nilc, nilc_ptr, S_ext, ext0, ext1]
      exact ⟨err75_bad fun h => (by have := (ok_iff.1 h).2.2.2.2.1; simp at hD; omega), fr2⟩
    simp only [W_skip, W_ops, W_sops, W_seq, W_block, W_exit, W_ret, W_cond, U_seq, U_seq_exit, U_seq_ret, U_blk, U_blk_ret, U_blk_exit, again_exit', again_ret', again_normal', U_ret1, S_nil, S_gd, S_ld, S_lda, S_fld, S_len, S_ix, S_call, S_callv, S_func, S_move, S_assign, S_pick, S_bin, S_not, gdo_tt, gdo_ff, gdo_tf, gdo_ft, br_true, br_false, fin_val, ldV_ptr, ldaV_ptr, fldV_ptr, lenV_slice, not_bool, pick_true, pick_false, b_lss, b_leq, b_gtr, b_geq, b_eql, b_neq, b_add, b_sub, lift1_some, ev_tmp, ev_const, eput_app, eput_none, List.map_cons, List.map_nil, Nat.reduceEqDiff, Nat.succ_ne_self, Nat.reduceBEq, ↓reduceIte, reduceIte, decide_true, decide_false, Bool.not_true, Bool.not_false, if_true_left, Nat.one_ne_zero, Nat.zero_ne_one, not_true_eq_false, not_false_eq_true, S_nilc, nilc_ptr, S_ext, ext0, ext1, hD, q2 H2 f2, own_add]
    simp at hA hB hC hD
    refine W_loop (fun k g H1 => ∃ j, k = a.moves.length - j ∧ j ≤ a.moves.length ∧ g 1 = .pointer (some ⟨H.nxt, 0, none⟩) ∧ g 3 = .pointer (some ⟨HA.nxt, 0, none⟩) ∧ g 38 = .slice pm a.moves.length cm ∧ g 39 = .int .i64 a.moves.length ∧ g 40 = .int .i64 (j : Nat) ∧ Fr HB H1 ∧
      ∀ (q : Nat) (row : List (List (List Nd))), q < j → a.moves[q]? = some row → RowP a.moves.length a.ranks row) ?_ a.moves.length ⟨0, ?_⟩
    · rintro k g H1 ⟨j, rfl, hj, h1, h3, h38, h39, h40, fr, ok⟩
      have frH := fB.trans fr
      have kn1 := kn.fr frH
      simp only [W_skip, W_ops, W_sops, W_seq, W_block, W_exit, W_ret, W_cond, U_seq, U_seq_exit, U_seq_ret, U_blk, U_blk_ret, U_blk_exit, again_exit', again_ret', again_normal', U_ret1, S_nil, S_gd, S_ld, S_lda, S_fld, S_len, S_ix, S_call, S_callv, S_func, S_move, S_assign, S_pick, S_bin, S_not, gdo_tt, gdo_ff, gdo_tf, gdo_ft, br_true, br_false, fin_val, ldV_ptr, ldaV_ptr, fldV_ptr, lenV_slice, not_bool, pick_true, pick_false, b_lss, b_leq, b_gtr, b_geq, b_eql, b_neq, b_add, b_sub, lift1_some, ev_tmp, ev_const, eput_app, eput_none, List.map_cons, List.map_nil, Nat.reduceEqDiff, Nat.succ_ne_self, Nat.reduceBEq, ↓reduceIte, reduceIte, decide_true, decide_false, Bool.not_true, Bool.not_false, if_true_left, Nat.one_ne_zero, Nat.zero_ne_one, not_true_eq_false, not_false_eq_true, S_nilc, nilc_ptr, S_ext, ext0, ext1, h1, h3, h38, h39, h40]
      refine br_of ?_ ?_ <;> intro hE
      · have hj' : j < a.moves.length := by simpa using hE
        obtain ⟨b, cs, rfl, hs, u, rfl, hI⟩ := hmat j a.moves[j] (by simp [hj'])
        obtain ⟨pw, cw, rfl, hwlen, hwat⟩ := hI
        have hc := kn1.see1 hs
        simp only [W_skip, W_ops, W_sops, W_seq, W_block, W_exit, W_ret, W_cond, U_seq, U_seq_exit, U_seq_ret, U_blk, U_blk_ret, U_blk_exit, again_exit', again_ret', again_normal', U_ret1, S_nil, S_gd, S_ld, S_lda, S_fld, S_len, S_ix, S_call, S_callv, S_func, S_move, S_assign, S_pick, S_bin, S_not, gdo_tt, gdo_ff, gdo_tf, gdo_ft, br_true, br_false, fin_val, ldV_ptr, ldaV_ptr, fldV_ptr, lenV_slice, not_bool, pick_true, pick_false, b_lss, b_leq, b_gtr, b_geq, b_eql, b_neq, b_add, b_sub, lift1_some, ev_tmp, ev_const, eput_app, eput_none, List.map_cons, List.map_nil, Nat.reduceEqDiff, Nat.succ_ne_self, Nat.reduceBEq, ↓reduceIte, reduceIte, decide_true, decide_false, Bool.not_true, Bool.not_false, if_true_left, Nat.one_ne_zero, Nat.zero_ne_one, not_true_eq_false, not_false_eq_true, S_nilc, nilc_ptr, S_ext, ext0, ext1, h1, h3, h38, h39, h40, ixV_at hj', hc, q0 H1 fr, own_add]
        refine br_of ?_ ?_ <;> intro hF
        · simp only [W_skip, W_ops, W_sops, W_seq, W_block, W_exit, W_ret, W_cond, U_seq, U_seq_exit, U_seq_ret, U_blk, U_blk_ret, U_blk_exit, again_exit', again_ret', again_normal', U_ret1, S_nil, S_gd, S_ld, S_lda, S_fld, S_len, S_ix, S_call, S_callv, S_func, S_move, S_assign, S_pick, S_bin, S_not, gdo_tt, gdo_ff, gdo_tf, gdo_ft, br_true, br_false, fin_val, ldV_ptr, ldaV_ptr, fldV_ptr, lenV_slice, not_bool, pick_true, pick_false, b_lss, b_leq, b_gtr, b_geq, b_eql, b_neq, b_add, b_sub, lift1_some, ev_tmp, ev_const, eput_app, eput_none, List.map_cons, List.map_nil, Nat.reduceEqDiff, Nat.succ_ne_self, Nat.reduceBEq, ↓reduceIte, reduceIte, decide_true, decide_false, Bool.not_true, Bool.not_false, if_true_left, Nat.one_ne_zero, Nat.zero_ne_one, not_true_eq_false, not_false_eq_true, S_nilc, nilc_ptr, S_ext, ext0, ext1]
          exact ⟨err75_bad fun h => (by have := ((ok_iff.1 h).2.2.2.2.2 j a.moves[j] (by simp [hj'])).1; simp at hF; omega), frH⟩
        have hrow : a.moves[j].length = a.ranks.length := by simp at hF; omega
        simp only [W_skip, W_ops, W_sops, W_seq, W_block, W_exit, W_ret, W_cond, U_seq, U_seq_exit, U_seq_ret, U_blk, U_blk_ret, U_blk_exit, again_exit', again_ret', again_normal', U_ret1, S_nil, S_gd, S_ld, S_lda, S_fld, S_len, S_ix, S_call, S_callv, S_func, S_move, S_assign, S_pick, S_bin, S_not, gdo_tt, gdo_ff, gdo_tf, gdo_ft, br_true, br_false, fin_val, ldV_ptr, ldaV_ptr, fldV_ptr, lenV_slice, not_bool, pick_true, pick_false, b_lss, b_leq, b_gtr, b_geq, b_eql, b_neq, b_add, b_sub, lift1_some, ev_tmp, ev_const, eput_app, eput_none, List.map_cons, List.map_nil, Nat.reduceEqDiff, Nat.succ_ne_self, Nat.reduceBEq, ↓reduceIte, reduceIte, decide_true, decide_false, Bool.not_true, Bool.not_false, if_true_left, Nat.one_ne_zero, Nat.zero_ne_one, not_true_eq_false, not_false_eq_true, S_nilc, nilc_ptr, S_ext, ext0, ext1, h1, h3, h38, h39, h40]
        refine W_loop (fun k' g H1 => ∃ i, k' = a.ranks.length - i ∧ i ≤ a.ranks.length ∧ g 1 = .pointer (some ⟨H.nxt, 0, none⟩) ∧ g 3 = .pointer (some ⟨HA.nxt, 0, none⟩) ∧ g 38 = .slice (some b) a.moves.length cm ∧ g 39 = .int .i64 a.moves.length ∧ g 40 = .int .i64 (j : Nat) ∧ g 50 = .slice pw a.moves[j].length cw ∧ g 51 = .int .i64 a.ranks.length ∧ g 52 = .int .i64 (i : Nat) ∧ Fr HB H1 ∧
          ∀ (f : Nat) (r : Int) (x : List (List Nd)), f < i → a.ranks[f]? = some r → a.moves[j][f]? = some x → altsOK r a.moves.length x = true) ?_ a.ranks.length ⟨0, ?_⟩
        · rintro k' g H1 ⟨i, rfl, hi, h1, h3, h38, h39, h40, h50, h51, h52, fr, ok2⟩
          have frH := fB.trans fr
          have kn1 := kn.fr frH
          simp only [W_skip, W_ops, W_sops, W_seq, W_block, W_exit, W_ret, W_cond, U_seq, U_seq_exit, U_seq_ret, U_blk, U_blk_ret, U_blk_exit, again_exit', again_ret', again_normal', U_ret1, S_nil, S_gd, S_ld, S_lda, S_fld, S_len, S_ix, S_call, S_callv, S_func, S_move, S_assign, S_pick, S_bin, S_not, gdo_tt, gdo_ff, gdo_tf, gdo_ft, br_true, br_false, fin_val, ldV_ptr, ldaV_ptr, fldV_ptr, lenV_slice, not_bool, pick_true, pick_false, b_lss, b_leq, b_gtr, b_geq, b_eql, b_neq, b_add, b_sub, lift1_some, ev_tmp, ev_const, eput_app, eput_none, List.map_cons, List.map_nil, Nat.reduceEqDiff, Nat.succ_ne_self, Nat.reduceBEq, ↓reduceIte, reduceIte, decide_true, decide_false, Bool.not_true, Bool.not_false, if_true_left, Nat.one_ne_zero, Nat.zero_ne_one, not_true_eq_false, not_false_eq_true, S_nilc, nilc_ptr, S_ext, ext0, ext1, h1, h3, h38, h39, h40, h50, h51, h52]
          refine br_of ?_ ?_ <;> intro hG
          · have hi' : i < a.ranks.length := by simpa using hG
            have hi2 : i < a.moves[j].length := by omega
            obtain ⟨b2, cs2, rfl, hs2, u2, rfl, hI2⟩ := hwat i a.moves[j][i] (by simp [hi2])
            have hIs := hI2
            obtain ⟨pa, ca, rfl, halen, haat⟩ := hI2
            have hc2 := kn1.see1 hs2
            have hr4 : a.ranks[i] ≤ 4 := by
              have := hk
              simp only [ranksOK, Bool.and_eq_true, List.all_eq_true, decide_eq_true_eq] at this
              exact (this.1 _ (List.getElem_mem hi')).2
            simp only [W_skip, W_ops, W_sops, W_seq, W_block, W_exit, W_ret, W_cond, U_seq, U_seq_exit, U_seq_ret, U_blk, U_blk_ret, U_blk_exit, again_exit', again_ret', again_normal', U_ret1, S_nil, S_gd, S_ld, S_lda, S_fld, S_len, S_ix, S_call, S_callv, S_func, S_move, S_assign, S_pick, S_bin, S_not, gdo_tt, gdo_ff, gdo_tf, gdo_ft, br_true, br_false, fin_val, ldV_ptr, ldaV_ptr, fldV_ptr, lenV_slice, not_bool, pick_true, pick_false, b_lss, b_leq, b_gtr, b_geq, b_eql, b_neq, b_add, b_sub, lift1_some, ev_tmp, ev_const, eput_app, eput_none, List.map_cons, List.map_nil, Nat.reduceEqDiff, Nat.succ_ne_self, Nat.reduceBEq, ↓reduceIte, reduceIte, decide_true, decide_false, Bool.not_true, Bool.not_false, if_true_left, Nat.one_ne_zero, Nat.zero_ne_one, not_true_eq_false, not_false_eq_true, S_nilc, nilc_ptr, S_ext, ext0, ext1, h1, h3, h38, h39, h40, h50, h51, h52, ixV_at hi2, hc2]
            refine S_alloc fun H3 f3 n3 g3 => ?_
            refine S_store (id := H1.nxt) (off := 0) (by simp only [W_skip, W_ops, W_sops, W_seq, W_block, W_exit, W_ret, W_cond, U_seq, U_seq_exit, U_seq_ret, U_blk, U_blk_ret, U_blk_exit, again_exit', again_ret', again_normal', U_ret1, S_nil, S_gd, S_ld, S_lda, S_fld, S_len, S_ix, S_call, S_callv, S_func, S_move, S_assign, S_pick, S_bin, S_not, gdo_tt, gdo_ff, gdo_tf, gdo_ft, br_true, br_false, fin_val, ldV_ptr, ldaV_ptr, fldV_ptr, lenV_slice, not_bool, pick_true, pick_false, b_lss, b_leq, b_gtr, b_geq, b_eql, b_neq, b_add, b_sub, lift1_some, ev_tmp, ev_const, eput_app, eput_none, List.map_cons, List.map_nil, Nat.reduceEqDiff, Nat.succ_ne_self, Nat.reduceBEq, ↓reduceIte, reduceIte, decide_true, decide_false, Bool.not_true, Bool.not_false, if_true_left, Nat.one_ne_zero, Nat.zero_ne_one, not_true_eq_false, not_false_eq_true, S_nilc, nilc_ptr, S_ext, ext0, ext1]) (by simp only [W_skip, W_ops, W_sops, W_seq, W_block, W_exit, W_ret, W_cond, U_seq, U_seq_exit, U_seq_ret, U_blk, U_blk_ret, U_blk_exit, again_exit', again_ret', again_normal', U_ret1, S_nil, S_gd, S_ld, S_lda, S_fld, S_len, S_ix, S_call, S_callv, S_func, S_move, S_assign, S_pick, S_bin, S_not, gdo_tt, gdo_ff, gdo_tf, gdo_ft, br_true, br_false, fin_val, ldV_ptr, ldaV_ptr, fldV_ptr, lenV_slice, not_bool, pick_true, pick_false, b_lss, b_leq, b_gtr, b_geq, b_eql, b_neq, b_add, b_sub, lift1_some, ev_tmp, ev_const, eput_app, eput_none, List.map_cons, List.map_nil, Nat.reduceEqDiff, Nat.succ_ne_self, Nat.reduceBEq, ↓reduceIte, reduceIte, decide_true, decide_false, Bool.not_true, Bool.not_false, if_true_left, Nat.one_ne_zero, Nat.zero_ne_one, not_true_eq_false, not_false_eq_true, S_nilc, nilc_ptr, S_ext, ext0, ext1]; rfl) (by omega) g3 (by simp) (by simp) (by simp only [W_skip, W_ops, W_sops, W_seq, W_block, W_exit, W_ret, W_cond, U_seq, U_seq_exit, U_seq_ret, U_blk, U_blk_ret, U_blk_exit, again_exit', again_ret', again_normal', U_ret1, S_nil, S_gd, S_ld, S_lda, S_fld, S_len, S_ix, S_call, S_callv, S_func, S_move, S_assign, S_pick, S_bin, S_not, gdo_tt, gdo_ff, gdo_tf, gdo_ft, br_true, br_false, fin_val, ldV_ptr, ldaV_ptr, fldV_ptr, lenV_slice, not_bool, pick_true, pick_false, b_lss, b_leq, b_gtr, b_geq, b_eql, b_neq, b_add, b_sub, lift1_some, ev_tmp, ev_const, eput_app, eput_none, List.map_cons, List.map_nil, Nat.reduceEqDiff, Nat.succ_ne_self, Nat.reduceBEq, ↓reduceIte, reduceIte, decide_true, decide_false, Bool.not_true, Bool.not_false, if_true_left, Nat.one_ne_zero, Nat.zero_ne_one, not_true_eq_false, not_false_eq_true, S_nilc, nilc_ptr, S_ext, ext0, ext1]; simp [Value.cells, Value.oneCell']) fun H4 n4 o4 g4 => ?_
            simp only [W_skip, W_ops, W_sops, W_seq, W_block, W_exit, W_ret, W_cond, U_seq, U_seq_exit, U_seq_ret, U_blk, U_blk_ret, U_blk_exit, again_exit', again_ret', again_normal', U_ret1, S_nil, S_gd, S_ld, S_lda, S_fld, S_len, S_ix, S_call, S_callv, S_func, S_move, S_assign, S_pick, S_bin, S_not, gdo_tt, gdo_ff, gdo_tf, gdo_ft, br_true, br_false, fin_val, ldV_ptr, ldaV_ptr, fldV_ptr, lenV_slice, not_bool, pick_true, pick_false, b_lss, b_leq, b_gtr, b_geq, b_eql, b_neq, b_add, b_sub, lift1_some, ev_tmp, ev_const, eput_app, eput_none, List.map_cons, List.map_nil, Nat.reduceEqDiff, Nat.succ_ne_self, Nat.reduceBEq, ↓reduceIte, reduceIte, decide_true, decide_false, Bool.not_true, Bool.not_false, if_true_left, Nat.one_ne_zero, Nat.zero_ne_one, not_true_eq_false, not_false_eq_true, S_nilc, nilc_ptr, S_ext, ext0, ext1, Value.cells, putL] at g4 ⊢
            have fr4 : Fr HB H4 := (fr.trans f3).upd fr.nxt n4 o4
            have fr4H := fB.trans fr4
            have bad : (altsOK a.ranks[i] a.moves.length a.moves[j][i] = true → False) → Value.int .i64 10 = .int .i64 (err75 a) := fun hno =>
              err75_bad fun h => hno (((ok_iff.1 h).2.2.2.2.2 j a.moves[j] (by simp [hj'])).2 i a.ranks[i] a.moves[j][i] (by simp [hi']) (by simp [hi2]))
            refine br_of ?_ ?_ <;> intro hH
            · simp only [W_skip, W_ops, W_sops, W_seq, W_block, W_exit, W_ret, W_cond, U_seq, U_seq_exit, U_seq_ret, U_blk, U_blk_ret, U_blk_exit, again_exit', again_ret', again_normal', U_ret1, S_nil, S_gd, S_ld, S_lda, S_fld, S_len, S_ix, S_call, S_callv, S_func, S_move, S_assign, S_pick, S_bin, S_not, gdo_tt, gdo_ff, gdo_tf, gdo_ft, br_true, br_false, fin_val, ldV_ptr, ldaV_ptr, fldV_ptr, lenV_slice, not_bool, pick_true, pick_false, b_lss, b_leq, b_gtr, b_geq, b_eql, b_neq, b_add, b_sub, lift1_some, ev_tmp, ev_const, eput_app, eput_none, List.map_cons, List.map_nil, Nat.reduceEqDiff, Nat.succ_ne_self, Nat.reduceBEq, ↓reduceIte, reduceIte, decide_true, decide_false, Bool.not_true, Bool.not_false, if_true_left, Nat.one_ne_zero, Nat.zero_ne_one, not_true_eq_false, not_false_eq_true, S_nilc, nilc_ptr, S_ext, ext0, ext1]
              refine ⟨bad fun h => ?_, fr4H⟩
              rw [altsOK_eq] at h
              simp at h hH
              omega
            have h12 : a.moves[j][i].length ≤ 12 := by simp at hH; omega
            simp only [W_skip, W_ops, W_sops, W_seq, W_block, W_exit, W_ret, W_cond, U_seq, U_seq_exit, U_seq_ret, U_blk, U_blk_ret, U_blk_exit, again_exit', again_ret', again_normal', U_ret1, S_nil, S_gd, S_ld, S_lda, S_fld, S_len, S_ix, S_call, S_callv, S_func, S_move, S_assign, S_pick, S_bin, S_not, gdo_tt, gdo_ff, gdo_tf, gdo_ft, br_true, br_false, fin_val, ldV_ptr, ldaV_ptr, fldV_ptr, lenV_slice, not_bool, pick_true, pick_false, b_lss, b_leq, b_gtr, b_geq, b_eql, b_neq, b_add, b_sub, lift1_some, ev_tmp, ev_const, eput_app, eput_none, List.map_cons, List.map_nil, Nat.reduceEqDiff, Nat.succ_ne_self, Nat.reduceBEq, ↓reduceIte, reduceIte, decide_true, decide_false, Bool.not_true, Bool.not_false, if_true_left, Nat.one_ne_zero, Nat.zero_ne_one, not_true_eq_false, not_false_eq_true, S_nilc, nilc_ptr, S_ext, ext0, ext1]
            have hx4 : H1.nxt < H4.nxt := by omega
            refine W_loop (fun k' g H5 => ∃ x, k' = a.moves[j][i].length - x ∧ x ≤ a.moves[j][i].length ∧ g 1 = .pointer (some ⟨H.nxt, 0, none⟩) ∧ g 3 = .pointer (some ⟨HA.nxt, 0, none⟩) ∧ g 38 = .slice (some b) a.moves.length cm ∧ g 39 = .int .i64 a.moves.length ∧ g 40 = .int .i64 (j : Nat) ∧ g 50 = .slice (some b2) a.moves[j].length cw ∧ g 51 = .int .i64 a.ranks.length ∧ g 52 = .int .i64 (i : Nat) ∧
              g 6 = .pointer (some ⟨H1.nxt, 0, none⟩) ∧ g 7 = .slice pa a.moves[j][i].length ca ∧ g 60 = .slice pa a.moves[j][i].length ca ∧ g 61 = .int .i64 a.moves[j][i].length ∧ g 62 = .int .i64 (x : Nat) ∧ Fr H4 H5 ∧ (a.moves[j][i].take x).all (altOK a.ranks[i] a.moves.length) = true) ?_ a.moves[j][i].length ⟨0, ?_⟩
            · rintro k' g H5 ⟨x, rfl, hx, h1, h3, h38, h39, h40, h50, h51, h52, h6, h7, h60, h61, h62, fr5, ok3⟩
              have fr5B := fr4.trans fr5
              have fr5H := fB.trans fr5B
              have kn5 := kn.fr fr5H
              have g45 : H5.get H1.nxt = _ := (fr5.old _ hx4).trans g4
              simp only [W_skip, W_ops, W_sops, W_seq, W_block, W_exit, W_ret, W_cond, U_seq, U_seq_exit, U_seq_ret, U_blk, U_blk_ret, U_blk_exit, again_exit', again_ret', again_normal', U_ret1, S_nil, S_gd, S_ld, S_lda, S_fld, S_len, S_ix, S_call, S_callv, S_func, S_move, S_assign, S_pick, S_bin, S_not, gdo_tt, gdo_ff, gdo_tf, gdo_ft, br_true, br_false, fin_val, ldV_ptr, ldaV_ptr, fldV_ptr, lenV_slice, not_bool, pick_true, pick_false, b_lss, b_leq, b_gtr, b_geq, b_eql, b_neq, b_add, b_sub, lift1_some, ev_tmp, ev_const, eput_app, eput_none, List.map_cons, List.map_nil, Nat.reduceEqDiff, Nat.succ_ne_self, Nat.reduceBEq, ↓reduceIte, reduceIte, decide_true, decide_false, Bool.not_true, Bool.not_false, if_true_left, Nat.one_ne_zero, Nat.zero_ne_one, not_true_eq_false, not_false_eq_true, S_nilc, nilc_ptr, S_ext, ext0, ext1, h1, h3, h38, h39, h40, h50, h51, h52, h6, h7, h60, h61, h62]
              refine br_of ?_ ?_ <;> intro hJ
              · have hx' : x < a.moves[j][i].length := by simpa using hJ
                obtain ⟨b3, cs3, rfl, hs3, u3, rfl, hI3⟩ := haat x a.moves[j][i][x] (by simp [hx'])
                have hI30 := hI3
                obtain ⟨pl, cl, rfl, hllen, hlat⟩ := hI3
                have hc3 := kn5.see1 hs3
                have bad2 : (altOK a.ranks[i] a.moves.length a.moves[j][i][x] = true → False) → Value.int .i64 10 = .int .i64 (err75 a) := fun hno => bad fun h => by
                  simp only [altsOK, Bool.and_eq_true, List.all_eq_true] at h
                  exact hno (h.1.2 _ (List.getElem_mem hx'))
                simp only [W_skip, W_ops, W_sops, W_seq, W_block, W_exit, W_ret, W_cond, U_seq, U_seq_exit, U_seq_ret, U_blk, U_blk_ret, U_blk_exit, again_exit', again_ret', again_normal', U_ret1, S_nil, S_gd, S_ld, S_lda, S_fld, S_len, S_ix, S_call, S_callv, S_func, S_move, S_assign, S_pick, S_bin, S_not, gdo_tt, gdo_ff, gdo_tf, gdo_ft, br_true, br_false, fin_val, ldV_ptr, ldaV_ptr, fldV_ptr, lenV_slice, not_bool, pick_true, pick_false, b_lss, b_leq, b_gtr, b_geq, b_eql, b_neq, b_add, b_sub, lift1_some, ev_tmp, ev_const, eput_app, eput_none, List.map_cons, List.map_nil, Nat.reduceEqDiff, Nat.succ_ne_self, Nat.reduceBEq, ↓reduceIte, reduceIte, decide_true, decide_false, Bool.not_true, Bool.not_false, if_true_left, Nat.one_ne_zero, Nat.zero_ne_one, not_true_eq_false, not_false_eq_true, S_nilc, nilc_ptr, S_ext, ext0, ext1, h1, h3, h38, h39, h40, h50, h51, h52, h6, h7, h60, h61, h62, ixV_at hx', hc3]
                refine gdo_of ?_ ?_ <;> intro hK
                · simp only [W_skip, W_ops, W_sops, W_seq, W_block, W_exit, W_ret, W_cond, U_seq, U_seq_exit, U_seq_ret, U_blk, U_blk_ret, U_blk_exit, again_exit', again_ret', again_normal', U_ret1, S_nil, S_gd, S_ld, S_lda, S_fld, S_len, S_ix, S_call, S_callv, S_func, S_move, S_assign, S_pick, S_bin, S_not, gdo_tt, gdo_ff, gdo_tf, gdo_ft, br_true, br_false, fin_val, ldV_ptr, ldaV_ptr, fldV_ptr, lenV_slice, not_bool, pick_true, pick_false, b_lss, b_leq, b_gtr, b_geq, b_eql, b_neq, b_add, b_sub, lift1_some, ev_tmp, ev_const, eput_app, eput_none, List.map_cons, List.map_nil, Nat.reduceEqDiff, Nat.succ_ne_self, Nat.reduceBEq, ↓reduceIte, reduceIte, decide_true, decide_false, Bool.not_true, Bool.not_false, if_true_left, Nat.one_ne_zero, Nat.zero_ne_one, not_true_eq_false, not_false_eq_true, S_nilc, nilc_ptr, S_ext, ext0, ext1, hK]
                  refine ⟨bad2 fun h => ?_, fr5H⟩
                  have := alt_short hr4 (by omega) h
                  simp at hK
                  omega
                simp only [W_skip, W_ops, W_sops, W_seq, W_block, W_exit, W_ret, W_cond, U_seq, U_seq_exit, U_seq_ret, U_blk, U_blk_ret, U_blk_exit, again_exit', again_ret', again_normal', U_ret1, S_nil, S_gd, S_ld, S_lda, S_fld, S_len, S_ix, S_call, S_callv, S_func, S_move, S_assign, S_pick, S_bin, S_not, gdo_tt, gdo_ff, gdo_tf, gdo_ft, br_true, br_false, fin_val, ldV_ptr, ldaV_ptr, fldV_ptr, lenV_slice, not_bool, pick_true, pick_false, b_lss, b_leq, b_gtr, b_geq, b_eql, b_neq, b_add, b_sub, lift1_some, ev_tmp, ev_const, eput_app, eput_none, List.map_cons, List.map_nil, Nat.reduceEqDiff, Nat.succ_ne_self, Nat.reduceBEq, ↓reduceIte, reduceIte, decide_true, decide_false, Bool.not_true, Bool.not_false, if_true_left, Nat.one_ne_zero, Nat.zero_ne_one, not_true_eq_false, not_false_eq_true, S_nilc, nilc_ptr, S_ext, ext0, ext1, hK, List.map_toArray, h1, h3, h6]
                refine call_then (contains134 (p := fun u => !(inR a.ranks[i] a.moves.length u)) (hI30.mono (fr5H.sub hwf)) same133 fun u _ H6 f6 => ?_) ?_
                · exact bad133 (kn5.fr f6) hr0 hi' ((f6.old _ (Nat.lt_of_lt_of_le hxA (Nat.le_trans fr5B.nxt (Nat.le_refl _)))).trans (gA1 H5 fr5B)) ((f6.old _ (Nat.lt_of_lt_of_le hx4 fr5.nxt)).trans g45) ((f6.old _ (Nat.lt_of_lt_of_le hxC fr5B.nxt)).trans (gC1 H5 fr5B))
                rintro _ H6 ⟨rfl, f6⟩ wf6
                have fr6 := fr5.trans f6
                have fr6H := fr5H.trans f6
                rw [cont_app]
                cases hany : (a.moves[j][i][x].any fun u => !(inR a.ranks[i] a.moves.length u)) with
                | true =>
                  simp only [W_skip, W_ops, W_sops, W_seq, W_block, W_exit, W_ret, W_cond, U_seq, U_seq_exit, U_seq_ret, U_blk, U_blk_ret, U_blk_exit, again_exit', again_ret', again_normal', U_ret1, S_nil, S_gd, S_ld, S_lda, S_fld, S_len, S_ix, S_call, S_callv, S_func, S_move, S_assign, S_pick, S_bin, S_not, gdo_tt, gdo_ff, gdo_tf, gdo_ft, br_true, br_false, fin_val, ldV_ptr, ldaV_ptr, fldV_ptr, lenV_slice, not_bool, pick_true, pick_false, b_lss, b_leq, b_gtr, b_geq, b_eql, b_neq, b_add, b_sub, lift1_some, ev_tmp, ev_const, eput_app, eput_none, List.map_cons, List.map_nil, Nat.reduceEqDiff, Nat.succ_ne_self, Nat.reduceBEq, ↓reduceIte, reduceIte, decide_true, decide_false, Bool.not_true, Bool.not_false, if_true_left, Nat.one_ne_zero, Nat.zero_ne_one, not_true_eq_false, not_false_eq_true, S_nilc, nilc_ptr, S_ext, ext0, ext1, hK]
                  refine ⟨bad2 fun h => ?_, fr6H⟩
                  simp only [altOK, Bool.and_eq_true, List.all_eq_true] at h
                  rw [List.any_eq_true] at hany
                  obtain ⟨u, hu, hu2⟩ := hany
                  rw [h.1 u hu] at hu2
                  cases hu2
                | false =>
                  have hall : a.moves[j][i][x].all (inR a.ranks[i] a.moves.length) = true := by
                    rw [List.all_eq_true]
                    intro u hu
                    rw [List.any_eq_false] at hany
                    simpa using hany u hu
                  simp only [W_skip, W_ops, W_sops, W_seq, W_block, W_exit, W_ret, W_cond, U_seq, U_seq_exit, U_seq_ret, U_blk, U_blk_ret, U_blk_exit, again_exit', again_ret', again_normal', U_ret1, S_nil, S_gd, S_ld, S_lda, S_fld, S_len, S_ix, S_call, S_callv, S_func, S_move, S_assign, S_pick, S_bin, S_not, gdo_tt, gdo_ff, gdo_tf, gdo_ft, br_true, br_false, fin_val, ldV_ptr, ldaV_ptr, fldV_ptr, lenV_slice, not_bool, pick_true, pick_false, b_lss, b_leq, b_gtr, b_geq, b_eql, b_neq, b_add, b_sub, lift1_some, ev_tmp, ev_const, eput_app, eput_none, List.map_cons, List.map_nil, Nat.reduceEqDiff, Nat.succ_ne_self, Nat.reduceBEq, ↓reduceIte, reduceIte, decide_true, decide_false, Bool.not_true, Bool.not_false, if_true_left, Nat.one_ne_zero, Nat.zero_ne_one, not_true_eq_false, not_false_eq_true, S_nilc, nilc_ptr, S_ext, ext0, ext1, hK, ev_func]
                  refine call_then (rising135 (hI30.mono (fr6H.sub hwf)) fun u hu => bd_of hr4 (by omega) (List.all_eq_true.1 hall u hu)) ?_
                  rintro _ H7 ⟨rfl, f7⟩ wf7
                  have fr7 := fr6.trans f7
                  rw [cont_app]
                  cases hso : sorted ltN a.moves[j][i][x] with
                  | false =>
                    simp only [W_skip, W_ops, W_sops, W_seq, W_block, W_exit, W_ret, W_cond, U_seq, U_seq_exit, U_seq_ret, U_blk, U_blk_ret, U_blk_exit, again_exit', again_ret', again_normal', U_ret1, S_nil, S_gd, S_ld, S_lda, S_fld, S_len, S_ix, S_call, S_callv, S_func, S_move, S_assign, S_pick, S_bin, S_not, gdo_tt, gdo_ff, gdo_tf, gdo_ft, br_true, br_false, fin_val, ldV_ptr, ldaV_ptr, fldV_ptr, lenV_slice, not_bool, pick_true, pick_false, b_lss, b_leq, b_gtr, b_geq, b_eql, b_neq, b_add, b_sub, lift1_some, ev_tmp, ev_const, eput_app, eput_none, List.map_cons, List.map_nil, Nat.reduceEqDiff, Nat.succ_ne_self, Nat.reduceBEq, ↓reduceIte, reduceIte, decide_true, decide_false, Bool.not_true, Bool.not_false, if_true_left, Nat.one_ne_zero, Nat.zero_ne_one, not_true_eq_false, not_false_eq_true, S_nilc, nilc_ptr, S_ext, ext0, ext1, hK]
                    refine ⟨bad2 fun h => ?_, fr6H.trans f7⟩
                    simp [altOK, hso] at h
                  | true =>
                    simp only [W_skip, W_ops, W_sops, W_seq, W_block, W_exit, W_ret, W_cond, U_seq, U_seq_exit, U_seq_ret, U_blk, U_blk_ret, U_blk_exit, again_exit', again_ret', again_normal', U_ret1, S_nil, S_gd, S_ld, S_lda, S_fld, S_len, S_ix, S_call, S_callv, S_func, S_move, S_assign, S_pick, S_bin, S_not, gdo_tt, gdo_ff, gdo_tf, gdo_ft, br_true, br_false, fin_val, ldV_ptr, ldaV_ptr, fldV_ptr, lenV_slice, not_bool, pick_true, pick_false, b_lss, b_leq, b_gtr, b_geq, b_eql, b_neq, b_add, b_sub, lift1_some, ev_tmp, ev_const, eput_app, eput_none, List.map_cons, List.map_nil, Nat.reduceEqDiff, Nat.succ_ne_self, Nat.reduceBEq, ↓reduceIte, reduceIte, decide_true, decide_false, Bool.not_true, Bool.not_false, if_true_left, Nat.one_ne_zero, Nat.zero_ne_one, not_true_eq_false, not_false_eq_true, S_nilc, nilc_ptr, S_ext, ext0, ext1, hK, h1, h3, h38, h39, h40, h50, h51, h52, h6, h7, h60, h61, h62]
                    refine ⟨a.moves[j][i].length - (x + 1), by omega, x + 1, rfl, hx', trivial, trivial, trivial, trivial, trivial, trivial, trivial, trivial, trivial, trivial, trivial, trivial, by rw [wrap_succ (by omega)], fr7, ?_⟩
                    rw [all_take hx', ok3]
                    simp [altOK, hall, hso]
              · have hx' : x = a.moves[j][i].length := by simp at hJ; omega
                subst hx'
                rw [List.take_length] at ok3
                simp only [W_skip, W_ops, W_sops, W_seq, W_block, W_exit, W_ret, W_cond, U_seq, U_seq_exit, U_seq_ret, U_blk, U_blk_ret, U_blk_exit, again_exit', again_ret', again_normal', U_ret1, S_nil, S_gd, S_ld, S_lda, S_fld, S_len, S_ix, S_call, S_callv, S_func, S_move, S_assign, S_pick, S_bin, S_not, gdo_tt, gdo_ff, gdo_tf, gdo_ft, br_true, br_false, fin_val, ldV_ptr, ldaV_ptr, fldV_ptr, lenV_slice, not_bool, pick_true, pick_false, b_lss, b_leq, b_gtr, b_geq, b_eql, b_neq, b_add, b_sub, lift1_some, ev_tmp, ev_const, eput_app, eput_none, List.map_cons, List.map_nil, Nat.reduceEqDiff, Nat.succ_ne_self, Nat.reduceBEq, ↓reduceIte, reduceIte, decide_true, decide_false, Bool.not_true, Bool.not_false, if_true_left, Nat.one_ne_zero, Nat.zero_ne_one, not_true_eq_false, not_false_eq_true, S_nilc, nilc_ptr, S_ext, ext0, ext1, h7, ev_func]
                have hbd : ∀ y ∈ a.moves[j][i], ∀ x ∈ y, Bd x := fun y hy x hx => by
                  have := List.all_eq_true.1 ok3 y hy
                  simp only [altOK, Bool.and_eq_true, List.all_eq_true] at this
                  exact bd_of hr4 (by omega) (this.1 x hx)
                refine call_then (rising137 (hIs.mono (fr5H.sub hwf)) hbd) ?_
                rintro _ H6 ⟨rfl, f6⟩ wf6
                have fr6 := fr5B.trans f6
                rw [cont_app]
                cases hso : sorted ltL a.moves[j][i] with
                | false =>
                  simp only [W_skip, W_ops, W_sops, W_seq, W_block, W_exit, W_ret, W_cond, U_seq, U_seq_exit, U_seq_ret, U_blk, U_blk_ret, U_blk_exit, again_exit', again_ret', again_normal', U_ret1, S_nil, S_gd, S_ld, S_lda, S_fld, S_len, S_ix, S_call, S_callv, S_func, S_move, S_assign, S_pick, S_bin, S_not, gdo_tt, gdo_ff, gdo_tf, gdo_ft, br_true, br_false, fin_val, ldV_ptr, ldaV_ptr, fldV_ptr, lenV_slice, not_bool, pick_true, pick_false, b_lss, b_leq, b_gtr, b_geq, b_eql, b_neq, b_add, b_sub, lift1_some, ev_tmp, ev_const, eput_app, eput_none, List.map_cons, List.map_nil, Nat.reduceEqDiff, Nat.succ_ne_self, Nat.reduceBEq, ↓reduceIte, reduceIte, decide_true, decide_false, Bool.not_true, Bool.not_false, if_true_left, Nat.one_ne_zero, Nat.zero_ne_one, not_true_eq_false, not_false_eq_true, S_nilc, nilc_ptr, S_ext, ext0, ext1]
                  refine ⟨bad fun h => ?_, fB.trans fr6⟩
                  simp [altsOK, hso] at h
                | true =>
                  simp only [W_skip, W_ops, W_sops, W_seq, W_block, W_exit, W_ret, W_cond, U_seq, U_seq_exit, U_seq_ret, U_blk, U_blk_ret, U_blk_exit, again_exit', again_ret', again_normal', U_ret1, S_nil, S_gd, S_ld, S_lda, S_fld, S_len, S_ix, S_call, S_callv, S_func, S_move, S_assign, S_pick, S_bin, S_not, gdo_tt, gdo_ff, gdo_tf, gdo_ft, br_true, br_false, fin_val, ldV_ptr, ldaV_ptr, fldV_ptr, lenV_slice, not_bool, pick_true, pick_false, b_lss, b_leq, b_gtr, b_geq, b_eql, b_neq, b_add, b_sub, lift1_some, ev_tmp, ev_const, eput_app, eput_none, List.map_cons, List.map_nil, Nat.reduceEqDiff, Nat.succ_ne_self, Nat.reduceBEq, ↓reduceIte, reduceIte, decide_true, decide_false, Bool.not_true, Bool.not_false, if_true_left, Nat.one_ne_zero, Nat.zero_ne_one, not_true_eq_false, not_false_eq_true, S_nilc, nilc_ptr, S_ext, ext0, ext1, h1, h3, h38, h39, h40, h50, h51, h52]
                  refine ⟨a.ranks.length - (i + 1), by omega, i + 1, rfl, hi', trivial, trivial, trivial, trivial, trivial, trivial, trivial, by rw [wrap_succ (by omega)], fr6, fun f r y hf hr hy => ?_⟩
                  by_cases e : f = i
                  · subst e
                    rw [List.getElem?_eq_getElem hi'] at hr
                    rw [List.getElem?_eq_getElem hi2] at hy
                    cases hr; cases hy
                    simp [altsOK, h12, ok3, hso]
                  · exact ok2 f r y (by omega) hr hy
            · simp only [W_skip, W_ops, W_sops, W_seq, W_block, W_exit, W_ret, W_cond, U_seq, U_seq_exit, U_seq_ret, U_blk, U_blk_ret, U_blk_exit, again_exit', again_ret', again_normal', U_ret1, S_nil, S_gd, S_ld, S_lda, S_fld, S_len, S_ix, S_call, S_callv, S_func, S_move, S_assign, S_pick, S_bin, S_not, gdo_tt, gdo_ff, gdo_tf, gdo_ft, br_true, br_false, fin_val, ldV_ptr, ldaV_ptr, fldV_ptr, lenV_slice, not_bool, pick_true, pick_false, b_lss, b_leq, b_gtr, b_geq, b_eql, b_neq, b_add, b_sub, lift1_some, ev_tmp, ev_const, eput_app, eput_none, List.map_cons, List.map_nil, Nat.reduceEqDiff, Nat.succ_ne_self, Nat.reduceBEq, ↓reduceIte, reduceIte, decide_true, decide_false, Bool.not_true, Bool.not_false, if_true_left, Nat.one_ne_zero, Nat.zero_ne_one, not_true_eq_false, not_false_eq_true, S_nilc, nilc_ptr, S_ext, ext0, ext1, h1, h3, h38, h39, h40, h50, h51, h52]
              simp [Fr.refl]
          · have hi' : i = a.ranks.length := by simp at hG; omega
            subst hi'
            simp only [W_skip, W_ops, W_sops, W_seq, W_block, W_exit, W_ret, W_cond, U_seq, U_seq_exit, U_seq_ret, U_blk, U_blk_ret, U_blk_exit, again_exit', again_ret', again_normal', U_ret1, S_nil, S_gd, S_ld, S_lda, S_fld, S_len, S_ix, S_call, S_callv, S_func, S_move, S_assign, S_pick, S_bin, S_not, gdo_tt, gdo_ff, gdo_tf, gdo_ft, br_true, br_false, fin_val, ldV_ptr, ldaV_ptr, fldV_ptr, lenV_slice, not_bool, pick_true, pick_false, b_lss, b_leq, b_gtr, b_geq, b_eql, b_neq, b_add, b_sub, lift1_some, ev_tmp, ev_const, eput_app, eput_none, List.map_cons, List.map_nil, Nat.reduceEqDiff, Nat.succ_ne_self, Nat.reduceBEq, ↓reduceIte, reduceIte, decide_true, decide_false, Bool.not_true, Bool.not_false, if_true_left, Nat.one_ne_zero, Nat.zero_ne_one, not_true_eq_false, not_false_eq_true, S_nilc, nilc_ptr, S_ext, ext0, ext1, h1, h3, h38, h39, h40]
            refine ⟨a.moves.length - (j + 1), by omega, j + 1, rfl, hj', trivial, trivial, trivial, trivial, by rw [wrap_succ (by omega)], fr, fun q row hq hrw => ?_⟩
            by_cases e : q = j
            · subst e
              rw [List.getElem?_eq_getElem hj'] at hrw
              cases hrw
              exact ⟨hrow, fun f r x hr hx => ok2 f r x (List.getElem?_eq_some_iff.1 hr).1 hr hx⟩
            · exact ok q row (by omega) hrw
        · simp only [W_skip, W_ops, W_sops, W_seq, W_block, W_exit, W_ret, W_cond, U_seq, U_seq_exit, U_seq_ret, U_blk, U_blk_ret, U_blk_exit, again_exit', again_ret', again_normal', U_ret1, S_nil, S_gd, S_ld, S_lda, S_fld, S_len, S_ix, S_call, S_callv, S_func, S_move, S_assign, S_pick, S_bin, S_not, gdo_tt, gdo_ff, gdo_tf, gdo_ft, br_true, br_false, fin_val, ldV_ptr, ldaV_ptr, fldV_ptr, lenV_slice, not_bool, pick_true, pick_false, b_lss, b_leq, b_gtr, b_geq, b_eql, b_neq, b_add, b_sub, lift1_some, ev_tmp, ev_const, eput_app, eput_none, List.map_cons, List.map_nil, Nat.reduceEqDiff, Nat.succ_ne_self, Nat.reduceBEq, ↓reduceIte, reduceIte, decide_true, decide_false, Bool.not_true, Bool.not_false, if_true_left, Nat.one_ne_zero, Nat.zero_ne_one, not_true_eq_false, not_false_eq_true, S_nilc, nilc_ptr, S_ext, ext0, ext1, h1, h3, h38, h39, h40, hrow]
          simp [fr]
      · have hj' : j = a.moves.length := by simp at hE; omega
        subst hj'
        simp only [W_skip, W_ops, W_sops, W_seq, W_block, W_exit, W_ret, W_cond, U_seq, U_seq_exit, U_seq_ret, U_blk, U_blk_ret, U_blk_exit, again_exit', again_ret', again_normal', U_ret1, S_nil, S_gd, S_ld, S_lda, S_fld, S_len, S_ix, S_call, S_callv, S_func, S_move, S_assign, S_pick, S_bin, S_not, gdo_tt, gdo_ff, gdo_tf, gdo_ft, br_true, br_false, fin_val, ldV_ptr, ldaV_ptr, fldV_ptr, lenV_slice, not_bool, pick_true, pick_false, b_lss, b_leq, b_gtr, b_geq, b_eql, b_neq, b_add, b_sub, lift1_some, ev_tmp, ev_const, eput_app, eput_none, List.map_cons, List.map_nil, Nat.reduceEqDiff, Nat.succ_ne_self, Nat.reduceBEq, ↓reduceIte, reduceIte, decide_true, decide_false, Bool.not_true, Bool.not_false, if_true_left, Nat.one_ne_zero, Nat.zero_ne_one, not_true_eq_false, not_false_eq_true, S_nilc, nilc_ptr, S_ext, ext0, ext1]
        refine ⟨?_, frH⟩
        unfold err75
        rw [if_pos (ok_iff.2 ⟨hk, by omega, by omega, by omega, by omega, fun q row hq => ok q row (List.getElem?_eq_some_iff.1 hq).1 hq⟩)]
    · simp only [W_skip, W_ops, W_sops, W_seq, W_block, W_exit, W_ret, W_cond, U_seq, U_seq_exit, U_seq_ret, U_blk, U_blk_ret, U_blk_exit, again_exit', again_ret', again_normal', U_ret1, S_nil, S_gd, S_ld, S_lda, S_fld, S_len, S_ix, S_call, S_callv, S_func, S_move, S_assign, S_pick, S_bin, S_not, gdo_tt, gdo_ff, gdo_tf, gdo_ft, br_true, br_false, fin_val, ldV_ptr, ldaV_ptr, fldV_ptr, lenV_slice, not_bool, pick_true, pick_false, b_lss, b_leq, b_gtr, b_geq, b_eql, b_neq, b_add, b_sub, lift1_some, ev_tmp, ev_const, eput_app, eput_none, List.map_cons, List.map_nil, Nat.reduceEqDiff, Nat.succ_ne_self, Nat.reduceBEq, ↓reduceIte, reduceIte, decide_true, decide_false, Bool.not_true, Bool.not_false, if_true_left, Nat.one_ne_zero, Nat.zero_ne_one, not_true_eq_false, not_false_eq_true, S_nilc, nilc_ptr, S_ext, ext0, ext1]
      simp [f2]

end Go.Proofs.YtcfjimhbachmlaaGreatDoor.E

/- Contracts: the symbols along a path. -/
namespace Go.Proofs.YtcfjimhbachmlaaGreatDoor.E
open Go Go.Proofs
open Go.Proofs.YtcfjimhbachmlaaGreatDoor.L

theorem ty26 : TY.ty 26 = some { k := .slice 3, size := 1, bytes := 24, zero := some (.slice none 0 0) } := by kernel_rfl

/-- a list of numbers that was made, in a block of its own at or above a number, or none -/
def OutIs (H : Heap) (lo : Nat) (v : Value) (o : List Int) : Prop :=
  (o = [] ∧ v = .slice none 0 0) ∨ ∃ b f, lo ≤ b ∧ b < H.nxt ∧ v = .slice (some ⟨b, 0, none⟩) o.length unk ∧ H.get b = some (.cells (o.map (Value.int .i64)) 3 true f)

theorem OutIs.keep {H H1 : Heap} {lo : Nat} {v : Value} {o : List Int} (h : OutIs H lo v o) (hn : H.nxt ≤ H1.nxt) (ho : ∀ j, lo ≤ j → j < H.nxt → H1.get j = H.get j) : OutIs H1 lo v o := by
  rcases h with h | ⟨b, f, h1, h2, h3, h4⟩
  · exact .inl h
  · exact .inr ⟨b, f, h1, Nat.lt_of_lt_of_le h2 hn, h3, (ho b h1 h2).trans h4⟩

theorem OutIs.low {H : Heap} {lo lo' : Nat} {v : Value} {o : List Int} (h : OutIs H lo v o) (hl : lo' ≤ lo) : OutIs H lo' v o := by
  rcases h with h | ⟨b, f, h1, h2⟩
  · exact .inl h
  · exact .inr ⟨b, f, Nat.le_trans hl h1, h2⟩

section
variable {P : Program} {K : List KF} {Q : EPost} {g : Fm} {H : Heap}

set_option maxRecDepth 20000 in
/-- one number put behind a list -/
theorem S_push {s x : Operand} {d : Option Nat} {l : List (Option Nat × Option (Nat × Bool) × SO)} {v : Value} {o : List Int} {lo bx : Nat} {a : Int} {w f : Bool} (ho : OutIs H lo v o) (hs : ev g s = v) (hx : ev g x = .slice (some ⟨bx, 0, none⟩) 1 1)
    (hbx : H.get bx = some (.cells [.int .i64 a] 3 w f)) (hlo : lo ≤ H.nxt) (hl : o.length < 4294967296)
    (h : ∀ H1 v', H1.nxt = H.nxt + 1 → (∀ j, j < lo → H1.get j = H.get j) → OutIs H1 lo v' (o ++ [a]) → S TY P l K Q (eput g d v') H1) :
    S TY P ((d, none, .raw (.call ⟨.builtin .append, #[s, x], #[26, 26]⟩)) :: l) K Q g H := by
  rw [S_cons]
  have hsop : sop TY (ev g) H.nxt (.raw (.call ⟨.builtin .append, #[s, x], #[26, 26]⟩)) H = lift2 (eappend TY H H.nxt 26 (some 26) (ev g s) (ev g x)) := rfl
  rw [hsop, hs, hx]
  have hz : noZeros TY (some 26) = true := by simp only [noZeros, ty26]
  have hfirst : efirst H 1 1 (.slice (some ⟨bx, 0, none⟩) 1 1) = some [.int .i64 a] := by
    simp only [efirst, Nat.mul_one, Heap.cellsFrom, own_add]
    rw [own_cell 0 hbx rfl rfl]
  have hfit : ({ k := .int .i64, size := 1, bytes := 8, zero := some (.int .i64 0) } : TI).fits = true := rfl
  rcases ho with ⟨rfl, rfl⟩ | ⟨b, f', h1, h2, rfl, h4⟩
  · have key : eappend TY H H.nxt 26 (some 26) (.slice none 0 0) (.slice (some ⟨bx, 0, none⟩) 1 1) = some (.slice (some ⟨H.nxt, 0, none⟩) 1 unk, enew H H.nxt 3 [.int .i64 a]) := by
      unfold eappend
      simp only [ty26, ty3, hz, elen, hfirst]
      have h0 : efirst H 1 0 (.slice none 0 0) = some [] := rfl
      rw [if_neg (by simp), if_neg (by decide), if_neg (by decide), if_pos ⟨hfit, by simp, by decide, by decide⟩, h0]
      simp
    rw [key]
    simp only [lift2, fin_val]
    refine h _ _ (set_new _ _) (fun j hj => ?_) (.inr ⟨H.nxt, false, hlo, by rw [enew, set_new]; omega, by simp, by simp [enew, Heap.get_set_same]⟩)
    rw [enew, Heap.get_set_ne _ _ (by omega)]
  · have key : eappend TY H H.nxt 26 (some 26) (.slice (some ⟨b, 0, none⟩) o.length unk) (.slice (some ⟨bx, 0, none⟩) 1 1) =
        some (.slice (some ⟨H.nxt, 0, none⟩) (o.length + 1) unk, (H.kill b).set H.nxt (.cells (o.map (Value.int .i64) ++ [.int .i64 a]) 3 true false)) := by
      unfold eappend
      simp only [ty26, ty3, hz, elen, hfirst, h4]
      rw [if_neg (by simp), if_pos (by trivial), if_neg (by decide)]
      rw [if_pos ⟨by simp, by trivial, by simp, by simp [Value.oneCell'], by simp [isHole], hfit, by omega, by omega⟩]
    rw [key]
    simp only [lift2, fin_val]
    have hn : ((H.kill b).set H.nxt (.cells (o.map (Value.int .i64) ++ [.int .i64 a]) 3 true false)).nxt = H.nxt + 1 := by simp [Heap.set, Heap.kill]
    refine h _ _ hn (fun j hj => ?_) (.inr ⟨H.nxt, false, hlo, by rw [hn]; omega, by simp, by simp [Heap.get_set_same]⟩)
    rw [Heap.get_set_ne _ _ (by omega), Heap.get_kill, if_neg (by omega)]
end

theorem along_neg {s : Int} {ks : List T} {p : List Int} (h : s < 0) : along (.mk s ks) p = none := by
  cases p <;> simp [along, h]
theorem along_nil {s : Int} {ks : List T} (h : ¬ s < 0) : along (.mk s ks) [] = some [s] := by simp [along, h]
theorem along_out {s x : Int} {ks : List T} {p : List Int} (h : x < 0 ∨ (ks.length : Int) ≤ x) : along (.mk s ks) (x :: p) = none := by
  unfold along
  split
  · rfl
  · rename_i h1
    rw [List.getElem?_eq_none (by omega)]
theorem along_in {s : Int} {ks : List T} {p : List Int} {m : Nat} (hs : ¬ s < 0) (h : m < ks.length) : along (.mk s ks) ((m : Int) :: p) = (along ks[m] p).map (s :: ·) := by
  show (if s < 0 ∨ (m : Int) < 0 then none else match ks[(m : Int).toNat]? with | some t => (along t p).map (s :: ·) | none => none) = _
  rw [if_neg (by omega)]
  have : ((m : Int)).toNat = m := by simp
  rw [this, List.getElem?_eq_getElem h]

def outA (a : Au) (t : T) (p : List Int) : List Int := if err59 a t = 0 then (along t p).getD [] else []
def errA (a : Au) (t : T) (p : List Int) : Int := if err59 a t = 0 then (if (along t p).isSome = true then 0 else 5) else err59 a t

/-- what the two functions give back -/
def AlongPost (a : Au) (t : T) (p : List Int) (H : Heap) (v : Value) (H' : Heap) : Prop := (∃ sv, v = .tuple #[sv, .int .i64 (errA a t p)] ∧ OutIs H' H.nxt sv (outA a t p)) ∧ Fr H H'

theorem along_bad {a : Au} {t : T} {p : List Int} {H H' : Heap} (he : err59 a t = 0) (h : along t p = none) (fr : Fr H H') : AlongPost a t p H (.tuple #[.slice none 0 0, .int .i64 5]) H' :=
  ⟨⟨_, by simp [errA, he, h], .inl ⟨by simp [outA, he, h], rfl⟩⟩, fr⟩
theorem along_err {a : Au} {t : T} {p : List Int} {H H' : Heap} {e : Int} (he : err59 a t = e) (h0 : e ≠ 0) (fr : Fr H H') : AlongPost a t p H (.tuple #[.slice none 0 0, .int .i64 e]) H' :=
  ⟨⟨_, by simp [errA, he, h0], .inl ⟨by simp [outA, he, h0], rfl⟩⟩, fr⟩
theorem along_good {a : Au} {t : T} {p : List Int} {H H' : Heap} {l : List Int} {sv : Value} (he : err59 a t = 0) (h : along t p = some l) (ho : OutIs H' H.nxt sv l) (fr : Fr H H') : AlongPost a t p H (.tuple #[sv, .int .i64 0]) H' :=
  ⟨⟨sv, by simp [errA, he, h], by simpa [outA, he, h] using ho⟩, fr⟩

/-- virgationref21.Along -/
def c29 : C2 :=
  .seq (.ops [(some 3, none, .raw (.box 29 (.tmp 0))),
    (some 4, none, .raw (.box 37 (.tmp 1))),
    (some 6, none, .raw (.assign (.const (.slice none 0 0)))),
    (some 7, none, .raw (.assign (.const (.int .i64 0))))]) (
  .seq (.seq (.ops [(some 11, none, .lda 3 (.tmp 3)),
    (some 12, none, .lda 2 (.tmp 4)),
    (some 13, none, .call 59 [(.tmp 11), (.tmp 12)]),
    (some 8, none, .raw (.assign (.tmp 13)))]) (
  .seq (.ops [(some 14, none, .raw (.move (.tmp 8))),
    (some 15, none, .raw (.binOp .neq 38 (.tmp 14) (.const (.int .i64 0)) 38))]) (
  .cond (.tmp 15) (
    .seq (.ops [(some 16, none, .raw (.move (.tmp 8))),
      (some 6, none, .raw (.assign (.const (.slice none 0 0)))),
      (some 7, none, .raw (.assign (.tmp 16)))]) (
    .ret)) (
    .skip)))) (
  .seq (.ops [(some 9, none, .raw (.assign (.const (.slice none 0 0))))]) (
  .seq (.ops [(some 10, none, .raw (.assign (.const (.int .i64 0))))]) (
  .block 0 (
    .loop (
      .seq (.block 1 (
        .seq (.seq (.ops [(some 19, none, .fld 0 (.tmp 4)),
          (some 20, none, .ld (.tmp 19)),
          (some 21, none, .raw (.binOp .lss 3 (.tmp 20) (.const (.int .i64 0)) 3))]) (
        .cond (.tmp 21) (
          .seq (.ops [(some 6, none, .raw (.assign (.const (.slice none 0 0)))),
            (some 7, none, .raw (.assign (.const (.int .i64 5))))]) (
          .ret)) (
          .skip))) (
        .seq (.ops [(some 22, none, .raw (.move (.tmp 9))),
          (some 23, none, .fld 0 (.tmp 4)),
          (some 24, none, .ld (.tmp 23)),
          (some 25, none, .raw (.buildSlice 26 1 #[(0, (.tmp 24))])),
          (some 26, none, .raw (.call ⟨.builtin .append, #[(.tmp 22), (.tmp 25)], #[26, 26]⟩)),
          (some 9, none, .raw (.assign (.tmp 26)))]) (
        .seq (.seq (.ops [(some 27, none, .raw (.move (.tmp 10))),
          (some 28, none, .raw (.move (.tmp 2))),
          (some 29, none, .len (.tmp 28)),
          (some 30, none, .raw (.binOp .eql 3 (.tmp 27) (.tmp 29) 3))]) (
        .cond (.tmp 30) (
          .seq (.ops [(some 31, none, .raw (.move (.tmp 9))),
            (some 6, none, .raw (.assign (.tmp 31))),
            (some 7, none, .raw (.assign (.const (.int .i64 0))))]) (
          .ret)) (
          .skip))) (
        .seq (.seq (.sops 15 [(some 32, none, .raw (.move (.tmp 2))),
          (some 33, none, .raw (.move (.tmp 10))),
          (some 34, none, .ix 1 (.tmp 32) (.tmp 33)),
          (some 35, none, .ld (.tmp 34)),
          (some 36, none, .raw (.binOp .lss 3 (.tmp 35) (.const (.int .i64 0)) 3)),
          (some 37, none, .raw (.move (.tmp 36))),
          (some 38, some (37, false), .raw (.move (.tmp 2))),
          (some 39, some (37, false), .raw (.move (.tmp 10))),
          (some 40, some (37, false), .ix 1 (.tmp 38) (.tmp 39)),
          (some 41, some (37, false), .ld (.tmp 40)),
          (some 42, some (37, false), .fld 1 (.tmp 4)),
          (some 43, some (37, false), .ld (.tmp 42)),
          (some 44, some (37, false), .len (.tmp 43)),
          (some 45, some (37, false), .raw (.binOp .geq 3 (.tmp 41) (.tmp 44) 3)),
          (some 46, none, .raw (.pick (.tmp 37) (.const (.bool true)) (.tmp 45)))]) (
        .cond (.tmp 46) (
          .seq (.ops [(some 6, none, .raw (.assign (.const (.slice none 0 0)))),
            (some 7, none, .raw (.assign (.const (.int .i64 5))))]) (
          .ret)) (
          .skip))) (
        .sops 9 [(some 47, none, .fld 1 (.tmp 4)),
          (some 48, none, .ld (.tmp 47)),
          (some 49, none, .raw (.move (.tmp 2))),
          (some 50, none, .raw (.move (.tmp 10))),
          (some 51, none, .ix 1 (.tmp 49) (.tmp 50)),
          (some 52, none, .ld (.tmp 51)),
          (some 53, none, .ix 2 (.tmp 48) (.tmp 52)),
          (some 54, none, .lda 2 (.tmp 53)),
          (none, none, .st 2 (.tmp 4) (.tmp 54))])))))) (
      .ops [(some 17, none, .raw (.move (.tmp 10))),
        (some 18, none, .raw (.binOp .add 3 (.tmp 17) (.const (.int .i64 1)) 3)),
        (some 10, none, .raw (.assign (.tmp 18)))])))))))
theorem fc29 : facts 29 = some (c29, [.tmp 6, .tmp 7], 55) := by kernel_rfl

/-- path.Along -/
def c30 : C2 :=
  .seq (.ops [(some 3, none, .raw (.box 29 (.tmp 0))),
    (some 4, none, .raw (.box 37 (.tmp 1))),
    (some 6, none, .raw (.assign (.const (.slice none 0 0)))),
    (some 7, none, .raw (.assign (.const (.int .i64 0))))]) (
  .seq (.seq (.ops [(some 11, none, .lda 3 (.tmp 3)),
    (some 12, none, .call 75 [(.tmp 11)]),
    (some 8, none, .raw (.assign (.tmp 12)))]) (
  .seq (.ops [(some 13, none, .raw (.move (.tmp 8))),
    (some 14, none, .raw (.binOp .neq 38 (.tmp 13) (.const (.int .i64 0)) 38))]) (
  .cond (.tmp 14) (
    .seq (.ops [(some 15, none, .raw (.move (.tmp 8))),
      (some 6, none, .raw (.assign (.const (.slice none 0 0)))),
      (some 7, none, .raw (.assign (.tmp 15)))]) (
    .ret)) (
    .skip)))) (
  .seq (.seq (.ops [(some 16, none, .fld 0 (.tmp 3)),
    (some 17, none, .ld (.tmp 16)),
    (some 18, none, .lda 2 (.tmp 4)),
    (some 19, none, .call 76 [(.tmp 17), (.tmp 18)]),
    (some 20, none, .raw (.binOp .neq 38 (.tmp 19) (.const (.int .i64 0)) 38))]) (
  .cond (.tmp 20) (
    .seq (.ops [(some 6, none, .raw (.assign (.const (.slice none 0 0)))),
      (some 7, none, .raw (.assign (.const (.int .i64 9))))]) (
    .ret)) (
    .skip))) (
  .seq (.ops [(some 9, none, .raw (.assign (.const (.slice none 0 0))))]) (
  .seq (.ops [(some 10, none, .raw (.assign (.const (.int .i64 0))))]) (
  .block 0 (
    .loop (
      .seq (.block 1 (
        .seq (.seq (.ops [(some 23, none, .fld 0 (.tmp 4)),
          (some 24, none, .ld (.tmp 23)),
          (some 25, none, .raw (.binOp .lss 3 (.tmp 24) (.const (.int .i64 0)) 3))]) (
        .cond (.tmp 25) (
          .seq (.ops [(some 6, none, .raw (.assign (.const (.slice none 0 0)))),
            (some 7, none, .raw (.assign (.const (.int .i64 5))))]) (
          .ret)) (
          .skip))) (
        .seq (.ops [(some 26, none, .raw (.move (.tmp 9))),
          (some 27, none, .fld 0 (.tmp 4)),
          (some 28, none, .ld (.tmp 27)),
          (some 29, none, .raw (.buildSlice 26 1 #[(0, (.tmp 28))])),
          (some 30, none, .raw (.call ⟨.builtin .append, #[(.tmp 26), (.tmp 29)], #[26, 26]⟩)),
          (some 9, none, .raw (.assign (.tmp 30)))]) (
        .seq (.seq (.ops [(some 31, none, .raw (.move (.tmp 10))),
          (some 32, none, .raw (.move (.tmp 2))),
          (some 33, none, .len (.tmp 32)),
          (some 34, none, .raw (.binOp .eql 3 (.tmp 31) (.tmp 33) 3))]) (
        .cond (.tmp 34) (
          .seq (.ops [(some 35, none, .raw (.move (.tmp 9))),
            (some 6, none, .raw (.assign (.tmp 35))),
            (some 7, none, .raw (.assign (.const (.int .i64 0))))]) (
          .ret)) (
          .skip))) (
        .seq (.seq (.sops 15 [(some 36, none, .raw (.move (.tmp 2))),
          (some 37, none, .raw (.move (.tmp 10))),
          (some 38, none, .ix 1 (.tmp 36) (.tmp 37)),
          (some 39, none, .ld (.tmp 38)),
          (some 40, none, .raw (.binOp .lss 3 (.tmp 39) (.const (.int .i64 0)) 3)),
          (some 41, none, .raw (.move (.tmp 40))),
          (some 42, some (41, false), .raw (.move (.tmp 2))),
          (some 43, some (41, false), .raw (.move (.tmp 10))),
          (some 44, some (41, false), .ix 1 (.tmp 42) (.tmp 43)),
          (some 45, some (41, false), .ld (.tmp 44)),
          (some 46, some (41, false), .fld 1 (.tmp 4)),
          (some 47, some (41, false), .ld (.tmp 46)),
          (some 48, some (41, false), .len (.tmp 47)),
          (some 49, some (41, false), .raw (.binOp .geq 3 (.tmp 45) (.tmp 48) 3)),
          (some 50, none, .raw (.pick (.tmp 41) (.const (.bool true)) (.tmp 49)))]) (
        .cond (.tmp 50) (
          .seq (.ops [(some 6, none, .raw (.assign (.const (.slice none 0 0)))),
            (some 7, none, .raw (.assign (.const (.int .i64 5))))]) (
          .ret)) (
          .skip))) (
        .sops 9 [(some 51, none, .fld 1 (.tmp 4)),
          (some 52, none, .ld (.tmp 51)),
          (some 53, none, .raw (.move (.tmp 2))),
          (some 54, none, .raw (.move (.tmp 10))),
          (some 55, none, .ix 1 (.tmp 53) (.tmp 54)),
          (some 56, none, .ld (.tmp 55)),
          (some 57, none, .ix 2 (.tmp 52) (.tmp 56)),
          (some 58, none, .lda 2 (.tmp 57)),
          (none, none, .st 2 (.tmp 4) (.tmp 58))])))))) (
      .ops [(some 21, none, .raw (.move (.tmp 10))),
        (some 22, none, .raw (.binOp .add 3 (.tmp 21) (.const (.int .i64 1)) 3)),
        (some 10, none, .raw (.assign (.tmp 22)))]))))))))
theorem fc30 : facts 30 = some (c30, [.tmp 6, .tmp 7], 59) := by kernel_rfl

set_option maxRecDepth 20000 in
theorem along29 {H : Heap} {v w : Value} {cs : List Value} {a : Au} {t : T} {pth : List Int} (hv : IsAu H.get v a) (ht : IsT H.get cs t) (hp : IsInts H.get w pth) :
    SC Tryz.prog 29 #[v, .agg cs.toArray, w] H (AlongPost a t pth H) := by
  refine SC_of_W fc29 (by simp) fun hwf => ?_
  have kn := Kn.self hwf
  have hv0 := hv
  have ht0 := ht
  obtain ⟨rv, mv, rfl, hr, hm⟩ := hv
  obtain ⟨pr, cr, rfl, hrlen, hrat⟩ := hr
  obtain ⟨pm, cm, rfl, hmlen, hmat⟩ := hm
  obtain ⟨pp, cp, rfl, hplen, hpat⟩ := hp
  generalize htt : t = t0 at ht
  obtain ⟨s, ks⟩ := t0
  obtain ⟨kv, rfl, hk⟩ := ht.inv
  obtain ⟨p, c, rfl, hlen, hat⟩ := hk
  unfold c29
  simp only [W_skip, W_ops, W_sops, W_seq, W_block, W_exit, W_ret, W_cond, U_seq, U_seq_exit, U_seq_ret, U_blk, U_blk_ret, U_blk_exit, again_exit', again_ret', again_normal', U_ret1, S_nil, S_gd, S_ld, S_lda, S_fld, S_len, S_ix, S_call, S_callv, S_func, S_move, S_assign, S_pick, S_bin, S_not, gdo_tt, gdo_ff, gdo_tf, gdo_ft, br_true, br_false, fin_val, ldV_ptr, ldaV_ptr, fldV_ptr, lenV_slice, not_bool, pick_true, pick_false, b_lss, b_leq, b_gtr, b_geq, b_eql, b_neq, b_add, b_sub, lift1_some, ev_tmp, ev_const, eput_app, eput_none, List.map_cons, List.map_nil, Nat.reduceEqDiff, Nat.succ_ne_self, Nat.reduceBEq, ↓reduceIte, reduceIte, decide_true, decide_false, Bool.not_true, Bool.not_false, if_true_left, Nat.one_ne_zero, Nat.zero_ne_one, not_true_eq_false, not_false_eq_true, S_nilc, nilc_ptr, S_ext, ext0, ext1]
  refine S_box fun H1 f1 n1 g1 => ?_
  refine S_box fun HB f2 n2 gB => ?_
  simp only [W_skip, W_ops, W_sops, W_seq, W_block, W_exit, W_ret, W_cond, U_seq, U_seq_exit, U_seq_ret, U_blk, U_blk_ret, U_blk_exit, again_exit', again_ret', again_normal', U_ret1, S_nil, S_gd, S_ld, S_lda, S_fld, S_len, S_ix, S_call, S_callv, S_func, S_move, S_assign, S_pick, S_bin, S_not, gdo_tt, gdo_ff, gdo_tf, gdo_ft, br_true, br_false, fin_val, ldV_ptr, ldaV_ptr, fldV_ptr, lenV_slice, not_bool, pick_true, pick_false, b_lss, b_leq, b_gtr, b_geq, b_eql, b_neq, b_add, b_sub, lift1_some, ev_tmp, ev_const, eput_app, eput_none, List.map_cons, List.map_nil, Nat.reduceEqDiff, Nat.succ_ne_self, Nat.reduceBEq, ↓reduceIte, reduceIte, decide_true, decide_false, Bool.not_true, Bool.not_false, if_true_left, Nat.one_ne_zero, Nat.zero_ne_one, not_true_eq_false, not_false_eq_true, S_nilc, nilc_ptr, S_ext, ext0, ext1, f3_0, f3_1, Value.cells] at g1 gB ⊢
  have g1' : HB.get H.nxt = _ := (f2.old _ (by omega)).trans g1
  have fB := f1.trans f2
  simp only [W_skip, W_ops, W_sops, W_seq, W_block, W_exit, W_ret, W_cond, U_seq, U_seq_exit, U_seq_ret, U_blk, U_blk_ret, U_blk_exit, again_exit', again_ret', again_normal', U_ret1, S_nil, S_gd, S_ld, S_lda, S_fld, S_len, S_ix, S_call, S_callv, S_func, S_move, S_assign, S_pick, S_bin, S_not, gdo_tt, gdo_ff, gdo_tf, gdo_ft, br_true, br_false, fin_val, ldV_ptr, ldaV_ptr, fldV_ptr, lenV_slice, not_bool, pick_true, pick_false, b_lss, b_leq, b_gtr, b_geq, b_eql, b_neq, b_add, b_sub, lift1_some, ev_tmp, ev_const, eput_app, eput_none, List.map_cons, List.map_nil, Nat.reduceEqDiff, Nat.succ_ne_self, Nat.reduceBEq, ↓reduceIte, reduceIte, decide_true, decide_false, Bool.not_true, Bool.not_false, if_true_left, Nat.one_ne_zero, Nat.zero_ne_one, not_true_eq_false, not_false_eq_true, S_nilc, nilc_ptr, S_ext, ext0, ext1, own_cells3 g1' rfl rfl rfl, own_cells2 gB rfl rfl]
  refine call_then (both59 (hv0.mono (fB.sub hwf)) (ht.mono (fB.sub hwf))) ?_
  rintro _ H3 ⟨hr3, f3⟩ wf3
  subst hr3
  have fr3 := fB.trans f3
  have gB3 : H3.get H1.nxt = _ := (f3.old _ (by omega)).trans gB
  rw [cont_app, ← htt]
  simp only [W_skip, W_ops, W_sops, W_seq, W_block, W_exit, W_ret, W_cond, U_seq, U_seq_exit, U_seq_ret, U_blk, U_blk_ret, U_blk_exit, again_exit', again_ret', again_normal', U_ret1, S_nil, S_gd, S_ld, S_lda, S_fld, S_len, S_ix, S_call, S_callv, S_func, S_move, S_assign, S_pick, S_bin, S_not, gdo_tt, gdo_ff, gdo_tf, gdo_ft, br_true, br_false, fin_val, ldV_ptr, ldaV_ptr, fldV_ptr, lenV_slice, not_bool, pick_true, pick_false, b_lss, b_leq, b_gtr, b_geq, b_eql, b_neq, b_add, b_sub, lift1_some, ev_tmp, ev_const, eput_app, eput_none, List.map_cons, List.map_nil, Nat.reduceEqDiff, Nat.succ_ne_self, Nat.reduceBEq, ↓reduceIte, reduceIte, decide_true, decide_false, Bool.not_true, Bool.not_false, if_true_left, Nat.one_ne_zero, Nat.zero_ne_one, not_true_eq_false, not_false_eq_true, S_nilc, nilc_ptr, S_ext, ext0, ext1]
  refine br_of ?_ ?_ <;> intro hE
  · simp only [W_skip, W_ops, W_sops, W_seq, W_block, W_exit, W_ret, W_cond, U_seq, U_seq_exit, U_seq_ret, U_blk, U_blk_ret, U_blk_exit, again_exit', again_ret', again_normal', U_ret1, S_nil, S_gd, S_ld, S_lda, S_fld, S_len, S_ix, S_call, S_callv, S_func, S_move, S_assign, S_pick, S_bin, S_not, gdo_tt, gdo_ff, gdo_tf, gdo_ft, br_true, br_false, fin_val, ldV_ptr, ldaV_ptr, fldV_ptr, lenV_slice, not_bool, pick_true, pick_false, b_lss, b_leq, b_gtr, b_geq, b_eql, b_neq, b_add, b_sub, lift1_some, ev_tmp, ev_const, eput_app, eput_none, List.map_cons, List.map_nil, Nat.reduceEqDiff, Nat.succ_ne_self, Nat.reduceBEq, ↓reduceIte, reduceIte, decide_true, decide_false, Bool.not_true, Bool.not_false, if_true_left, Nat.one_ne_zero, Nat.zero_ne_one, not_true_eq_false, not_false_eq_true, S_nilc, nilc_ptr, S_ext, ext0, ext1, U_ret2]
    exact along_err rfl (by simpa using hE) fr3
  have he : err59 a t = 0 := by simpa using hE
  simp only [W_skip, W_ops, W_sops, W_seq, W_block, W_exit, W_ret, W_cond, U_seq, U_seq_exit, U_seq_ret, U_blk, U_blk_ret, U_blk_exit, again_exit', again_ret', again_normal', U_ret1, S_nil, S_gd, S_ld, S_lda, S_fld, S_len, S_ix, S_call, S_callv, S_func, S_move, S_assign, S_pick, S_bin, S_not, gdo_tt, gdo_ff, gdo_tf, gdo_ft, br_true, br_false, fin_val, ldV_ptr, ldaV_ptr, fldV_ptr, lenV_slice, not_bool, pick_true, pick_false, b_lss, b_leq, b_gtr, b_geq, b_eql, b_neq, b_add, b_sub, lift1_some, ev_tmp, ev_const, eput_app, eput_none, List.map_cons, List.map_nil, Nat.reduceEqDiff, Nat.succ_ne_self, Nat.reduceBEq, ↓reduceIte, reduceIte, decide_true, decide_false, Bool.not_true, Bool.not_false, if_true_left, Nat.one_ne_zero, Nat.zero_ne_one, not_true_eq_false, not_false_eq_true, S_nilc, nilc_ptr, S_ext, ext0, ext1]
  have hlt1 : H1.nxt < H3.nxt := by have := f3.nxt; omega
  have hge1 : H.nxt ≤ H1.nxt := by omega
  refine W_loop (fun k g H4 => ∃ (i : Nat) (si : Int) (ksi : List T) (kvi : Value) (o : List Int) (f : Bool), k = pth.length + 1 - i ∧ i ≤ pth.length ∧ g 2 = .slice pp pth.length cp ∧ g 4 = .pointer (some ⟨H1.nxt, 0, none⟩) ∧ g 10 = .int .i64 (i : Nat) ∧
    OutIs H4 H3.nxt (g 9) o ∧ o.length = i ∧ Fq H1.nxt H3 H4 ∧ H4.get H1.nxt = some (.cells [.int .i64 si, kvi] 37 true f) ∧ IsT H.get [.int .i64 si, kvi] (.mk si ksi) ∧ along t pth = (along (.mk si ksi) (pth.drop i)).map (o ++ ·)) ?_ (pth.length + 1) ⟨0, s, ks, .slice p ks.length c, [], false, ?_⟩
  · rintro k g H4 ⟨i, si, ksi, kvi, o, f, rfl, hi, h2, h4, h10, ho, hol, fq, gt, hti, hal⟩
    obtain ⟨kvi', hkk, hki⟩ := hti.inv
    simp only [List.cons.injEq, and_true, true_and] at hkk
    subst hkk
    obtain ⟨pi, ci, rfl, hilen, hiat⟩ := hki
    have fr4 : Fr H H4 := ⟨Nat.le_trans fr3.nxt fq.nxt, fun j hj => by rw [fq.old j (by have := fr3.nxt; omega) (by omega)]; exact fr3.old j hj⟩
    simp only [W_skip, W_ops, W_sops, W_seq, W_block, W_exit, W_ret, W_cond, U_seq, U_seq_exit, U_seq_ret, U_blk, U_blk_ret, U_blk_exit, again_exit', again_ret', again_normal', U_ret1, S_nil, S_gd, S_ld, S_lda, S_fld, S_len, S_ix, S_call, S_callv, S_func, S_move, S_assign, S_pick, S_bin, S_not, gdo_tt, gdo_ff, gdo_tf, gdo_ft, br_true, br_false, fin_val, ldV_ptr, ldaV_ptr, fldV_ptr, lenV_slice, not_bool, pick_true, pick_false, b_lss, b_leq, b_gtr, b_geq, b_eql, b_neq, b_add, b_sub, lift1_some, ev_tmp, ev_const, eput_app, eput_none, List.map_cons, List.map_nil, Nat.reduceEqDiff, Nat.succ_ne_self, Nat.reduceBEq, ↓reduceIte, reduceIte, decide_true, decide_false, Bool.not_true, Bool.not_false, if_true_left, Nat.one_ne_zero, Nat.zero_ne_one, not_true_eq_false, not_false_eq_true, S_nilc, nilc_ptr, S_ext, ext0, ext1, h2, h4, h10, own_add, own_cell 0 gt rfl rfl]
    refine br_of ?_ ?_ <;> intro hA
    · simp only [W_skip, W_ops, W_sops, W_seq, W_block, W_exit, W_ret, W_cond, U_seq, U_seq_exit, U_seq_ret, U_blk, U_blk_ret, U_blk_exit, again_exit', again_ret', again_normal', U_ret1, S_nil, S_gd, S_ld, S_lda, S_fld, S_len, S_ix, S_call, S_callv, S_func, S_move, S_assign, S_pick, S_bin, S_not, gdo_tt, gdo_ff, gdo_tf, gdo_ft, br_true, br_false, fin_val, ldV_ptr, ldaV_ptr, fldV_ptr, lenV_slice, not_bool, pick_true, pick_false, b_lss, b_leq, b_gtr, b_geq, b_eql, b_neq, b_add, b_sub, lift1_some, ev_tmp, ev_const, eput_app, eput_none, List.map_cons, List.map_nil, Nat.reduceEqDiff, Nat.succ_ne_self, Nat.reduceBEq, ↓reduceIte, reduceIte, decide_true, decide_false, Bool.not_true, Bool.not_false, if_true_left, Nat.one_ne_zero, Nat.zero_ne_one, not_true_eq_false, not_false_eq_true, S_nilc, nilc_ptr, S_ext, ext0, ext1, U_ret2]
      exact along_bad he (by rw [hal, along_neg (by simpa using hA)]; rfl) fr4
    have hs0 : ¬ si < 0 := by simpa using hA
    simp only [W_skip, W_ops, W_sops, W_seq, W_block, W_exit, W_ret, W_cond, U_seq, U_seq_exit, U_seq_ret, U_blk, U_blk_ret, U_blk_exit, again_exit', again_ret', again_normal', U_ret1, S_nil, S_gd, S_ld, S_lda, S_fld, S_len, S_ix, S_call, S_callv, S_func, S_move, S_assign, S_pick, S_bin, S_not, gdo_tt, gdo_ff, gdo_tf, gdo_ft, br_true, br_false, fin_val, ldV_ptr, ldaV_ptr, fldV_ptr, lenV_slice, not_bool, pick_true, pick_false, b_lss, b_leq, b_gtr, b_geq, b_eql, b_neq, b_add, b_sub, lift1_some, ev_tmp, ev_const, eput_app, eput_none, List.map_cons, List.map_nil, Nat.reduceEqDiff, Nat.succ_ne_self, Nat.reduceBEq, ↓reduceIte, reduceIte, decide_true, decide_false, Bool.not_true, Bool.not_false, if_true_left, Nat.one_ne_zero, Nat.zero_ne_one, not_true_eq_false, not_false_eq_true, S_nilc, nilc_ptr, S_ext, ext0, ext1, h2, h4, h10, own_add, own_cell 0 gt rfl rfl]
    refine S_one ty26 rfl ty3 rfl rfl (by decide) (show (1 : Nat) ≤ 16777216 by omega) (by simp only [W_skip, W_ops, W_sops, W_seq, W_block, W_exit, W_ret, W_cond, U_seq, U_seq_exit, U_seq_ret, U_blk, U_blk_ret, U_blk_exit, again_exit', again_ret', again_normal', U_ret1, S_nil, S_gd, S_ld, S_lda, S_fld, S_len, S_ix, S_call, S_callv, S_func, S_move, S_assign, S_pick, S_bin, S_not, gdo_tt, gdo_ff, gdo_tf, gdo_ft, br_true, br_false, fin_val, ldV_ptr, ldaV_ptr, fldV_ptr, lenV_slice, not_bool, pick_true, pick_false, b_lss, b_leq, b_gtr, b_geq, b_eql, b_neq, b_add, b_sub, lift1_some, ev_tmp, ev_const, eput_app, eput_none, List.map_cons, List.map_nil, Nat.reduceEqDiff, Nat.succ_ne_self, Nat.reduceBEq, ↓reduceIte, reduceIte, decide_true, decide_false, Bool.not_true, Bool.not_false, if_true_left, Nat.one_ne_zero, Nat.zero_ne_one, not_true_eq_false, not_false_eq_true, S_nilc, nilc_ptr, S_ext, ext0, ext1]; rfl) fun H5 f5 n5 g5 => ?_
    simp only [W_skip, W_ops, W_sops, W_seq, W_block, W_exit, W_ret, W_cond, U_seq, U_seq_exit, U_seq_ret, U_blk, U_blk_ret, U_blk_exit, again_exit', again_ret', again_normal', U_ret1, S_nil, S_gd, S_ld, S_lda, S_fld, S_len, S_ix, S_call, S_callv, S_func, S_move, S_assign, S_pick, S_bin, S_not, gdo_tt, gdo_ff, gdo_tf, gdo_ft, br_true, br_false, fin_val, ldV_ptr, ldaV_ptr, fldV_ptr, lenV_slice, not_bool, pick_true, pick_false, b_lss, b_leq, b_gtr, b_geq, b_eql, b_neq, b_add, b_sub, lift1_some, ev_tmp, ev_const, eput_app, eput_none, List.map_cons, List.map_nil, Nat.reduceEqDiff, Nat.succ_ne_self, Nat.reduceBEq, ↓reduceIte, reduceIte, decide_true, decide_false, Bool.not_true, Bool.not_false, if_true_left, Nat.one_ne_zero, Nat.zero_ne_one, not_true_eq_false, not_false_eq_true, S_nilc, nilc_ptr, S_ext, ext0, ext1, Value.cells] at g5 ⊢
    have h34 := fq.nxt
    have ho5 : OutIs H5 H3.nxt (g 9) o := ho.keep f5.nxt fun j _ hj => f5.old j hj
    have gt5 : H5.get H1.nxt = _ := (f5.old _ (by omega)).trans gt
    refine S_push (a := si) ho5 (by simp only [W_skip, W_ops, W_sops, W_seq, W_block, W_exit, W_ret, W_cond, U_seq, U_seq_exit, U_seq_ret, U_blk, U_blk_ret, U_blk_exit, again_exit', again_ret', again_normal', U_ret1, S_nil, S_gd, S_ld, S_lda, S_fld, S_len, S_ix, S_call, S_callv, S_func, S_move, S_assign, S_pick, S_bin, S_not, gdo_tt, gdo_ff, gdo_tf, gdo_ft, br_true, br_false, fin_val, ldV_ptr, ldaV_ptr, fldV_ptr, lenV_slice, not_bool, pick_true, pick_false, b_lss, b_leq, b_gtr, b_geq, b_eql, b_neq, b_add, b_sub, lift1_some, ev_tmp, ev_const, eput_app, eput_none, List.map_cons, List.map_nil, Nat.reduceEqDiff, Nat.succ_ne_self, Nat.reduceBEq, ↓reduceIte, reduceIte, decide_true, decide_false, Bool.not_true, Bool.not_false, if_true_left, Nat.one_ne_zero, Nat.zero_ne_one, not_true_eq_false, not_false_eq_true, S_nilc, nilc_ptr, S_ext, ext0, ext1]) (by simp only [W_skip, W_ops, W_sops, W_seq, W_block, W_exit, W_ret, W_cond, U_seq, U_seq_exit, U_seq_ret, U_blk, U_blk_ret, U_blk_exit, again_exit', again_ret', again_normal', U_ret1, S_nil, S_gd, S_ld, S_lda, S_fld, S_len, S_ix, S_call, S_callv, S_func, S_move, S_assign, S_pick, S_bin, S_not, gdo_tt, gdo_ff, gdo_tf, gdo_ft, br_true, br_false, fin_val, ldV_ptr, ldaV_ptr, fldV_ptr, lenV_slice, not_bool, pick_true, pick_false, b_lss, b_leq, b_gtr, b_geq, b_eql, b_neq, b_add, b_sub, lift1_some, ev_tmp, ev_const, eput_app, eput_none, List.map_cons, List.map_nil, Nat.reduceEqDiff, Nat.succ_ne_self, Nat.reduceBEq, ↓reduceIte, reduceIte, decide_true, decide_false, Bool.not_true, Bool.not_false, if_true_left, Nat.one_ne_zero, Nat.zero_ne_one, not_true_eq_false, not_false_eq_true, S_nilc, nilc_ptr, S_ext, ext0, ext1]) g5 (by omega) (by omega) fun H6 ov n6 o6 out6 => ?_
    have gt6 : H6.get H1.nxt = _ := (o6 _ (by omega)).trans gt5
    have fq6 : Fq H1.nxt H3 H6 := ⟨by omega, fun j hj hq => by rw [o6 j hj, f5.old j (by omega)]; exact fq.old j hj hq⟩
    have fr6 : Fr H H6 := ⟨Nat.le_trans fr3.nxt fq6.nxt, fun j hj => by rw [fq6.old j (by have := fr3.nxt; omega) (by omega)]; exact fr3.old j hj⟩
    simp only [W_skip, W_ops, W_sops, W_seq, W_block, W_exit, W_ret, W_cond, U_seq, U_seq_exit, U_seq_ret, U_blk, U_blk_ret, U_blk_exit, again_exit', again_ret', again_normal', U_ret1, S_nil, S_gd, S_ld, S_lda, S_fld, S_len, S_ix, S_call, S_callv, S_func, S_move, S_assign, S_pick, S_bin, S_not, gdo_tt, gdo_ff, gdo_tf, gdo_ft, br_true, br_false, fin_val, ldV_ptr, ldaV_ptr, fldV_ptr, lenV_slice, not_bool, pick_true, pick_false, b_lss, b_leq, b_gtr, b_geq, b_eql, b_neq, b_add, b_sub, lift1_some, ev_tmp, ev_const, eput_app, eput_none, List.map_cons, List.map_nil, Nat.reduceEqDiff, Nat.succ_ne_self, Nat.reduceBEq, ↓reduceIte, reduceIte, decide_true, decide_false, Bool.not_true, Bool.not_false, if_true_left, Nat.one_ne_zero, Nat.zero_ne_one, not_true_eq_false, not_false_eq_true, S_nilc, nilc_ptr, S_ext, ext0, ext1, h2, h4, h10]
    refine br_of ?_ ?_ <;> intro hB
    · have hi' : i = pth.length := by simp at hB; omega
      subst hi'
      rw [List.drop_length, along_nil hs0] at hal
      simp only [W_skip, W_ops, W_sops, W_seq, W_block, W_exit, W_ret, W_cond, U_seq, U_seq_exit, U_seq_ret, U_blk, U_blk_ret, U_blk_exit, again_exit', again_ret', again_normal', U_ret1, S_nil, S_gd, S_ld, S_lda, S_fld, S_len, S_ix, S_call, S_callv, S_func, S_move, S_assign, S_pick, S_bin, S_not, gdo_tt, gdo_ff, gdo_tf, gdo_ft, br_true, br_false, fin_val, ldV_ptr, ldaV_ptr, fldV_ptr, lenV_slice, not_bool, pick_true, pick_false, b_lss, b_leq, b_gtr, b_geq, b_eql, b_neq, b_add, b_sub, lift1_some, ev_tmp, ev_const, eput_app, eput_none, List.map_cons, List.map_nil, Nat.reduceEqDiff, Nat.succ_ne_self, Nat.reduceBEq, ↓reduceIte, reduceIte, decide_true, decide_false, Bool.not_true, Bool.not_false, if_true_left, Nat.one_ne_zero, Nat.zero_ne_one, not_true_eq_false, not_false_eq_true, S_nilc, nilc_ptr, S_ext, ext0, ext1, U_ret2]
      exact along_good he hal (out6.low (by have := fr3.nxt; omega)) fr6
    have hi' : i < pth.length := by simp at hB; omega
    obtain ⟨bp, csp, rfl, hsp, hIp⟩ := hpat i pth[i] (by simp [hi'])
    cases hIp
    have fr6r := fr6.reserve 15
    have hcp := (kn.fr fr6r).see1 hsp
    have gt6r : (H6.reserve 15).get H1.nxt = _ := gt6
    rw [drop_cons hi'] at hal
    simp only [W_skip, W_ops, W_sops, W_seq, W_block, W_exit, W_ret, W_cond, U_seq, U_seq_exit, U_seq_ret, U_blk, U_blk_ret, U_blk_exit, again_exit', again_ret', again_normal', U_ret1, S_nil, S_gd, S_ld, S_lda, S_fld, S_len, S_ix, S_call, S_callv, S_func, S_move, S_assign, S_pick, S_bin, S_not, gdo_tt, gdo_ff, gdo_tf, gdo_ft, br_true, br_false, fin_val, ldV_ptr, ldaV_ptr, fldV_ptr, lenV_slice, not_bool, pick_true, pick_false, b_lss, b_leq, b_gtr, b_geq, b_eql, b_neq, b_add, b_sub, lift1_some, ev_tmp, ev_const, eput_app, eput_none, List.map_cons, List.map_nil, Nat.reduceEqDiff, Nat.succ_ne_self, Nat.reduceBEq, ↓reduceIte, reduceIte, decide_true, decide_false, Bool.not_true, Bool.not_false, if_true_left, Nat.one_ne_zero, Nat.zero_ne_one, not_true_eq_false, not_false_eq_true, S_nilc, nilc_ptr, S_ext, ext0, ext1, h2, h4, h10, ixV_at hi', hcp]
    refine gdo_of ?_ ?_ <;> intro hC
    · simp only [W_skip, W_ops, W_sops, W_seq, W_block, W_exit, W_ret, W_cond, U_seq, U_seq_exit, U_seq_ret, U_blk, U_blk_ret, U_blk_exit, again_exit', again_ret', again_normal', U_ret1, S_nil, S_gd, S_ld, S_lda, S_fld, S_len, S_ix, S_call, S_callv, S_func, S_move, S_assign, S_pick, S_bin, S_not, gdo_tt, gdo_ff, gdo_tf, gdo_ft, br_true, br_false, fin_val, ldV_ptr, ldaV_ptr, fldV_ptr, lenV_slice, not_bool, pick_true, pick_false, b_lss, b_leq, b_gtr, b_geq, b_eql, b_neq, b_add, b_sub, lift1_some, ev_tmp, ev_const, eput_app, eput_none, List.map_cons, List.map_nil, Nat.reduceEqDiff, Nat.succ_ne_self, Nat.reduceBEq, ↓reduceIte, reduceIte, decide_true, decide_false, Bool.not_true, Bool.not_false, if_true_left, Nat.one_ne_zero, Nat.zero_ne_one, not_true_eq_false, not_false_eq_true, S_nilc, nilc_ptr, S_ext, ext0, ext1, hC, U_ret2]
      exact along_bad he (by rw [hal, along_out (.inl (by simpa using hC))]; rfl) fr6r
    simp only [W_skip, W_ops, W_sops, W_seq, W_block, W_exit, W_ret, W_cond, U_seq, U_seq_exit, U_seq_ret, U_blk, U_blk_ret, U_blk_exit, again_exit', again_ret', again_normal', U_ret1, S_nil, S_gd, S_ld, S_lda, S_fld, S_len, S_ix, S_call, S_callv, S_func, S_move, S_assign, S_pick, S_bin, S_not, gdo_tt, gdo_ff, gdo_tf, gdo_ft, br_true, br_false, fin_val, ldV_ptr, ldaV_ptr, fldV_ptr, lenV_slice, not_bool, pick_true, pick_false, b_lss, b_leq, b_gtr, b_geq, b_eql, b_neq, b_add, b_sub, lift1_some, ev_tmp, ev_const, eput_app, eput_none, List.map_cons, List.map_nil, Nat.reduceEqDiff, Nat.succ_ne_self, Nat.reduceBEq, ↓reduceIte, reduceIte, decide_true, decide_false, Bool.not_true, Bool.not_false, if_true_left, Nat.one_ne_zero, Nat.zero_ne_one, not_true_eq_false, not_false_eq_true, S_nilc, nilc_ptr, S_ext, ext0, ext1, hC, h2, h4, h10, ixV_at hi', hcp, own_add, own_cell 1 gt6r rfl rfl]
    refine br_of ?_ ?_ <;> intro hD
    · simp only [W_skip, W_ops, W_sops, W_seq, W_block, W_exit, W_ret, W_cond, U_seq, U_seq_exit, U_seq_ret, U_blk, U_blk_ret, U_blk_exit, again_exit', again_ret', again_normal', U_ret1, S_nil, S_gd, S_ld, S_lda, S_fld, S_len, S_ix, S_call, S_callv, S_func, S_move, S_assign, S_pick, S_bin, S_not, gdo_tt, gdo_ff, gdo_tf, gdo_ft, br_true, br_false, fin_val, ldV_ptr, ldaV_ptr, fldV_ptr, lenV_slice, not_bool, pick_true, pick_false, b_lss, b_leq, b_gtr, b_geq, b_eql, b_neq, b_add, b_sub, lift1_some, ev_tmp, ev_const, eput_app, eput_none, List.map_cons, List.map_nil, Nat.reduceEqDiff, Nat.succ_ne_self, Nat.reduceBEq, ↓reduceIte, reduceIte, decide_true, decide_false, Bool.not_true, Bool.not_false, if_true_left, Nat.one_ne_zero, Nat.zero_ne_one, not_true_eq_false, not_false_eq_true, S_nilc, nilc_ptr, S_ext, ext0, ext1, U_ret2]
      exact along_bad he (by rw [hal, along_out (.inr (by simpa using hD))]; rfl) fr6r
    have gt6s : ((H6.reserve 15).reserve 9).get H1.nxt = _ := gt6
    have hcp2 := (kn.fr (fr6r.reserve 9)).see1 hsp
    obtain ⟨m, hm⟩ : ∃ m : Nat, pth[i] = m := ⟨pth[i].toNat, by simp at hC; omega⟩
    have hmk : m < ksi.length := by simp at hD; omega
    rw [hm] at hcp2 hal
    obtain ⟨bk, csk, hbk, hsk, hIk⟩ := hiat m ksi[m] (by simp [hmk])
    subst hbk
    generalize hxk : ksi[m] = xk at hIk
    obtain ⟨s2, ks2⟩ := xk
    obtain ⟨kv2, rfl, hk2⟩ := hIk.inv
    obtain ⟨p2, c2, rfl, hlen2, hat2⟩ := hk2
    have hck := (kn.fr (fr6r.reserve 9)).see2 hsk
    simp only [W_skip, W_ops, W_sops, W_seq, W_block, W_exit, W_ret, W_cond, U_seq, U_seq_exit, U_seq_ret, U_blk, U_blk_ret, U_blk_exit, again_exit', again_ret', again_normal', U_ret1, S_nil, S_gd, S_ld, S_lda, S_fld, S_len, S_ix, S_call, S_callv, S_func, S_move, S_assign, S_pick, S_bin, S_not, gdo_tt, gdo_ff, gdo_tf, gdo_ft, br_true, br_false, fin_val, ldV_ptr, ldaV_ptr, fldV_ptr, lenV_slice, not_bool, pick_true, pick_false, b_lss, b_leq, b_gtr, b_geq, b_eql, b_neq, b_add, b_sub, lift1_some, ev_tmp, ev_const, eput_app, eput_none, List.map_cons, List.map_nil, Nat.reduceEqDiff, Nat.succ_ne_self, Nat.reduceBEq, ↓reduceIte, reduceIte, decide_true, decide_false, Bool.not_true, Bool.not_false, if_true_left, Nat.one_ne_zero, Nat.zero_ne_one, not_true_eq_false, not_false_eq_true, S_nilc, nilc_ptr, S_ext, ext0, ext1, h2, h4, h10, ixV_at hi', hcp2, own_add, own_cell 1 gt6s rfl rfl, ixV_at hmk, hck]
    have hlt6 : H1.nxt < ((H6.reserve 15).reserve 9).nxt := by simp only [Heap.reserve]; omega
    refine S_store (id := H1.nxt) (off := 0) (by simp only [W_skip, W_ops, W_sops, W_seq, W_block, W_exit, W_ret, W_cond, U_seq, U_seq_exit, U_seq_ret, U_blk, U_blk_ret, U_blk_exit, again_exit', again_ret', again_normal', U_ret1, S_nil, S_gd, S_ld, S_lda, S_fld, S_len, S_ix, S_call, S_callv, S_func, S_move, S_assign, S_pick, S_bin, S_not, gdo_tt, gdo_ff, gdo_tf, gdo_ft, br_true, br_false, fin_val, ldV_ptr, ldaV_ptr, fldV_ptr, lenV_slice, not_bool, pick_true, pick_false, b_lss, b_leq, b_gtr, b_geq, b_eql, b_neq, b_add, b_sub, lift1_some, ev_tmp, ev_const, eput_app, eput_none, List.map_cons, List.map_nil, Nat.reduceEqDiff, Nat.succ_ne_self, Nat.reduceBEq, ↓reduceIte, reduceIte, decide_true, decide_false, Bool.not_true, Bool.not_false, if_true_left, Nat.one_ne_zero, Nat.zero_ne_one, not_true_eq_false, not_false_eq_true, S_nilc, nilc_ptr, S_ext, ext0, ext1, h4]) (by simp only [W_skip, W_ops, W_sops, W_seq, W_block, W_exit, W_ret, W_cond, U_seq, U_seq_exit, U_seq_ret, U_blk, U_blk_ret, U_blk_exit, again_exit', again_ret', again_normal', U_ret1, S_nil, S_gd, S_ld, S_lda, S_fld, S_len, S_ix, S_call, S_callv, S_func, S_move, S_assign, S_pick, S_bin, S_not, gdo_tt, gdo_ff, gdo_tf, gdo_ft, br_true, br_false, fin_val, ldV_ptr, ldaV_ptr, fldV_ptr, lenV_slice, not_bool, pick_true, pick_false, b_lss, b_leq, b_gtr, b_geq, b_eql, b_neq, b_add, b_sub, lift1_some, ev_tmp, ev_const, eput_app, eput_none, List.map_cons, List.map_nil, Nat.reduceEqDiff, Nat.succ_ne_self, Nat.reduceBEq, ↓reduceIte, reduceIte, decide_true, decide_false, Bool.not_true, Bool.not_false, if_true_left, Nat.one_ne_zero, Nat.zero_ne_one, not_true_eq_false, not_false_eq_true, S_nilc, nilc_ptr, S_ext, ext0, ext1]; rfl) hlt6 gt6s (by simp) (by simp) (by simp only [W_skip, W_ops, W_sops, W_seq, W_block, W_exit, W_ret, W_cond, U_seq, U_seq_exit, U_seq_ret, U_blk, U_blk_ret, U_blk_exit, again_exit', again_ret', again_normal', U_ret1, S_nil, S_gd, S_ld, S_lda, S_fld, S_len, S_ix, S_call, S_callv, S_func, S_move, S_assign, S_pick, S_bin, S_not, gdo_tt, gdo_ff, gdo_tf, gdo_ft, br_true, br_false, fin_val, ldV_ptr, ldaV_ptr, fldV_ptr, lenV_slice, not_bool, pick_true, pick_false, b_lss, b_leq, b_gtr, b_geq, b_eql, b_neq, b_add, b_sub, lift1_some, ev_tmp, ev_const, eput_app, eput_none, List.map_cons, List.map_nil, Nat.reduceEqDiff, Nat.succ_ne_self, Nat.reduceBEq, ↓reduceIte, reduceIte, decide_true, decide_false, Bool.not_true, Bool.not_false, if_true_left, Nat.one_ne_zero, Nat.zero_ne_one, not_true_eq_false, not_false_eq_true, S_nilc, nilc_ptr, S_ext, ext0, ext1]; simp [Value.cells, Value.oneCell']) fun H7 n7 o7 g7 => ?_
    simp only [W_skip, W_ops, W_sops, W_seq, W_block, W_exit, W_ret, W_cond, U_seq, U_seq_exit, U_seq_ret, U_blk, U_blk_ret, U_blk_exit, again_exit', again_ret', again_normal', U_ret1, S_nil, S_gd, S_ld, S_lda, S_fld, S_len, S_ix, S_call, S_callv, S_func, S_move, S_assign, S_pick, S_bin, S_not, gdo_tt, gdo_ff, gdo_tf, gdo_ft, br_true, br_false, fin_val, ldV_ptr, ldaV_ptr, fldV_ptr, lenV_slice, not_bool, pick_true, pick_false, b_lss, b_leq, b_gtr, b_geq, b_eql, b_neq, b_add, b_sub, lift1_some, ev_tmp, ev_const, eput_app, eput_none, List.map_cons, List.map_nil, Nat.reduceEqDiff, Nat.succ_ne_self, Nat.reduceBEq, ↓reduceIte, reduceIte, decide_true, decide_false, Bool.not_true, Bool.not_false, if_true_left, Nat.one_ne_zero, Nat.zero_ne_one, not_true_eq_false, not_false_eq_true, S_nilc, nilc_ptr, S_ext, ext0, ext1, Value.cells, putL, h2, h4, h10] at g7 ⊢
    refine ⟨pth.length + 1 - (i + 1), by omega, i + 1, s2, ks2, .slice p2 ks2.length c2, o ++ [si], false, rfl, hi', trivial, trivial, by rw [wrap_succ (by omega)], ?_, by simp [hol], ?_, g7, hIk, ?_⟩
    · refine out6.keep (by rw [n7]; simp only [Heap.reserve]; omega) fun j h1 h2 => ?_
      rw [o7 j (by omega)]; rfl
    · exact ⟨by rw [n7]; simp only [Heap.reserve]; omega, fun j hj hq => by rw [o7 j hq]; exact fq6.old j hj hq⟩
    · rw [hal, along_in hs0 hmk, hxk]
      cases along (T.mk s2 ks2) (List.drop (i + 1) pth) <;> simp
  · simp only [W_skip, W_ops, W_sops, W_seq, W_block, W_exit, W_ret, W_cond, U_seq, U_seq_exit, U_seq_ret, U_blk, U_blk_ret, U_blk_exit, again_exit', again_ret', again_normal', U_ret1, S_nil, S_gd, S_ld, S_lda, S_fld, S_len, S_ix, S_call, S_callv, S_func, S_move, S_assign, S_pick, S_bin, S_not, gdo_tt, gdo_ff, gdo_tf, gdo_ft, br_true, br_false, fin_val, ldV_ptr, ldaV_ptr, fldV_ptr, lenV_slice, not_bool, pick_true, pick_false, b_lss, b_leq, b_gtr, b_geq, b_eql, b_neq, b_add, b_sub, lift1_some, ev_tmp, ev_const, eput_app, eput_none, List.map_cons, List.map_nil, Nat.reduceEqDiff, Nat.succ_ne_self, Nat.reduceBEq, ↓reduceIte, reduceIte, decide_true, decide_false, Bool.not_true, Bool.not_false, if_true_left, Nat.one_ne_zero, Nat.zero_ne_one, not_true_eq_false, not_false_eq_true, S_nilc, nilc_ptr, S_ext, ext0, ext1, f3_2]
    refine ⟨rfl, Nat.zero_le _, trivial, trivial, rfl, .inl ⟨rfl, rfl⟩, rfl, ⟨Nat.le_refl _, fun _ _ _ => rfl⟩, gB3, ht, ?_⟩
    rw [htt]
    cases h : along (T.mk s ks) (List.drop 0 pth) <;> simp_all

set_option maxRecDepth 20000 in
theorem along30 {H : Heap} {v w : Value} {cs : List Value} {a : Au} {t : T} {pth : List Int} (hv : IsAu H.get v a) (ht : IsT H.get cs t) (hp : IsInts H.get w pth) (hsz : t.size < 4294967296) :
    SC Tryz.prog 30 #[v, .agg cs.toArray, w] H (AlongPost a t pth H) := by
  refine SC_of_W fc30 (by simp) fun hwf => ?_
  have kn := Kn.self hwf
  have hv0 := hv
  have ht0 := ht
  obtain ⟨rv, mv, rfl, hr, hm⟩ := hv
  have hr0 := hr
  obtain ⟨pr, cr, rfl, hrlen, hrat⟩ := hr
  obtain ⟨pm, cm, rfl, hmlen, hmat⟩ := hm
  obtain ⟨pp, cp, rfl, hplen, hpat⟩ := hp
  generalize htt : t = t0 at ht
  obtain ⟨s, ks⟩ := t0
  obtain ⟨kv, rfl, hk⟩ := ht.inv
  obtain ⟨p, c, rfl, hlen, hat⟩ := hk
  unfold c30
  simp only [W_skip, W_ops, W_sops, W_seq, W_block, W_exit, W_ret, W_cond, U_seq, U_seq_exit, U_seq_ret, U_blk, U_blk_ret, U_blk_exit, again_exit', again_ret', again_normal', U_ret1, S_nil, S_gd, S_ld, S_lda, S_fld, S_len, S_ix, S_call, S_callv, S_func, S_move, S_assign, S_pick, S_bin, S_not, gdo_tt, gdo_ff, gdo_tf, gdo_ft, br_true, br_false, fin_val, ldV_ptr, ldaV_ptr, fldV_ptr, lenV_slice, not_bool, pick_true, pick_false, b_lss, b_leq, b_gtr, b_geq, b_eql, b_neq, b_add, b_sub, lift1_some, ev_tmp, ev_const, eput_app, eput_none, List.map_cons, List.map_nil, Nat.reduceEqDiff, Nat.succ_ne_self, Nat.reduceBEq, ↓reduceIte, reduceIte, decide_true, decide_false, Bool.not_true, Bool.not_false, if_true_left, Nat.one_ne_zero, Nat.zero_ne_one, not_true_eq_false, not_false_eq_true, S_nilc, nilc_ptr, S_ext, ext0, ext1]
  refine S_box fun H1 f1 n1 g1 => ?_
  refine S_box fun HB f2 n2 gB => ?_
  simp only [W_skip, W_ops, W_sops, W_seq, W_block, W_exit, W_ret, W_cond, U_seq, U_seq_exit, U_seq_ret, U_blk, U_blk_ret, U_blk_exit, again_exit', again_ret', again_normal', U_ret1, S_nil, S_gd, S_ld, S_lda, S_fld, S_len, S_ix, S_call, S_callv, S_func, S_move, S_assign, S_pick, S_bin, S_not, gdo_tt, gdo_ff, gdo_tf, gdo_ft, br_true, br_false, fin_val, ldV_ptr, ldaV_ptr, fldV_ptr, lenV_slice, not_bool, pick_true, pick_false, b_lss, b_leq, b_gtr, b_geq, b_eql, b_neq, b_add, b_sub, lift1_some, ev_tmp, ev_const, eput_app, eput_none, List.map_cons, List.map_nil, Nat.reduceEqDiff, Nat.succ_ne_self, Nat.reduceBEq, ↓reduceIte, reduceIte, decide_true, decide_false, Bool.not_true, Bool.not_false, if_true_left, Nat.one_ne_zero, Nat.zero_ne_one, not_true_eq_false, not_false_eq_true, S_nilc, nilc_ptr, S_ext, ext0, ext1, f3_0, f3_1, Value.cells] at g1 gB ⊢
  have g1' : HB.get H.nxt = _ := (f2.old _ (by omega)).trans g1
  have fB := f1.trans f2
  simp only [W_skip, W_ops, W_sops, W_seq, W_block, W_exit, W_ret, W_cond, U_seq, U_seq_exit, U_seq_ret, U_blk, U_blk_ret, U_blk_exit, again_exit', again_ret', again_normal', U_ret1, S_nil, S_gd, S_ld, S_lda, S_fld, S_len, S_ix, S_call, S_callv, S_func, S_move, S_assign, S_pick, S_bin, S_not, gdo_tt, gdo_ff, gdo_tf, gdo_ft, br_true, br_false, fin_val, ldV_ptr, ldaV_ptr, fldV_ptr, lenV_slice, not_bool, pick_true, pick_false, b_lss, b_leq, b_gtr, b_geq, b_eql, b_neq, b_add, b_sub, lift1_some, ev_tmp, ev_const, eput_app, eput_none, List.map_cons, List.map_nil, Nat.reduceEqDiff, Nat.succ_ne_self, Nat.reduceBEq, ↓reduceIte, reduceIte, decide_true, decide_false, Bool.not_true, Bool.not_false, if_true_left, Nat.one_ne_zero, Nat.zero_ne_one, not_true_eq_false, not_false_eq_true, S_nilc, nilc_ptr, S_ext, ext0, ext1, own_cells3 g1' rfl rfl rfl]
  refine call_then (check75 (hv0.mono (fB.sub hwf))) ?_
  rintro _ H2 ⟨hr2, f3a⟩ wf2
  subst hr2
  have fr2 := fB.trans f3a
  rw [cont_app]
  simp only [W_skip, W_ops, W_sops, W_seq, W_block, W_exit, W_ret, W_cond, U_seq, U_seq_exit, U_seq_ret, U_blk, U_blk_ret, U_blk_exit, again_exit', again_ret', again_normal', U_ret1, S_nil, S_gd, S_ld, S_lda, S_fld, S_len, S_ix, S_call, S_callv, S_func, S_move, S_assign, S_pick, S_bin, S_not, gdo_tt, gdo_ff, gdo_tf, gdo_ft, br_true, br_false, fin_val, ldV_ptr, ldaV_ptr, fldV_ptr, lenV_slice, not_bool, pick_true, pick_false, b_lss, b_leq, b_gtr, b_geq, b_eql, b_neq, b_add, b_sub, lift1_some, ev_tmp, ev_const, eput_app, eput_none, List.map_cons, List.map_nil, Nat.reduceEqDiff, Nat.succ_ne_self, Nat.reduceBEq, ↓reduceIte, reduceIte, decide_true, decide_false, Bool.not_true, Bool.not_false, if_true_left, Nat.one_ne_zero, Nat.zero_ne_one, not_true_eq_false, not_false_eq_true, S_nilc, nilc_ptr, S_ext, ext0, ext1]
  refine br_of ?_ ?_ <;> intro hE
  · simp only [W_skip, W_ops, W_sops, W_seq, W_block, W_exit, W_ret, W_cond, U_seq, U_seq_exit, U_seq_ret, U_blk, U_blk_ret, U_blk_exit, again_exit', again_ret', again_normal', U_ret1, S_nil, S_gd, S_ld, S_lda, S_fld, S_len, S_ix, S_call, S_callv, S_func, S_move, S_assign, S_pick, S_bin, S_not, gdo_tt, gdo_ff, gdo_tf, gdo_ft, br_true, br_false, fin_val, ldV_ptr, ldaV_ptr, fldV_ptr, lenV_slice, not_bool, pick_true, pick_false, b_lss, b_leq, b_gtr, b_geq, b_eql, b_neq, b_add, b_sub, lift1_some, ev_tmp, ev_const, eput_app, eput_none, List.map_cons, List.map_nil, Nat.reduceEqDiff, Nat.succ_ne_self, Nat.reduceBEq, ↓reduceIte, reduceIte, decide_true, decide_false, Bool.not_true, Bool.not_false, if_true_left, Nat.one_ne_zero, Nat.zero_ne_one, not_true_eq_false, not_false_eq_true, S_nilc, nilc_ptr, S_ext, ext0, ext1, U_ret2]
    have hok : a.ok = false := by
      cases h : a.ok with
      | false => rfl
      | true => simp [err75, h] at hE
    have e1 : err75 a = 10 := by simp [err75, hok]
    rw [e1]
    exact along_err (by simp [err59, hok]) (by decide) fr2
  have hok : a.ok = true := by
    cases h : a.ok with
    | true => rfl
    | false => simp [err75, h] at hE
  simp only [W_skip, W_ops, W_sops, W_seq, W_block, W_exit, W_ret, W_cond, U_seq, U_seq_exit, U_seq_ret, U_blk, U_blk_ret, U_blk_exit, again_exit', again_ret', again_normal', U_ret1, S_nil, S_gd, S_ld, S_lda, S_fld, S_len, S_ix, S_call, S_callv, S_func, S_move, S_assign, S_pick, S_bin, S_not, gdo_tt, gdo_ff, gdo_tf, gdo_ft, br_true, br_false, fin_val, ldV_ptr, ldaV_ptr, fldV_ptr, lenV_slice, not_bool, pick_true, pick_false, b_lss, b_leq, b_gtr, b_geq, b_eql, b_neq, b_add, b_sub, lift1_some, ev_tmp, ev_const, eput_app, eput_none, List.map_cons, List.map_nil, Nat.reduceEqDiff, Nat.succ_ne_self, Nat.reduceBEq, ↓reduceIte, reduceIte, decide_true, decide_false, Bool.not_true, Bool.not_false, if_true_left, Nat.one_ne_zero, Nat.zero_ne_one, not_true_eq_false, not_false_eq_true, S_nilc, nilc_ptr, S_ext, ext0, ext1, own_add, own_cell 0 ((f3a.old _ (by omega)).trans g1') rfl rfl, own_cells2 ((f3a.old _ (by omega)).trans gB) rfl rfl]
  refine call_then (check76 (t := .mk s ks) (hr0.mono (fr2.sub hwf)) (ht.mono (fr2.sub hwf)) (htt ▸ hsz)) ?_
  rintro _ H3 ⟨hr3, f3b⟩ wf3
  subst hr3
  have f3 := f3a.trans f3b
  have fr3 := fB.trans f3
  have gB3 : H3.get H1.nxt = _ := (f3.old _ (by omega)).trans gB
  rw [cont_app, ← htt]
  have hrk := (ok_iff.1 hok).1
  simp only [W_skip, W_ops, W_sops, W_seq, W_block, W_exit, W_ret, W_cond, U_seq, U_seq_exit, U_seq_ret, U_blk, U_blk_ret, U_blk_exit, again_exit', again_ret', again_normal', U_ret1, S_nil, S_gd, S_ld, S_lda, S_fld, S_len, S_ix, S_call, S_callv, S_func, S_move, S_assign, S_pick, S_bin, S_not, gdo_tt, gdo_ff, gdo_tf, gdo_ft, br_true, br_false, fin_val, ldV_ptr, ldaV_ptr, fldV_ptr, lenV_slice, not_bool, pick_true, pick_false, b_lss, b_leq, b_gtr, b_geq, b_eql, b_neq, b_add, b_sub, lift1_some, ev_tmp, ev_const, eput_app, eput_none, List.map_cons, List.map_nil, Nat.reduceEqDiff, Nat.succ_ne_self, Nat.reduceBEq, ↓reduceIte, reduceIte, decide_true, decide_false, Bool.not_true, Bool.not_false, if_true_left, Nat.one_ne_zero, Nat.zero_ne_one, not_true_eq_false, not_false_eq_true, S_nilc, nilc_ptr, S_ext, ext0, ext1]
  refine br_of ?_ ?_ <;> intro hE2
  · simp only [W_skip, W_ops, W_sops, W_seq, W_block, W_exit, W_ret, W_cond, U_seq, U_seq_exit, U_seq_ret, U_blk, U_blk_ret, U_blk_exit, again_exit', again_ret', again_normal', U_ret1, S_nil, S_gd, S_ld, S_lda, S_fld, S_len, S_ix, S_call, S_callv, S_func, S_move, S_assign, S_pick, S_bin, S_not, gdo_tt, gdo_ff, gdo_tf, gdo_ft, br_true, br_false, fin_val, ldV_ptr, ldaV_ptr, fldV_ptr, lenV_slice, not_bool, pick_true, pick_false, b_lss, b_leq, b_gtr, b_geq, b_eql, b_neq, b_add, b_sub, lift1_some, ev_tmp, ev_const, eput_app, eput_none, List.map_cons, List.map_nil, Nat.reduceEqDiff, Nat.succ_ne_self, Nat.reduceBEq, ↓reduceIte, reduceIte, decide_true, decide_false, Bool.not_true, Bool.not_false, if_true_left, Nat.one_ne_zero, Nat.zero_ne_one, not_true_eq_false, not_false_eq_true, S_nilc, nilc_ptr, S_ext, ext0, ext1, U_ret2]
    have htr : treeOK a.ranks t = false := by
      cases h : treeOK a.ranks t with
      | false => rfl
      | true => simp [err76, hrk, h] at hE2
    exact along_err (by simp [err59, hok, htr]) (by decide) fr3
  have he : err59 a t = 0 := by
    have htr : treeOK a.ranks t = true := by
      cases h : treeOK a.ranks t with
      | true => rfl
      | false => simp [err76, hrk, h] at hE2
    simp [err59, hok, htr]
  simp only [W_skip, W_ops, W_sops, W_seq, W_block, W_exit, W_ret, W_cond, U_seq, U_seq_exit, U_seq_ret, U_blk, U_blk_ret, U_blk_exit, again_exit', again_ret', again_normal', U_ret1, S_nil, S_gd, S_ld, S_lda, S_fld, S_len, S_ix, S_call, S_callv, S_func, S_move, S_assign, S_pick, S_bin, S_not, gdo_tt, gdo_ff, gdo_tf, gdo_ft, br_true, br_false, fin_val, ldV_ptr, ldaV_ptr, fldV_ptr, lenV_slice, not_bool, pick_true, pick_false, b_lss, b_leq, b_gtr, b_geq, b_eql, b_neq, b_add, b_sub, lift1_some, ev_tmp, ev_const, eput_app, eput_none, List.map_cons, List.map_nil, Nat.reduceEqDiff, Nat.succ_ne_self, Nat.reduceBEq, ↓reduceIte, reduceIte, decide_true, decide_false, Bool.not_true, Bool.not_false, if_true_left, Nat.one_ne_zero, Nat.zero_ne_one, not_true_eq_false, not_false_eq_true, S_nilc, nilc_ptr, S_ext, ext0, ext1]
  have hlt1 : H1.nxt < H3.nxt := by have := f3.nxt; omega
  have hge1 : H.nxt ≤ H1.nxt := by omega
  refine W_loop (fun k g H4 => ∃ (i : Nat) (si : Int) (ksi : List T) (kvi : Value) (o : List Int) (f : Bool), k = pth.length + 1 - i ∧ i ≤ pth.length ∧ g 2 = .slice pp pth.length cp ∧ g 4 = .pointer (some ⟨H1.nxt, 0, none⟩) ∧ g 10 = .int .i64 (i : Nat) ∧
    OutIs H4 H3.nxt (g 9) o ∧ o.length = i ∧ Fq H1.nxt H3 H4 ∧ H4.get H1.nxt = some (.cells [.int .i64 si, kvi] 37 true f) ∧ IsT H.get [.int .i64 si, kvi] (.mk si ksi) ∧ along t pth = (along (.mk si ksi) (pth.drop i)).map (o ++ ·)) ?_ (pth.length + 1) ⟨0, s, ks, .slice p ks.length c, [], false, ?_⟩
  · rintro k g H4 ⟨i, si, ksi, kvi, o, f, rfl, hi, h2, h4, h10, ho, hol, fq, gt, hti, hal⟩
    obtain ⟨kvi', hkk, hki⟩ := hti.inv
    simp only [List.cons.injEq, and_true, true_and] at hkk
    subst hkk
    obtain ⟨pi, ci, rfl, hilen, hiat⟩ := hki
    have fr4 : Fr H H4 := ⟨Nat.le_trans fr3.nxt fq.nxt, fun j hj => by rw [fq.old j (by have := fr3.nxt; omega) (by omega)]; exact fr3.old j hj⟩
    simp only [W_skip, W_ops, W_sops, W_seq, W_block, W_exit, W_ret, W_cond, U_seq, U_seq_exit, U_seq_ret, U_blk, U_blk_ret, U_blk_exit, again_exit', again_ret', again_normal', U_ret1, S_nil, S_gd, S_ld, S_lda, S_fld, S_len, S_ix, S_call, S_callv, S_func, S_move, S_assign, S_pick, S_bin, S_not, gdo_tt, gdo_ff, gdo_tf, gdo_ft, br_true, br_false, fin_val, ldV_ptr, ldaV_ptr, fldV_ptr, lenV_slice, not_bool, pick_true, pick_false, b_lss, b_leq, b_gtr, b_geq, b_eql, b_neq, b_add, b_sub, lift1_some, ev_tmp, ev_const, eput_app, eput_none, List.map_cons, List.map_nil, Nat.reduceEqDiff, Nat.succ_ne_self, Nat.reduceBEq, ↓reduceIte, reduceIte, decide_true, decide_false, Bool.not_true, Bool.not_false, if_true_left, Nat.one_ne_zero, Nat.zero_ne_one, not_true_eq_false, not_false_eq_true, S_nilc, nilc_ptr, S_ext, ext0, ext1, h2, h4, h10, own_add, own_cell 0 gt rfl rfl]
    refine br_of ?_ ?_ <;> intro hA
    · simp only [W_skip, W_ops, W_sops, W_seq, W_block, W_exit, W_ret, W_cond, U_seq, U_seq_exit, U_seq_ret, U_blk, U_blk_ret, U_blk_exit, again_exit', again_ret', again_normal', U_ret1, S_nil, S_gd, S_ld, S_lda, S_fld, S_len, S_ix, S_call, S_callv, S_func, S_move, S_assign, S_pick, S_bin, S_not, gdo_tt, gdo_ff, gdo_tf, gdo_ft, br_true, br_false, fin_val, ldV_ptr, ldaV_ptr, fldV_ptr, lenV_slice, not_bool, pick_true, pick_false, b_lss, b_leq, b_gtr, b_geq, b_eql, b_neq, b_add, b_sub, lift1_some, ev_tmp, ev_const, eput_app, eput_none, List.map_cons, List.map_nil, Nat.reduceEqDiff, Nat.succ_ne_self, Nat.reduceBEq, ↓reduceIte, reduceIte, decide_true, decide_false, Bool.not_true, Bool.not_false, if_true_left, Nat.one_ne_zero, Nat.zero_ne_one, not_true_eq_false, not_false_eq_true, S_nilc, nilc_ptr, S_ext, ext0, ext1, U_ret2]
      exact along_bad he (by rw [hal, along_neg (by simpa using hA)]; rfl) fr4
    have hs0 : ¬ si < 0 := by simpa using hA
    simp only [W_skip, W_ops, W_sops, W_seq, W_block, W_exit, W_ret, W_cond, U_seq, U_seq_exit, U_seq_ret, U_blk, U_blk_ret, U_blk_exit, again_exit', again_ret', again_normal', U_ret1, S_nil, S_gd, S_ld, S_lda, S_fld, S_len, S_ix, S_call, S_callv, S_func, S_move, S_assign, S_pick, S_bin, S_not, gdo_tt, gdo_ff, gdo_tf, gdo_ft, br_true, br_false, fin_val, ldV_ptr, ldaV_ptr, fldV_ptr, lenV_slice, not_bool, pick_true, pick_false, b_lss, b_leq, b_gtr, b_geq, b_eql, b_neq, b_add, b_sub, lift1_some, ev_tmp, ev_const, eput_app, eput_none, List.map_cons, List.map_nil, Nat.reduceEqDiff, Nat.succ_ne_self, Nat.reduceBEq, ↓reduceIte, reduceIte, decide_true, decide_false, Bool.not_true, Bool.not_false, if_true_left, Nat.one_ne_zero, Nat.zero_ne_one, not_true_eq_false, not_false_eq_true, S_nilc, nilc_ptr, S_ext, ext0, ext1, h2, h4, h10, own_add, own_cell 0 gt rfl rfl]
    refine S_one ty26 rfl ty3 rfl rfl (by decide) (show (1 : Nat) ≤ 16777216 by omega) (by simp only [W_skip, W_ops, W_sops, W_seq, W_block, W_exit, W_ret, W_cond, U_seq, U_seq_exit, U_seq_ret, U_blk, U_blk_ret, U_blk_exit, again_exit', again_ret', again_normal', U_ret1, S_nil, S_gd, S_ld, S_lda, S_fld, S_len, S_ix, S_call, S_callv, S_func, S_move, S_assign, S_pick, S_bin, S_not, gdo_tt, gdo_ff, gdo_tf, gdo_ft, br_true, br_false, fin_val, ldV_ptr, ldaV_ptr, fldV_ptr, lenV_slice, not_bool, pick_true, pick_false, b_lss, b_leq, b_gtr, b_geq, b_eql, b_neq, b_add, b_sub, lift1_some, ev_tmp, ev_const, eput_app, eput_none, List.map_cons, List.map_nil, Nat.reduceEqDiff, Nat.succ_ne_self, Nat.reduceBEq, ↓reduceIte, reduceIte, decide_true, decide_false, Bool.not_true, Bool.not_false, if_true_left, Nat.one_ne_zero, Nat.zero_ne_one, not_true_eq_false, not_false_eq_true, S_nilc, nilc_ptr, S_ext, ext0, ext1]; rfl) fun H5 f5 n5 g5 => ?_
    simp only [W_skip, W_ops, W_sops, W_seq, W_block, W_exit, W_ret, W_cond, U_seq, U_seq_exit, U_seq_ret, U_blk, U_blk_ret, U_blk_exit, again_exit', again_ret', again_normal', U_ret1, S_nil, S_gd, S_ld, S_lda, S_fld, S_len, S_ix, S_call, S_callv, S_func, S_move, S_assign, S_pick, S_bin, S_not, gdo_tt, gdo_ff, gdo_tf, gdo_ft, br_true, br_false, fin_val, ldV_ptr, ldaV_ptr, fldV_ptr, lenV_slice, not_bool, pick_true, pick_false, b_lss, b_leq, b_gtr, b_geq, b_eql, b_neq, b_add, b_sub, lift1_some, ev_tmp, ev_const, eput_app, eput_none, List.map_cons, List.map_nil, Nat.reduceEqDiff, Nat.succ_ne_self, Nat.reduceBEq, ↓reduceIte, reduceIte, decide_true, decide_false, Bool.not_true, Bool.not_false, if_true_left, Nat.one_ne_zero, Nat.zero_ne_one, not_true_eq_false, not_false_eq_true, S_nilc, nilc_ptr, S_ext, ext0, ext1, Value.cells] at g5 ⊢
    have h34 := fq.nxt
    have ho5 : OutIs H5 H3.nxt (g 9) o := ho.keep f5.nxt fun j _ hj => f5.old j hj
    have gt5 : H5.get H1.nxt = _ := (f5.old _ (by omega)).trans gt
    refine S_push (a := si) ho5 (by simp only [W_skip, W_ops, W_sops, W_seq, W_block, W_exit, W_ret, W_cond, U_seq, U_seq_exit, U_seq_ret, U_blk, U_blk_ret, U_blk_exit, again_exit', again_ret', again_normal', U_ret1, S_nil, S_gd, S_ld, S_lda, S_fld, S_len, S_ix, S_call, S_callv, S_func, S_move, S_assign, S_pick, S_bin, S_not, gdo_tt, gdo_ff, gdo_tf, gdo_ft, br_true, br_false, fin_val, ldV_ptr, ldaV_ptr, fldV_ptr, lenV_slice, not_bool, pick_true, pick_false, b_lss, b_leq, b_gtr, b_geq, b_eql, b_neq, b_add, b_sub, lift1_some, ev_tmp, ev_const, eput_app, eput_none, List.map_cons, List.map_nil, Nat.reduceEqDiff, Nat.succ_ne_self, Nat.reduceBEq, ↓reduceIte, reduceIte, decide_true, decide_false, Bool.not_true, Bool.not_false, if_true_left, Nat.one_ne_zero, Nat.zero_ne_one, not_true_eq_false, not_false_eq_true, S_nilc, nilc_ptr, S_ext, ext0, ext1]) (by simp only [W_skip, W_ops, W_sops, W_seq, W_block, W_exit, W_ret, W_cond, U_seq, U_seq_exit, U_seq_ret, U_blk, U_blk_ret, U_blk_exit, again_exit', again_ret', again_normal', U_ret1, S_nil, S_gd, S_ld, S_lda, S_fld, S_len, S_ix, S_call, S_callv, S_func, S_move, S_assign, S_pick, S_bin, S_not, gdo_tt, gdo_ff, gdo_tf, gdo_ft, br_true, br_false, fin_val, ldV_ptr, ldaV_ptr, fldV_ptr, lenV_slice, not_bool, pick_true, pick_false, b_lss, b_leq, b_gtr, b_geq, b_eql, b_neq, b_add, b_sub, lift1_some, ev_tmp, ev_const, eput_app, eput_none, List.map_cons, List.map_nil, Nat.reduceEqDiff, Nat.succ_ne_self, Nat.reduceBEq, ↓reduceIte, reduceIte, decide_true, decide_false, Bool.not_true, Bool.not_false, if_true_left, Nat.one_ne_zero, Nat.zero_ne_one, not_true_eq_false, not_false_eq_true, S_nilc, nilc_ptr, S_ext, ext0, ext1]) g5 (by omega) (by omega) fun H6 ov n6 o6 out6 => ?_
    have gt6 : H6.get H1.nxt = _ := (o6 _ (by omega)).trans gt5
    have fq6 : Fq H1.nxt H3 H6 := ⟨by omega, fun j hj hq => by rw [o6 j hj, f5.old j (by omega)]; exact fq.old j hj hq⟩
    have fr6 : Fr H H6 := ⟨Nat.le_trans fr3.nxt fq6.nxt, fun j hj => by rw [fq6.old j (by have := fr3.nxt; omega) (by omega)]; exact fr3.old j hj⟩
    simp only [W_skip, W_ops, W_sops, W_seq, W_block, W_exit, W_ret, W_cond, U_seq, U_seq_exit, U_seq_ret, U_blk, U_blk_ret, U_blk_exit, again_exit', again_ret', again_normal', U_ret1, S_nil, S_gd, S_ld, S_lda, S_fld, S_len, S_ix, S_call, S_callv, S_func, S_move, S_assign, S_pick, S_bin, S_not, gdo_tt, gdo_ff, gdo_tf, gdo_ft, br_true, br_false, fin_val, ldV_ptr, ldaV_ptr, fldV_ptr, lenV_slice, not_bool, pick_true, pick_false, b_lss, b_leq, b_gtr, b_geq, b_eql, b_neq, b_add, b_sub, lift1_some, ev_tmp, ev_const, eput_app, eput_none, List.map_cons, List.map_nil, Nat.reduceEqDiff, Nat.succ_ne_self, Nat.reduceBEq, ↓reduceIte, reduceIte, decide_true, decide_false, Bool.not_true, Bool.not_false, if_true_left, Nat.one_ne_zero, Nat.zero_ne_one, not_true_eq_false, not_false_eq_true, S_nilc, nilc_ptr, S_ext, ext0, ext1, h2, h4, h10]
    refine br_of ?_ ?_ <;> intro hB
    · have hi' : i = pth.length := by simp at hB; omega
      subst hi'
      rw [List.drop_length, along_nil hs0] at hal
      simp only [W_skip, W_ops, W_sops, W_seq, W_block, W_exit, W_ret, W_cond, U_seq, U_seq_exit, U_seq_ret, U_blk, U_blk_ret, U_blk_exit, again_exit', again_ret', again_normal', U_ret1, S_nil, S_gd, S_ld, S_lda, S_fld, S_len, S_ix, S_call, S_callv, S_func, S_move, S_assign, S_pick, S_bin, S_not, gdo_tt, gdo_ff, gdo_tf, gdo_ft, br_true, br_false, fin_val, ldV_ptr, ldaV_ptr, fldV_ptr, lenV_slice, not_bool, pick_true, pick_false, b_lss, b_leq, b_gtr, b_geq, b_eql, b_neq, b_add, b_sub, lift1_some, ev_tmp, ev_const, eput_app, eput_none, List.map_cons, List.map_nil, Nat.reduceEqDiff, Nat.succ_ne_self, Nat.reduceBEq, ↓reduceIte, reduceIte, decide_true, decide_false, Bool.not_true, Bool.not_false, if_true_left, Nat.one_ne_zero, Nat.zero_ne_one, not_true_eq_false, not_false_eq_true, S_nilc, nilc_ptr, S_ext, ext0, ext1, U_ret2]
      exact along_good he hal (out6.low (by have := fr3.nxt; omega)) fr6
    have hi' : i < pth.length := by simp at hB; omega
    obtain ⟨bp, csp, rfl, hsp, hIp⟩ := hpat i pth[i] (by simp [hi'])
    cases hIp
    have fr6r := fr6.reserve 15
    have hcp := (kn.fr fr6r).see1 hsp
    have gt6r : (H6.reserve 15).get H1.nxt = _ := gt6
    rw [drop_cons hi'] at hal
    simp only [W_skip, W_ops, W_sops, W_seq, W_block, W_exit, W_ret, W_cond, U_seq, U_seq_exit, U_seq_ret, U_blk, U_blk_ret, U_blk_exit, again_exit', again_ret', again_normal', U_ret1, S_nil, S_gd, S_ld, S_lda, S_fld, S_len, S_ix, S_call, S_callv, S_func, S_move, S_assign, S_pick, S_bin, S_not, gdo_tt, gdo_ff, gdo_tf, gdo_ft, br_true, br_false, fin_val, ldV_ptr, ldaV_ptr, fldV_ptr, lenV_slice, not_bool, pick_true, pick_false, b_lss, b_leq, b_gtr, b_geq, b_eql, b_neq, b_add, b_sub, lift1_some, ev_tmp, ev_const, eput_app, eput_none, List.map_cons, List.map_nil, Nat.reduceEqDiff, Nat.succ_ne_self, Nat.reduceBEq, ↓reduceIte, reduceIte, decide_true, decide_false, Bool.not_true, Bool.not_false, if_true_left, Nat.one_ne_zero, Nat.zero_ne_one, not_true_eq_false, not_false_eq_true, S_nilc, nilc_ptr, S_ext, ext0, ext1, h2, h4, h10, ixV_at hi', hcp]
    refine gdo_of ?_ ?_ <;> intro hC
    · simp only [W_skip, W_ops, W_sops, W_seq, W_block, W_exit, W_ret, W_cond, U_seq, U_seq_exit, U_seq_ret, U_blk, U_blk_ret, U_blk_exit, again_exit', again_ret', again_normal', U_ret1, S_nil, S_gd, S_ld, S_lda, S_fld, S_len, S_ix, S_call, S_callv, S_func, S_move, S_assign, S_pick, S_bin, S_not, gdo_tt, gdo_ff, gdo_tf, gdo_ft, br_true, br_false, fin_val, ldV_ptr, ldaV_ptr, fldV_ptr, lenV_slice, not_bool, pick_true, pick_false, b_lss, b_leq, b_gtr, b_geq, b_eql, b_neq, b_add, b_sub, lift1_some, ev_tmp, ev_const, eput_app, eput_none, List.map_cons, List.map_nil, Nat.reduceEqDiff, Nat.succ_ne_self, Nat.reduceBEq, ↓reduceIte, reduceIte, decide_true, decide_false, Bool.not_true, Bool.not_false, if_true_left, Nat.one_ne_zero, Nat.zero_ne_one, not_true_eq_false, not_false_eq_true, S_nilc, nilc_ptr, S_ext, ext0, ext1, hC, U_ret2]
      exact along_bad he (by rw [hal, along_out (.inl (by simpa using hC))]; rfl) fr6r
    simp only [W_skip, W_ops, W_sops, W_seq, W_block, W_exit, W_ret, W_cond, U_seq, U_seq_exit, U_seq_ret, U_blk, U_blk_ret, U_blk_exit, again_exit', again_ret', again_normal', U_ret1, S_nil, S_gd, S_ld, S_lda, S_fld, S_len, S_ix, S_call, S_callv, S_func, S_move, S_assign, S_pick, S_bin, S_not, gdo_tt, gdo_ff, gdo_tf, gdo_ft, br_true, br_false, fin_val, ldV_ptr, ldaV_ptr, fldV_ptr, lenV_slice, not_bool, pick_true, pick_false, b_lss, b_leq, b_gtr, b_geq, b_eql, b_neq, b_add, b_sub, lift1_some, ev_tmp, ev_const, eput_app, eput_none, List.map_cons, List.map_nil, Nat.reduceEqDiff, Nat.succ_ne_self, Nat.reduceBEq, ↓reduceIte, reduceIte, decide_true, decide_false, Bool.not_true, Bool.not_false, if_true_left, Nat.one_ne_zero, Nat.zero_ne_one, not_true_eq_false, not_false_eq_true, S_nilc, nilc_ptr, S_ext, ext0, ext1, hC, h2, h4, h10, ixV_at hi', hcp, own_add, own_cell 1 gt6r rfl rfl]
    refine br_of ?_ ?_ <;> intro hD
    · simp only [W_skip, W_ops, W_sops, W_seq, W_block, W_exit, W_ret, W_cond, U_seq, U_seq_exit, U_seq_ret, U_blk, U_blk_ret, U_blk_exit, again_exit', again_ret', again_normal', U_ret1, S_nil, S_gd, S_ld, S_lda, S_fld, S_len, S_ix, S_call, S_callv, S_func, S_move, S_assign, S_pick, S_bin, S_not, gdo_tt, gdo_ff, gdo_tf, gdo_ft, br_true, br_false, fin_val, ldV_ptr, ldaV_ptr, fldV_ptr, lenV_slice, not_bool, pick_true, pick_false, b_lss, b_leq, b_gtr, b_geq, b_eql, b_neq, b_add, b_sub, lift1_some, ev_tmp, ev_const, eput_app, eput_none, List.map_cons, List.map_nil, Nat.reduceEqDiff, Nat.succ_ne_self, Nat.reduceBEq, ↓reduceIte, reduceIte, decide_true, decide_false, Bool.not_true, Bool.not_false, if_true_left, Nat.one_ne_zero, Nat.zero_ne_one, not_true_eq_false, not_false_eq_true, S_nilc, nilc_ptr, S_ext, ext0, ext1, U_ret2]
      exact along_bad he (by rw [hal, along_out (.inr (by simpa using hD))]; rfl) fr6r
    have gt6s : ((H6.reserve 15).reserve 9).get H1.nxt = _ := gt6
    have hcp2 := (kn.fr (fr6r.reserve 9)).see1 hsp
    obtain ⟨m, hm⟩ : ∃ m : Nat, pth[i] = m := ⟨pth[i].toNat, by simp at hC; omega⟩
    have hmk : m < ksi.length := by simp at hD; omega
    rw [hm] at hcp2 hal
    obtain ⟨bk, csk, hbk, hsk, hIk⟩ := hiat m ksi[m] (by simp [hmk])
    subst hbk
    generalize hxk : ksi[m] = xk at hIk
    obtain ⟨s2, ks2⟩ := xk
    obtain ⟨kv2, rfl, hk2⟩ := hIk.inv
    obtain ⟨p2, c2, rfl, hlen2, hat2⟩ := hk2
    have hck := (kn.fr (fr6r.reserve 9)).see2 hsk
    simp only [W_skip, W_ops, W_sops, W_seq, W_block, W_exit, W_ret, W_cond, U_seq, U_seq_exit, U_seq_ret, U_blk, U_blk_ret, U_blk_exit, again_exit', again_ret', again_normal', U_ret1, S_nil, S_gd, S_ld, S_lda, S_fld, S_len, S_ix, S_call, S_callv, S_func, S_move, S_assign, S_pick, S_bin, S_not, gdo_tt, gdo_ff, gdo_tf, gdo_ft, br_true, br_false, fin_val, ldV_ptr, ldaV_ptr, fldV_ptr, lenV_slice, not_bool, pick_true, pick_false, b_lss, b_leq, b_gtr, b_geq, b_eql, b_neq, b_add, b_sub, lift1_some, ev_tmp, ev_const, eput_app, eput_none, List.map_cons, List.map_nil, Nat.reduceEqDiff, Nat.succ_ne_self, Nat.reduceBEq, ↓reduceIte, reduceIte, decide_true, decide_false, Bool.not_true, Bool.not_false, if_true_left, Nat.one_ne_zero, Nat.zero_ne_one, not_true_eq_false, not_false_eq_true, S_nilc, nilc_ptr, S_ext, ext0, ext1, h2, h4, h10, ixV_at hi', hcp2, own_add, own_cell 1 gt6s rfl rfl, ixV_at hmk, hck]
    have hlt6 : H1.nxt < ((H6.reserve 15).reserve 9).nxt := by simp only [Heap.reserve]; omega
    refine S_store (id := H1.nxt) (off := 0) (by simp only [W_skip, W_ops, W_sops, W_seq, W_block, W_exit, W_ret, W_cond, U_seq, U_seq_exit, U_seq_ret, U_blk, U_blk_ret, U_blk_exit, again_exit', again_ret', again_normal', U_ret1, S_nil, S_gd, S_ld, S_lda, S_fld, S_len, S_ix, S_call, S_callv, S_func, S_move, S_assign, S_pick, S_bin, S_not, gdo_tt, gdo_ff, gdo_tf, gdo_ft, br_true, br_false, fin_val, ldV_ptr, ldaV_ptr, fldV_ptr, lenV_slice, not_bool, pick_true, pick_false, b_lss, b_leq, b_gtr, b_geq, b_eql, b_neq, b_add, b_sub, lift1_some, ev_tmp, ev_const, eput_app, eput_none, List.map_cons, List.map_nil, Nat.reduceEqDiff, Nat.succ_ne_self, Nat.reduceBEq, ↓reduceIte, reduceIte, decide_true, decide_false, Bool.not_true, Bool.not_false, if_true_left, Nat.one_ne_zero, Nat.zero_ne_one, not_true_eq_false, not_false_eq_true, S_nilc, nilc_ptr, S_ext, ext0, ext1, h4]) (by simp only [W_skip, W_ops, W_sops, W_seq, W_block, W_exit, W_ret, W_cond, U_seq, U_seq_exit, U_seq_ret, U_blk, U_blk_ret, U_blk_exit, again_exit', again_ret', again_normal', U_ret1, S_nil, S_gd, S_ld, S_lda, S_fld, S_len, S_ix, S_call, S_callv, S_func, S_move, S_assign, S_pick, S_bin, S_not, gdo_tt, gdo_ff, gdo_tf, gdo_ft, br_true, br_false, fin_val, ldV_ptr, ldaV_ptr, fldV_ptr, lenV_slice, not_bool, pick_true, pick_false, b_lss, b_leq, b_gtr, b_geq, b_eql, b_neq, b_add, b_sub, lift1_some, ev_tmp, ev_const, eput_app, eput_none, List.map_cons, List.map_nil, Nat.reduceEqDiff, Nat.succ_ne_self, Nat.reduceBEq, ↓reduceIte, reduceIte, decide_true, decide_false, Bool.not_true, Bool.not_false, if_true_left, Nat.one_ne_zero, Nat.zero_ne_one, not_true_eq_false, not_false_eq_true, S_nilc, nilc_ptr, S_ext, ext0, ext1]; rfl) hlt6 gt6s (by simp) (by simp) (by simp only [W_skip, W_ops, W_sops, W_seq, W_block, W_exit, W_ret, W_cond, U_seq, U_seq_exit, U_seq_ret, U_blk, U_blk_ret, U_blk_exit, again_exit', again_ret', again_normal', U_ret1, S_nil, S_gd, S_ld, S_lda, S_fld, S_len, S_ix, S_call, S_callv, S_func, S_move, S_assign, S_pick, S_bin, S_not, gdo_tt, gdo_ff, gdo_tf, gdo_ft, br_true, br_false, fin_val, ldV_ptr, ldaV_ptr, fldV_ptr, lenV_slice, not_bool, pick_true, pick_false, b_lss, b_leq, b_gtr, b_geq, b_eql, b_neq, b_add, b_sub, lift1_some, ev_tmp, ev_const, eput_app, eput_none, List.map_cons, List.map_nil, Nat.reduceEqDiff, Nat.succ_ne_self, Nat.reduceBEq, ↓reduceIte, reduceIte, decide_true, decide_false, Bool.not_true, Bool.not_false, if_true_left, Nat.one_ne_zero, Nat.zero_ne_one, not_true_eq_false, not_false_eq_true, S_nilc, nilc_ptr, S_ext, ext0, ext1]; simp [Value.cells, Value.oneCell']) fun H7 n7 o7 g7 => ?_
    simp only [W_skip, W_ops, W_sops, W_seq, W_block, W_exit, W_ret, W_cond, U_seq, U_seq_exit, U_seq_ret, U_blk, U_blk_ret, U_blk_exit, again_exit', again_ret', again_normal', U_ret1, S_nil, S_gd, S_ld, S_lda, S_fld, S_len, S_ix, S_call, S_callv, S_func, S_move, S_assign, S_pick, S_bin, S_not, gdo_tt, gdo_ff, gdo_tf, gdo_ft, br_true, br_false, fin_val, ldV_ptr, ldaV_ptr, fldV_ptr, lenV_slice, not_bool, pick_true, pick_false, b_lss, b_leq, b_gtr, b_geq, b_eql, b_neq, b_add, b_sub, lift1_some, ev_tmp, ev_const, eput_app, eput_none, List.map_cons, List.map_nil, Nat.reduceEqDiff, Nat.succ_ne_self, Nat.reduceBEq, ↓reduceIte, reduceIte, decide_true, decide_false, Bool.not_true, Bool.not_false, if_true_left, Nat.one_ne_zero, Nat.zero_ne_one, not_true_eq_false, not_false_eq_true, S_nilc, nilc_ptr, S_ext, ext0, ext1, Value.cells, putL, h2, h4, h10] at g7 ⊢
    refine ⟨pth.length + 1 - (i + 1), by omega, i + 1, s2, ks2, .slice p2 ks2.length c2, o ++ [si], false, rfl, hi', trivial, trivial, by rw [wrap_succ (by omega)], ?_, by simp [hol], ?_, g7, hIk, ?_⟩
    · refine out6.keep (by rw [n7]; simp only [Heap.reserve]; omega) fun j h1 h2 => ?_
      rw [o7 j (by omega)]; rfl
    · exact ⟨by rw [n7]; simp only [Heap.reserve]; omega, fun j hj hq => by rw [o7 j hq]; exact fq6.old j hj hq⟩
    · rw [hal, along_in hs0 hmk, hxk]
      cases along (T.mk s2 ks2) (List.drop (i + 1) pth) <;> simp
  · simp only [W_skip, W_ops, W_sops, W_seq, W_block, W_exit, W_ret, W_cond, U_seq, U_seq_exit, U_seq_ret, U_blk, U_blk_ret, U_blk_exit, again_exit', again_ret', again_normal', U_ret1, S_nil, S_gd, S_ld, S_lda, S_fld, S_len, S_ix, S_call, S_callv, S_func, S_move, S_assign, S_pick, S_bin, S_not, gdo_tt, gdo_ff, gdo_tf, gdo_ft, br_true, br_false, fin_val, ldV_ptr, ldaV_ptr, fldV_ptr, lenV_slice, not_bool, pick_true, pick_false, b_lss, b_leq, b_gtr, b_geq, b_eql, b_neq, b_add, b_sub, lift1_some, ev_tmp, ev_const, eput_app, eput_none, List.map_cons, List.map_nil, Nat.reduceEqDiff, Nat.succ_ne_self, Nat.reduceBEq, ↓reduceIte, reduceIte, decide_true, decide_false, Bool.not_true, Bool.not_false, if_true_left, Nat.one_ne_zero, Nat.zero_ne_one, not_true_eq_false, not_false_eq_true, S_nilc, nilc_ptr, S_ext, ext0, ext1, f3_2]
    refine ⟨rfl, Nat.zero_le _, trivial, trivial, rfl, .inl ⟨rfl, rfl⟩, rfl, ⟨Nat.le_refl _, fun _ _ _ => rfl⟩, gB3, ht, ?_⟩
    rw [htt]
    cases h : along (T.mk s ks) (List.drop 0 pth) <;> simp_all

end Go.Proofs.YtcfjimhbachmlaaGreatDoor.E

/- Contracts: paths compared; the law. -/
namespace Go.Proofs.YtcfjimhbachmlaaGreatDoor.E
open Go Go.Proofs
open Go.Proofs.YtcfjimhbachmlaaGreatDoor.L

theorem ty46 : TY.ty 46 = some { k := .slice 26, size := 1, bytes := 24, zero := some (.slice none 0 0) } := by kernel_rfl

def IsPaths (G : Nat → Option Blk) : Value → List (List Int) → Prop := IsSl G 1 (Is1 (IsInts G))

theorem IsPaths.mono {G G' : Nat → Option Blk} (h : Sub G G') {v : Value} {l} (hs : IsPaths G v l) : IsPaths G' v l := IsSl.mono h (fun _ _ ⟨u, h1, h2⟩ => ⟨u, h1, IsInts.mono h h2⟩) hs

theorem OutIs.ints {H : Heap} {lo : Nat} {v : Value} {o : List Int} (h : OutIs H lo v o) (hl : o.length < 4294967296) : IsInts H.get v o := by
  rcases h with ⟨rfl, rfl⟩ | ⟨b, f, h1, h2, rfl, h4⟩
  · exact ⟨none, 0, rfl, by simp, fun i x hx => by simp at hx⟩
  · refine ⟨_, _, rfl, hl, fun i x hx => ⟨_, [.int .i64 x], rfl, ?_, rfl⟩⟩
    have hc : (GH H.get).cell ⟨b, i, none⟩ = some (.int .i64 x) := own_cell i (show (GH H.get).get b = _ from h4) (by simp [hx]) rfl
    unfold Sees
    simp only [Heap.cellsFrom, own_add, Nat.mul_one, Nat.zero_add, Nat.add_zero]
    rw [hc]

theorem one_paths {H : Heap} {b : Nat} {u : Value} {l : List Int} {e : TypeId} {w f : Bool} (hg : H.get b = some (.cells [u] e w f)) (hu : IsInts H.get u l) : IsPaths H.get (.slice (some ⟨b, 0, none⟩) 1 1) [l] := by
  refine ⟨_, _, rfl, by simp, fun i x hx => ?_⟩
  have hi : i = 0 := by have := (List.getElem?_eq_some_iff.1 hx).1; simp at this; exact this
  subst hi
  simp at hx
  subst hx
  refine ⟨_, [u], rfl, ?_, u, rfl, hu⟩
  have hh : isHole u = false := by obtain ⟨a, c, rfl, _⟩ := hu; rfl
  have hc : (GH H.get).cell ⟨b, 0, none⟩ = some u := own_cell 0 (show (GH H.get).get b = _ from hg) rfl hh
  unfold Sees
  simp only [Heap.cellsFrom, own_add, Nat.mul_one, Nat.zero_add, Nat.add_zero]
  rw [hc]

theorem take_step {α : Type} {l m : List α} {j : Nat} (h : j < l.length) (h2 : j < m.length) (ht : l.take j = m.take j) (he : l[j] = m[j]) : l.take (j + 1) = m.take (j + 1) := by
  rw [List.take_add_one, List.take_add_one, ht, List.getElem?_eq_getElem h, List.getElem?_eq_getElem h2, he]

/-- virgationlaw21.paths -/
def c21 : C2 :=
  .seq (.ops [(some 4, none, .raw (.assign (.const (.bool false))))]) (
  .seq (.seq (.ops [(some 7, none, .raw (.move (.tmp 0))),
    (some 8, none, .len (.tmp 7)),
    (some 9, none, .raw (.move (.tmp 1))),
    (some 10, none, .len (.tmp 9)),
    (some 11, none, .raw (.binOp .neq 3 (.tmp 8) (.tmp 10) 3))]) (
  .cond (.tmp 11) (
    .seq (.ops [(some 4, none, .raw (.assign (.const (.bool false))))]) (
    .ret)) (
    .skip))) (
  .seq (.seq (.ops [(some 12, none, .raw (.move (.tmp 0))),
    (some 13, none, .len (.tmp 12)),
    (some 14, none, .raw (.move (.const (.int .i64 0))))]) (
  .block 0 (
    .loop (
      .seq (.ops [(some 15, none, .raw (.binOp .lss 3 (.tmp 14) (.tmp 13) 3))]) (
      .seq (.cond (.tmp 15) (
        .skip) (
        .exit 0)) (
      .seq (.block 1 (
        .seq (.ops [(some 16, none, .raw (.move (.tmp 14))),
          (some 5, none, .raw (.assign (.tmp 16)))]) (
        .seq (.seq (.sops 11 [(some 17, none, .raw (.move (.tmp 0))),
          (some 18, none, .raw (.move (.tmp 5))),
          (some 19, none, .ix 1 (.tmp 17) (.tmp 18)),
          (some 20, none, .ld (.tmp 19)),
          (some 21, none, .len (.tmp 20)),
          (some 22, none, .raw (.move (.tmp 1))),
          (some 23, none, .raw (.move (.tmp 5))),
          (some 24, none, .ix 1 (.tmp 22) (.tmp 23)),
          (some 25, none, .ld (.tmp 24)),
          (some 26, none, .len (.tmp 25)),
          (some 27, none, .raw (.binOp .neq 3 (.tmp 21) (.tmp 26) 3))]) (
        .cond (.tmp 27) (
          .seq (.ops [(some 4, none, .raw (.assign (.const (.bool false))))]) (
          .ret)) (
          .skip))) (
        .seq (.ops [(some 28, none, .raw (.move (.tmp 0))),
          (some 29, none, .raw (.move (.tmp 5))),
          (some 30, none, .ix 1 (.tmp 28) (.tmp 29)),
          (some 31, none, .ld (.tmp 30)),
          (some 32, none, .len (.tmp 31)),
          (some 33, none, .raw (.move (.const (.int .i64 0))))]) (
        .block 2 (
          .loop (
            .seq (.ops [(some 34, none, .raw (.binOp .lss 3 (.tmp 33) (.tmp 32) 3))]) (
            .seq (.cond (.tmp 34) (
              .skip) (
              .exit 2)) (
            .seq (.block 3 (
              .seq (.ops [(some 35, none, .raw (.move (.tmp 33))),
                (some 6, none, .raw (.assign (.tmp 35)))]) (
              .seq (.sops 15 [(some 36, none, .raw (.move (.tmp 0))),
                (some 37, none, .raw (.move (.tmp 5))),
                (some 38, none, .ix 1 (.tmp 36) (.tmp 37)),
                (some 39, none, .ld (.tmp 38)),
                (some 40, none, .raw (.move (.tmp 6))),
                (some 41, none, .ix 1 (.tmp 39) (.tmp 40)),
                (some 42, none, .ld (.tmp 41)),
                (some 43, none, .raw (.move (.tmp 1))),
                (some 44, none, .raw (.move (.tmp 5))),
                (some 45, none, .ix 1 (.tmp 43) (.tmp 44)),
                (some 46, none, .ld (.tmp 45)),
                (some 47, none, .raw (.move (.tmp 6))),
                (some 48, none, .ix 1 (.tmp 46) (.tmp 47)),
                (some 49, none, .ld (.tmp 48)),
                (some 50, none, .raw (.binOp .neq 3 (.tmp 42) (.tmp 49) 3))]) (
              .cond (.tmp 50) (
                .seq (.ops [(some 4, none, .raw (.assign (.const (.bool false))))]) (
                .ret)) (
                .skip))))) (
            .ops [(some 51, none, .raw (.binOp .add 3 (.tmp 33) (.const (.int .i64 1)) 3)),
              (some 33, none, .raw (.move (.tmp 51)))])))))))))) (
      .ops [(some 52, none, .raw (.binOp .add 3 (.tmp 14) (.const (.int .i64 1)) 3)),
        (some 14, none, .raw (.move (.tmp 52)))]))))))) (
  .seq (.ops [(some 4, none, .raw (.assign (.const (.bool true))))]) (
  .ret))))
theorem fc21 : facts 21 = some (c21, [.tmp 4], 53) := by kernel_rfl

/-- virgationlaw21.PathAlong -/
def c8 : C2 :=
  .seq (.ops [(some 3, none, .raw (.box 29 (.tmp 0))),
    (some 4, none, .raw (.box 37 (.tmp 1))),
    (some 6, none, .raw (.assign (.const (.bool false))))]) (
  .seq (.seq (.ops [(some 11, none, .lda 3 (.tmp 3)),
    (some 12, none, .lda 2 (.tmp 4)),
    (some 13, none, .call 18 [(.tmp 11), (.tmp 12)])]) (
  .cond (.tmp 13) (
    .seq (.ops [(some 14, none, .call 12 []),
      (some 6, none, .raw (.assign (.tmp 14)))]) (
    .ret)) (
    .skip))) (
  .seq (.ops [(some 16, none, .lda 3 (.tmp 3)),
    (some 17, none, .lda 2 (.tmp 4)),
    (some 18, none, .raw (.move (.tmp 2))),
    (some 19, none, .call 29 [(.tmp 16), (.tmp 17), (.tmp 18)]),
    (some 15, none, .raw (.move (.tmp 19))),
    (some 20, none, .raw (.extract (.tmp 15) 0)),
    (some 21, none, .raw (.extract (.tmp 15) 1)),
    (some 7, none, .raw (.assign (.tmp 20))),
    (some 8, none, .raw (.assign (.tmp 21)))]) (
  .seq (.ops [(some 23, none, .lda 3 (.tmp 3)),
    (some 24, none, .lda 2 (.tmp 4)),
    (some 25, none, .raw (.move (.tmp 2))),
    (some 26, none, .call 30 [(.tmp 23), (.tmp 24), (.tmp 25)]),
    (some 22, none, .raw (.move (.tmp 26))),
    (some 27, none, .raw (.extract (.tmp 22) 0)),
    (some 28, none, .raw (.extract (.tmp 22) 1)),
    (some 9, none, .raw (.assign (.tmp 27))),
    (some 10, none, .raw (.assign (.tmp 28)))]) (
  .seq (.ops [(some 29, none, .raw (.move (.tmp 10))),
    (some 30, none, .raw (.move (.tmp 8))),
    (some 31, none, .raw (.binOp .eql 38 (.tmp 29) (.tmp 30) 38)),
    (some 32, none, .raw (.move (.tmp 31))),
    (some 33, some (32, true), .raw (.move (.tmp 9))),
    (some 34, some (32, true), .raw (.buildSlice 46 1 #[(0, (.tmp 33))])),
    (some 35, some (32, true), .raw (.move (.tmp 7))),
    (some 36, some (32, true), .raw (.buildSlice 46 1 #[(0, (.tmp 35))])),
    (some 37, some (32, true), .call 21 [(.tmp 34), (.tmp 36)]),
    (some 38, none, .raw (.pick (.tmp 32) (.tmp 37) (.const (.bool false)))),
    (some 39, none, .raw (.move (.tmp 38))),
    (some 40, some (39, true), .call 12 []),
    (some 41, none, .raw (.pick (.tmp 39) (.tmp 40) (.const (.bool false)))),
    (some 6, none, .raw (.assign (.tmp 41)))]) (
  .ret)))))
theorem fc8 : facts 8 = some (c8, [.tmp 6], 42) := by kernel_rfl

theorem paths21 {H : Heap} {v w : Value} {l m : List (List Int)} (hv : IsPaths H.get v l) (hw : IsPaths H.get w m) : SC Tryz.prog 21 #[v, w] H (fun r H' => r = .bool (decide (l = m)) ∧ Fr H H') := by
  refine SC_of_W fc21 (by simp) fun hwf => ?_
  obtain ⟨p, c, rfl, hlen, hat⟩ := hv
  obtain ⟨q, d, rfl, hlen2, hat2⟩ := hw
  have kn := Kn.self hwf
  unfold c21
  simp only [W_skip, W_ops, W_sops, W_seq, W_block, W_exit, W_ret, W_cond, U_seq, U_seq_exit, U_seq_ret, U_blk, U_blk_ret, U_blk_exit, again_exit', again_ret', again_normal', U_ret1, S_nil, S_gd, S_ld, S_lda, S_fld, S_len, S_ix, S_call, S_callv, S_func, S_move, S_assign, S_pick, S_bin, S_not, gdo_tt, gdo_ff, gdo_tf, gdo_ft, br_true, br_false, fin_val, ldV_ptr, ldaV_ptr, fldV_ptr, lenV_slice, not_bool, pick_true, pick_false, b_lss, b_leq, b_gtr, b_geq, b_eql, b_neq, b_add, b_sub, lift1_some, ev_tmp, ev_const, eput_app, eput_none, List.map_cons, List.map_nil, Nat.reduceEqDiff, Nat.succ_ne_self, Nat.reduceBEq, ↓reduceIte, reduceIte, decide_true, decide_false, Bool.not_true, Bool.not_false, if_true_left, Nat.one_ne_zero, Nat.zero_ne_one, not_true_eq_false, not_false_eq_true, S_nilc, nilc_ptr, S_ext, ext0, ext1, f2_0, f2_1]
  have no : ∀ {H1}, Fr H H1 → (l = m → False) → Value.bool false = .bool (decide (l = m)) ∧ Fr H H1 := fun fr h => ⟨not_bool_of fun e => h (by simpa using e), fr⟩
  refine br_of ?_ ?_ <;> intro hA
  · simp only [W_skip, W_ops, W_sops, W_seq, W_block, W_exit, W_ret, W_cond, U_seq, U_seq_exit, U_seq_ret, U_blk, U_blk_ret, U_blk_exit, again_exit', again_ret', again_normal', U_ret1, S_nil, S_gd, S_ld, S_lda, S_fld, S_len, S_ix, S_call, S_callv, S_func, S_move, S_assign, S_pick, S_bin, S_not, gdo_tt, gdo_ff, gdo_tf, gdo_ft, br_true, br_false, fin_val, ldV_ptr, ldaV_ptr, fldV_ptr, lenV_slice, not_bool, pick_true, pick_false, b_lss, b_leq, b_gtr, b_geq, b_eql, b_neq, b_add, b_sub, lift1_some, ev_tmp, ev_const, eput_app, eput_none, List.map_cons, List.map_nil, Nat.reduceEqDiff, Nat.succ_ne_self, Nat.reduceBEq, ↓reduceIte, reduceIte, decide_true, decide_false, Bool.not_true, Bool.not_false, if_true_left, Nat.one_ne_zero, Nat.zero_ne_one, not_true_eq_false, not_false_eq_true, S_nilc, nilc_ptr, S_ext, ext0, ext1]
    exact no (Fr.refl _) fun e => by simp at hA; exact hA (by rw [e])
  have hll : l.length = m.length := by simp at hA; omega
  simp only [W_skip, W_ops, W_sops, W_seq, W_block, W_exit, W_ret, W_cond, U_seq, U_seq_exit, U_seq_ret, U_blk, U_blk_ret, U_blk_exit, again_exit', again_ret', again_normal', U_ret1, S_nil, S_gd, S_ld, S_lda, S_fld, S_len, S_ix, S_call, S_callv, S_func, S_move, S_assign, S_pick, S_bin, S_not, gdo_tt, gdo_ff, gdo_tf, gdo_ft, br_true, br_false, fin_val, ldV_ptr, ldaV_ptr, fldV_ptr, lenV_slice, not_bool, pick_true, pick_false, b_lss, b_leq, b_gtr, b_geq, b_eql, b_neq, b_add, b_sub, lift1_some, ev_tmp, ev_const, eput_app, eput_none, List.map_cons, List.map_nil, Nat.reduceEqDiff, Nat.succ_ne_self, Nat.reduceBEq, ↓reduceIte, reduceIte, decide_true, decide_false, Bool.not_true, Bool.not_false, if_true_left, Nat.one_ne_zero, Nat.zero_ne_one, not_true_eq_false, not_false_eq_true, S_nilc, nilc_ptr, S_ext, ext0, ext1, f2_0]
  refine W_loop (fun k g H1 => ∃ i, k = l.length - i ∧ i ≤ l.length ∧ g 0 = .slice p l.length c ∧ g 1 = .slice q m.length d ∧ g 13 = .int .i64 l.length ∧ g 14 = .int .i64 (i : Nat) ∧ Fr H H1 ∧ l.take i = m.take i) ?_ l.length ⟨0, ?_⟩
  · rintro k g H1 ⟨i, rfl, hi, h0, h1, h13, h14, fr, ok⟩
    simp only [W_skip, W_ops, W_sops, W_seq, W_block, W_exit, W_ret, W_cond, U_seq, U_seq_exit, U_seq_ret, U_blk, U_blk_ret, U_blk_exit, again_exit', again_ret', again_normal', U_ret1, S_nil, S_gd, S_ld, S_lda, S_fld, S_len, S_ix, S_call, S_callv, S_func, S_move, S_assign, S_pick, S_bin, S_not, gdo_tt, gdo_ff, gdo_tf, gdo_ft, br_true, br_false, fin_val, ldV_ptr, ldaV_ptr, fldV_ptr, lenV_slice, not_bool, pick_true, pick_false, b_lss, b_leq, b_gtr, b_geq, b_eql, b_neq, b_add, b_sub, lift1_some, ev_tmp, ev_const, eput_app, eput_none, List.map_cons, List.map_nil, Nat.reduceEqDiff, Nat.succ_ne_self, Nat.reduceBEq, ↓reduceIte, reduceIte, decide_true, decide_false, Bool.not_true, Bool.not_false, if_true_left, Nat.one_ne_zero, Nat.zero_ne_one, not_true_eq_false, not_false_eq_true, S_nilc, nilc_ptr, S_ext, ext0, ext1, h0, h1, h13, h14]
    refine br_of ?_ ?_ <;> intro hB
    · have hi' : i < l.length := by simpa using hB
      have hi2 : i < m.length := by omega
      obtain ⟨b, cs, rfl, hs, u, rfl, hI⟩ := hat i l[i] (by simp [hi'])
      obtain ⟨b2, cs2, rfl, hs2, u2, rfl, hI2⟩ := hat2 i m[i] (by simp [hi2])
      obtain ⟨pu, cu, rfl, hul, huat⟩ := hI
      obtain ⟨pw, cw, rfl, hwl, hwat⟩ := hI2
      have fr1 := fr.reserve 11
      have hc := (kn.fr fr1).see1 hs
      have hc2 := (kn.fr fr1).see1 hs2
      simp only [W_skip, W_ops, W_sops, W_seq, W_block, W_exit, W_ret, W_cond, U_seq, U_seq_exit, U_seq_ret, U_blk, U_blk_ret, U_blk_exit, again_exit', again_ret', again_normal', U_ret1, S_nil, S_gd, S_ld, S_lda, S_fld, S_len, S_ix, S_call, S_callv, S_func, S_move, S_assign, S_pick, S_bin, S_not, gdo_tt, gdo_ff, gdo_tf, gdo_ft, br_true, br_false, fin_val, ldV_ptr, ldaV_ptr, fldV_ptr, lenV_slice, not_bool, pick_true, pick_false, b_lss, b_leq, b_gtr, b_geq, b_eql, b_neq, b_add, b_sub, lift1_some, ev_tmp, ev_const, eput_app, eput_none, List.map_cons, List.map_nil, Nat.reduceEqDiff, Nat.succ_ne_self, Nat.reduceBEq, ↓reduceIte, reduceIte, decide_true, decide_false, Bool.not_true, Bool.not_false, if_true_left, Nat.one_ne_zero, Nat.zero_ne_one, not_true_eq_false, not_false_eq_true, S_nilc, nilc_ptr, S_ext, ext0, ext1, h0, h1, h13, h14, ixV_at hi', ixV_at hi2, hc, hc2]
      refine br_of ?_ ?_ <;> intro hC
      · simp only [W_skip, W_ops, W_sops, W_seq, W_block, W_exit, W_ret, W_cond, U_seq, U_seq_exit, U_seq_ret, U_blk, U_blk_ret, U_blk_exit, again_exit', again_ret', again_normal', U_ret1, S_nil, S_gd, S_ld, S_lda, S_fld, S_len, S_ix, S_call, S_callv, S_func, S_move, S_assign, S_pick, S_bin, S_not, gdo_tt, gdo_ff, gdo_tf, gdo_ft, br_true, br_false, fin_val, ldV_ptr, ldaV_ptr, fldV_ptr, lenV_slice, not_bool, pick_true, pick_false, b_lss, b_leq, b_gtr, b_geq, b_eql, b_neq, b_add, b_sub, lift1_some, ev_tmp, ev_const, eput_app, eput_none, List.map_cons, List.map_nil, Nat.reduceEqDiff, Nat.succ_ne_self, Nat.reduceBEq, ↓reduceIte, reduceIte, decide_true, decide_false, Bool.not_true, Bool.not_false, if_true_left, Nat.one_ne_zero, Nat.zero_ne_one, not_true_eq_false, not_false_eq_true, S_nilc, nilc_ptr, S_ext, ext0, ext1]
        refine no fr1 fun e => ?_
        simp at hC
        apply hC
        subst e
        rfl
      have hrow : l[i].length = m[i].length := by simp at hC; omega
      simp only [W_skip, W_ops, W_sops, W_seq, W_block, W_exit, W_ret, W_cond, U_seq, U_seq_exit, U_seq_ret, U_blk, U_blk_ret, U_blk_exit, again_exit', again_ret', again_normal', U_ret1, S_nil, S_gd, S_ld, S_lda, S_fld, S_len, S_ix, S_call, S_callv, S_func, S_move, S_assign, S_pick, S_bin, S_not, gdo_tt, gdo_ff, gdo_tf, gdo_ft, br_true, br_false, fin_val, ldV_ptr, ldaV_ptr, fldV_ptr, lenV_slice, not_bool, pick_true, pick_false, b_lss, b_leq, b_gtr, b_geq, b_eql, b_neq, b_add, b_sub, lift1_some, ev_tmp, ev_const, eput_app, eput_none, List.map_cons, List.map_nil, Nat.reduceEqDiff, Nat.succ_ne_self, Nat.reduceBEq, ↓reduceIte, reduceIte, decide_true, decide_false, Bool.not_true, Bool.not_false, if_true_left, Nat.one_ne_zero, Nat.zero_ne_one, not_true_eq_false, not_false_eq_true, S_nilc, nilc_ptr, S_ext, ext0, ext1, h0, h1, h13, h14, ixV_at hi', hc]
      refine W_loop (fun k' g H1 => ∃ x, k' = l[i].length - x ∧ x ≤ l[i].length ∧ g 0 = .slice (some b) l.length c ∧ g 1 = .slice (some b2) m.length d ∧ g 13 = .int .i64 l.length ∧ g 14 = .int .i64 (i : Nat) ∧ g 5 = .int .i64 (i : Nat) ∧ g 32 = .int .i64 l[i].length ∧ g 33 = .int .i64 (x : Nat) ∧ Fr H H1 ∧ l[i].take x = m[i].take x) ?_ l[i].length ⟨0, ?_⟩
      · rintro k' g H2 ⟨x, rfl, hx, h0, h1, h13, h14, h5, h32, h33, fr2, ok2⟩
        simp only [W_skip, W_ops, W_sops, W_seq, W_block, W_exit, W_ret, W_cond, U_seq, U_seq_exit, U_seq_ret, U_blk, U_blk_ret, U_blk_exit, again_exit', again_ret', again_normal', U_ret1, S_nil, S_gd, S_ld, S_lda, S_fld, S_len, S_ix, S_call, S_callv, S_func, S_move, S_assign, S_pick, S_bin, S_not, gdo_tt, gdo_ff, gdo_tf, gdo_ft, br_true, br_false, fin_val, ldV_ptr, ldaV_ptr, fldV_ptr, lenV_slice, not_bool, pick_true, pick_false, b_lss, b_leq, b_gtr, b_geq, b_eql, b_neq, b_add, b_sub, lift1_some, ev_tmp, ev_const, eput_app, eput_none, List.map_cons, List.map_nil, Nat.reduceEqDiff, Nat.succ_ne_self, Nat.reduceBEq, ↓reduceIte, reduceIte, decide_true, decide_false, Bool.not_true, Bool.not_false, if_true_left, Nat.one_ne_zero, Nat.zero_ne_one, not_true_eq_false, not_false_eq_true, S_nilc, nilc_ptr, S_ext, ext0, ext1, h0, h1, h13, h14, h5, h32, h33]
        refine br_of ?_ ?_ <;> intro hD
        · have hx' : x < l[i].length := by simpa using hD
          have hx2 : x < m[i].length := by omega
          obtain ⟨b3, cs3, rfl, hs3, hI3⟩ := huat x l[i][x] (by simp [hx'])
          obtain ⟨b4, cs4, rfl, hs4, hI4⟩ := hwat x m[i][x] (by simp [hx2])
          cases hI3; cases hI4
          have fr3 := fr2.reserve 15
          have hc := (kn.fr fr3).see1 hs
          have hc2 := (kn.fr fr3).see1 hs2
          have hc3 := (kn.fr fr3).see1 hs3
          have hc4 := (kn.fr fr3).see1 hs4
          simp only [W_skip, W_ops, W_sops, W_seq, W_block, W_exit, W_ret, W_cond, U_seq, U_seq_exit, U_seq_ret, U_blk, U_blk_ret, U_blk_exit, again_exit', again_ret', again_normal', U_ret1, S_nil, S_gd, S_ld, S_lda, S_fld, S_len, S_ix, S_call, S_callv, S_func, S_move, S_assign, S_pick, S_bin, S_not, gdo_tt, gdo_ff, gdo_tf, gdo_ft, br_true, br_false, fin_val, ldV_ptr, ldaV_ptr, fldV_ptr, lenV_slice, not_bool, pick_true, pick_false, b_lss, b_leq, b_gtr, b_geq, b_eql, b_neq, b_add, b_sub, lift1_some, ev_tmp, ev_const, eput_app, eput_none, List.map_cons, List.map_nil, Nat.reduceEqDiff, Nat.succ_ne_self, Nat.reduceBEq, ↓reduceIte, reduceIte, decide_true, decide_false, Bool.not_true, Bool.not_false, if_true_left, Nat.one_ne_zero, Nat.zero_ne_one, not_true_eq_false, not_false_eq_true, S_nilc, nilc_ptr, S_ext, ext0, ext1, h0, h1, h13, h14, h5, h32, h33, ixV_at hi', ixV_at hi2, ixV_at hx', ixV_at hx2, hc, hc2, hc3, hc4]
          refine br_of ?_ ?_ <;> intro hE
          · simp only [W_skip, W_ops, W_sops, W_seq, W_block, W_exit, W_ret, W_cond, U_seq, U_seq_exit, U_seq_ret, U_blk, U_blk_ret, U_blk_exit, again_exit', again_ret', again_normal', U_ret1, S_nil, S_gd, S_ld, S_lda, S_fld, S_len, S_ix, S_call, S_callv, S_func, S_move, S_assign, S_pick, S_bin, S_not, gdo_tt, gdo_ff, gdo_tf, gdo_ft, br_true, br_false, fin_val, ldV_ptr, ldaV_ptr, fldV_ptr, lenV_slice, not_bool, pick_true, pick_false, b_lss, b_leq, b_gtr, b_geq, b_eql, b_neq, b_add, b_sub, lift1_some, ev_tmp, ev_const, eput_app, eput_none, List.map_cons, List.map_nil, Nat.reduceEqDiff, Nat.succ_ne_self, Nat.reduceBEq, ↓reduceIte, reduceIte, decide_true, decide_false, Bool.not_true, Bool.not_false, if_true_left, Nat.one_ne_zero, Nat.zero_ne_one, not_true_eq_false, not_false_eq_true, S_nilc, nilc_ptr, S_ext, ext0, ext1]
            refine no fr3 fun e => ?_
            simp at hE
            apply hE
            subst e
            rfl
          · simp only [W_skip, W_ops, W_sops, W_seq, W_block, W_exit, W_ret, W_cond, U_seq, U_seq_exit, U_seq_ret, U_blk, U_blk_ret, U_blk_exit, again_exit', again_ret', again_normal', U_ret1, S_nil, S_gd, S_ld, S_lda, S_fld, S_len, S_ix, S_call, S_callv, S_func, S_move, S_assign, S_pick, S_bin, S_not, gdo_tt, gdo_ff, gdo_tf, gdo_ft, br_true, br_false, fin_val, ldV_ptr, ldaV_ptr, fldV_ptr, lenV_slice, not_bool, pick_true, pick_false, b_lss, b_leq, b_gtr, b_geq, b_eql, b_neq, b_add, b_sub, lift1_some, ev_tmp, ev_const, eput_app, eput_none, List.map_cons, List.map_nil, Nat.reduceEqDiff, Nat.succ_ne_self, Nat.reduceBEq, ↓reduceIte, reduceIte, decide_true, decide_false, Bool.not_true, Bool.not_false, if_true_left, Nat.one_ne_zero, Nat.zero_ne_one, not_true_eq_false, not_false_eq_true, S_nilc, nilc_ptr, S_ext, ext0, ext1, h0, h1, h13, h14, h5, h32, h33]
            refine ⟨l[i].length - (x + 1), by omega, x + 1, rfl, hx', trivial, trivial, trivial, trivial, trivial, trivial, by rw [wrap_succ (by omega)], fr3, take_step hx' hx2 ok2 (by simpa using hE)⟩
        · have hx' : x = l[i].length := by simp at hD; omega
          subst hx'
          rw [List.take_length, hrow, List.take_length] at ok2
          simp only [W_skip, W_ops, W_sops, W_seq, W_block, W_exit, W_ret, W_cond, U_seq, U_seq_exit, U_seq_ret, U_blk, U_blk_ret, U_blk_exit, again_exit', again_ret', again_normal', U_ret1, S_nil, S_gd, S_ld, S_lda, S_fld, S_len, S_ix, S_call, S_callv, S_func, S_move, S_assign, S_pick, S_bin, S_not, gdo_tt, gdo_ff, gdo_tf, gdo_ft, br_true, br_false, fin_val, ldV_ptr, ldaV_ptr, fldV_ptr, lenV_slice, not_bool, pick_true, pick_false, b_lss, b_leq, b_gtr, b_geq, b_eql, b_neq, b_add, b_sub, lift1_some, ev_tmp, ev_const, eput_app, eput_none, List.map_cons, List.map_nil, Nat.reduceEqDiff, Nat.succ_ne_self, Nat.reduceBEq, ↓reduceIte, reduceIte, decide_true, decide_false, Bool.not_true, Bool.not_false, if_true_left, Nat.one_ne_zero, Nat.zero_ne_one, not_true_eq_false, not_false_eq_true, S_nilc, nilc_ptr, S_ext, ext0, ext1, h0, h1, h13, h14]
          refine ⟨l.length - (i + 1), by omega, i + 1, rfl, hi', trivial, trivial, trivial, by rw [wrap_succ (by omega)], fr2, take_step hi' hi2 ok ok2⟩
      · simp only [W_skip, W_ops, W_sops, W_seq, W_block, W_exit, W_ret, W_cond, U_seq, U_seq_exit, U_seq_ret, U_blk, U_blk_ret, U_blk_exit, again_exit', again_ret', again_normal', U_ret1, S_nil, S_gd, S_ld, S_lda, S_fld, S_len, S_ix, S_call, S_callv, S_func, S_move, S_assign, S_pick, S_bin, S_not, gdo_tt, gdo_ff, gdo_tf, gdo_ft, br_true, br_false, fin_val, ldV_ptr, ldaV_ptr, fldV_ptr, lenV_slice, not_bool, pick_true, pick_false, b_lss, b_leq, b_gtr, b_geq, b_eql, b_neq, b_add, b_sub, lift1_some, ev_tmp, ev_const, eput_app, eput_none, List.map_cons, List.map_nil, Nat.reduceEqDiff, Nat.succ_ne_self, Nat.reduceBEq, ↓reduceIte, reduceIte, decide_true, decide_false, Bool.not_true, Bool.not_false, if_true_left, Nat.one_ne_zero, Nat.zero_ne_one, not_true_eq_false, not_false_eq_true, S_nilc, nilc_ptr, S_ext, ext0, ext1, h0, h1, h13, h14]
        simp [fr1]
    · have hi' : i = l.length := by simp at hB; omega
      subst hi'
      rw [List.take_length, hll, List.take_length] at ok
      simp only [W_skip, W_ops, W_sops, W_seq, W_block, W_exit, W_ret, W_cond, U_seq, U_seq_exit, U_seq_ret, U_blk, U_blk_ret, U_blk_exit, again_exit', again_ret', again_normal', U_ret1, S_nil, S_gd, S_ld, S_lda, S_fld, S_len, S_ix, S_call, S_callv, S_func, S_move, S_assign, S_pick, S_bin, S_not, gdo_tt, gdo_ff, gdo_tf, gdo_ft, br_true, br_false, fin_val, ldV_ptr, ldaV_ptr, fldV_ptr, lenV_slice, not_bool, pick_true, pick_false, b_lss, b_leq, b_gtr, b_geq, b_eql, b_neq, b_add, b_sub, lift1_some, ev_tmp, ev_const, eput_app, eput_none, List.map_cons, List.map_nil, Nat.reduceEqDiff, Nat.succ_ne_self, Nat.reduceBEq, ↓reduceIte, reduceIte, decide_true, decide_false, Bool.not_true, Bool.not_false, if_true_left, Nat.one_ne_zero, Nat.zero_ne_one, not_true_eq_false, not_false_eq_true, S_nilc, nilc_ptr, S_ext, ext0, ext1]
      exact ⟨bool_of (by simpa using ok), fr⟩
  · simp only [W_skip, W_ops, W_sops, W_seq, W_block, W_exit, W_ret, W_cond, U_seq, U_seq_exit, U_seq_ret, U_blk, U_blk_ret, U_blk_exit, again_exit', again_ret', again_normal', U_ret1, S_nil, S_gd, S_ld, S_lda, S_fld, S_len, S_ix, S_call, S_callv, S_func, S_move, S_assign, S_pick, S_bin, S_not, gdo_tt, gdo_ff, gdo_tf, gdo_ft, br_true, br_false, fin_val, ldV_ptr, ldaV_ptr, fldV_ptr, lenV_slice, not_bool, pick_true, pick_false, b_lss, b_leq, b_gtr, b_geq, b_eql, b_neq, b_add, b_sub, lift1_some, ev_tmp, ev_const, eput_app, eput_none, List.map_cons, List.map_nil, Nat.reduceEqDiff, Nat.succ_ne_self, Nat.reduceBEq, ↓reduceIte, reduceIte, decide_true, decide_false, Bool.not_true, Bool.not_false, if_true_left, Nat.one_ne_zero, Nat.zero_ne_one, not_true_eq_false, not_false_eq_true, S_nilc, nilc_ptr, S_ext, ext0, ext1, f2_0, f2_1]
    simp [Fr.refl]

theorem out_len {t : T} : ∀ {p : List Int} {l : List Int}, along t p = some l → l.length = p.length + 1
  | p, l, h => by
    induction p generalizing t l with
    | nil =>
      obtain ⟨s, ks⟩ := t
      unfold along at h
      split at h <;> simp at h
      subst h; rfl
    | cons x p ih =>
      obtain ⟨s, ks⟩ := t
      unfold along at h
      split at h
      · cases h
      · split at h
        · rename_i t' _
          cases h2 : along t' p with
          | none => rw [h2] at h; cases h
          | some l' =>
            rw [h2] at h
            simp only [Option.map_some, Option.some.injEq] at h
            subst h
            simp [ih _ h2]
        · cases h

theorem outA_len {a : Au} {t : T} {p : List Int} : (outA a t p).length ≤ p.length + 1 := by
  unfold outA
  split
  · cases h : along t p with
    | none => simp
    | some l => simp [out_len h]
  · simp

set_option maxRecDepth 20000 in
/-- the law holds -/
theorem law8 {H : Heap} {v w : Value} {cs : List Value} {a : Au} {t : T} {pth : List Int} (hv : IsAu H.get v a) (ht : IsT H.get cs t) (hp : IsInts H.get w pth) (hsz : t.size < 4294967296) (hpl : pth.length < 4294967295)
    (hg : Sub (mk in0).get H.get) : SC Tryz.prog 8 #[v, .agg cs.toArray, w] H (fun r _ => r = .bool true) := by
  refine SC_of_W fc8 (by simp) fun hwf => ?_
  have hv0 := hv
  have ht0 := ht
  obtain ⟨rv, mv, rfl, hr, hm⟩ := hv
  obtain ⟨pr, cr, rfl, hrlen, hrat⟩ := hr
  obtain ⟨pm, cm, rfl, hmlen, hmat⟩ := hm
  generalize htt : t = t0 at ht
  obtain ⟨s, ks⟩ := t0
  obtain ⟨kv, rfl, hk⟩ := ht.inv
  obtain ⟨p, c, rfl, hlen, hat⟩ := hk
  have gsub : ∀ {H1}, Fr H H1 → ∀ i b, (mk in0).get i = some b → H1.get i = some b := fun fr i b h => fr.sub hwf i b (hg i b h)
  unfold c8
  simp only [W_skip, W_ops, W_sops, W_seq, W_block, W_exit, W_ret, W_cond, U_seq, U_seq_exit, U_seq_ret, U_blk, U_blk_ret, U_blk_exit, again_exit', again_ret', again_normal', U_ret1, S_nil, S_gd, S_ld, S_lda, S_fld, S_len, S_ix, S_call, S_callv, S_func, S_move, S_assign, S_pick, S_bin, S_not, gdo_tt, gdo_ff, gdo_tf, gdo_ft, br_true, br_false, fin_val, ldV_ptr, ldaV_ptr, fldV_ptr, lenV_slice, not_bool, pick_true, pick_false, b_lss, b_leq, b_gtr, b_geq, b_eql, b_neq, b_add, b_sub, lift1_some, ev_tmp, ev_const, eput_app, eput_none, List.map_cons, List.map_nil, Nat.reduceEqDiff, Nat.succ_ne_self, Nat.reduceBEq, ↓reduceIte, reduceIte, decide_true, decide_false, Bool.not_true, Bool.not_false, if_true_left, Nat.one_ne_zero, Nat.zero_ne_one, not_true_eq_false, not_false_eq_true, S_nilc, nilc_ptr, S_ext, ext0, ext1]
  refine S_box fun H1 f1 n1 g1 => ?_
  refine S_box fun HB f2 n2 gB => ?_
  simp only [W_skip, W_ops, W_sops, W_seq, W_block, W_exit, W_ret, W_cond, U_seq, U_seq_exit, U_seq_ret, U_blk, U_blk_ret, U_blk_exit, again_exit', again_ret', again_normal', U_ret1, S_nil, S_gd, S_ld, S_lda, S_fld, S_len, S_ix, S_call, S_callv, S_func, S_move, S_assign, S_pick, S_bin, S_not, gdo_tt, gdo_ff, gdo_tf, gdo_ft, br_true, br_false, fin_val, ldV_ptr, ldaV_ptr, fldV_ptr, lenV_slice, not_bool, pick_true, pick_false, b_lss, b_leq, b_gtr, b_geq, b_eql, b_neq, b_add, b_sub, lift1_some, ev_tmp, ev_const, eput_app, eput_none, List.map_cons, List.map_nil, Nat.reduceEqDiff, Nat.succ_ne_self, Nat.reduceBEq, ↓reduceIte, reduceIte, decide_true, decide_false, Bool.not_true, Bool.not_false, if_true_left, Nat.one_ne_zero, Nat.zero_ne_one, not_true_eq_false, not_false_eq_true, S_nilc, nilc_ptr, S_ext, ext0, ext1, f3_0, f3_1, Value.cells] at g1 gB ⊢
  have hx0 : H.nxt < HB.nxt := by omega
  have hx1 : H1.nxt < HB.nxt := by omega
  have c3 : ∀ {H5}, Fr HB H5 → H5.cellsFrom ⟨H.nxt, 0, none⟩ 0 3 = _ := fun {H5} f5 => own_cells3 ((f5.old _ hx0).trans ((f2.old _ (by omega)).trans g1)) rfl rfl rfl
  have c2 : ∀ {H5}, Fr HB H5 → H5.cellsFrom ⟨H1.nxt, 0, none⟩ 0 2 = _ := fun {H5} f5 => own_cells2 ((f5.old _ hx1).trans gB) rfl rfl
  have fB := f1.trans f2
  simp only [W_skip, W_ops, W_sops, W_seq, W_block, W_exit, W_ret, W_cond, U_seq, U_seq_exit, U_seq_ret, U_blk, U_blk_ret, U_blk_exit, again_exit', again_ret', again_normal', U_ret1, S_nil, S_gd, S_ld, S_lda, S_fld, S_len, S_ix, S_call, S_callv, S_func, S_move, S_assign, S_pick, S_bin, S_not, gdo_tt, gdo_ff, gdo_tf, gdo_ft, br_true, br_false, fin_val, ldV_ptr, ldaV_ptr, fldV_ptr, lenV_slice, not_bool, pick_true, pick_false, b_lss, b_leq, b_gtr, b_geq, b_eql, b_neq, b_add, b_sub, lift1_some, ev_tmp, ev_const, eput_app, eput_none, List.map_cons, List.map_nil, Nat.reduceEqDiff, Nat.succ_ne_self, Nat.reduceBEq, ↓reduceIte, reduceIte, decide_true, decide_false, Bool.not_true, Bool.not_false, if_true_left, Nat.one_ne_zero, Nat.zero_ne_one, not_true_eq_false, not_false_eq_true, S_nilc, nilc_ptr, S_ext, ext0, ext1, c3 (Fr.refl HB), c2 (Fr.refl HB)]
  refine call_then (large18 (t := .mk s ks) (hv0.mono (fB.sub hwf)) (ht.mono (fB.sub hwf))) ?_
  rintro _ H3 ⟨hr3, f3⟩ wf3
  subst hr3
  have fr3 := fB.trans f3
  rw [cont_app]
  cases hlg : (decide (3000 < (T.mk s ks).size) && a.ok && treeOK a.ranks (T.mk s ks)) with
  | true =>
    simp only [W_skip, W_ops, W_sops, W_seq, W_block, W_exit, W_ret, W_cond, U_seq, U_seq_exit, U_seq_ret, U_blk, U_blk_ret, U_blk_exit, again_exit', again_ret', again_normal', U_ret1, S_nil, S_gd, S_ld, S_lda, S_fld, S_len, S_ix, S_call, S_callv, S_func, S_move, S_assign, S_pick, S_bin, S_not, gdo_tt, gdo_ff, gdo_tf, gdo_ft, br_true, br_false, fin_val, ldV_ptr, ldaV_ptr, fldV_ptr, lenV_slice, not_bool, pick_true, pick_false, b_lss, b_leq, b_gtr, b_geq, b_eql, b_neq, b_add, b_sub, lift1_some, ev_tmp, ev_const, eput_app, eput_none, List.map_cons, List.map_nil, Nat.reduceEqDiff, Nat.succ_ne_self, Nat.reduceBEq, ↓reduceIte, reduceIte, decide_true, decide_false, Bool.not_true, Bool.not_false, if_true_left, Nat.one_ne_zero, Nat.zero_ne_one, not_true_eq_false, not_false_eq_true, S_nilc, nilc_ptr, S_ext, ext0, ext1]
    refine call_then (alive12 (gsub fr3)) ?_
    rintro _ H4 ⟨rfl, rfl⟩ wf4
    rw [cont_app]
    simp only [W_skip, W_ops, W_sops, W_seq, W_block, W_exit, W_ret, W_cond, U_seq, U_seq_exit, U_seq_ret, U_blk, U_blk_ret, U_blk_exit, again_exit', again_ret', again_normal', U_ret1, S_nil, S_gd, S_ld, S_lda, S_fld, S_len, S_ix, S_call, S_callv, S_func, S_move, S_assign, S_pick, S_bin, S_not, gdo_tt, gdo_ff, gdo_tf, gdo_ft, br_true, br_false, fin_val, ldV_ptr, ldaV_ptr, fldV_ptr, lenV_slice, not_bool, pick_true, pick_false, b_lss, b_leq, b_gtr, b_geq, b_eql, b_neq, b_add, b_sub, lift1_some, ev_tmp, ev_const, eput_app, eput_none, List.map_cons, List.map_nil, Nat.reduceEqDiff, Nat.succ_ne_self, Nat.reduceBEq, ↓reduceIte, reduceIte, decide_true, decide_false, Bool.not_true, Bool.not_false, if_true_left, Nat.one_ne_zero, Nat.zero_ne_one, not_true_eq_false, not_false_eq_true, S_nilc, nilc_ptr, S_ext, ext0, ext1]
  | false =>
    simp only [W_skip, W_ops, W_sops, W_seq, W_block, W_exit, W_ret, W_cond, U_seq, U_seq_exit, U_seq_ret, U_blk, U_blk_ret, U_blk_exit, again_exit', again_ret', again_normal', U_ret1, S_nil, S_gd, S_ld, S_lda, S_fld, S_len, S_ix, S_call, S_callv, S_func, S_move, S_assign, S_pick, S_bin, S_not, gdo_tt, gdo_ff, gdo_tf, gdo_ft, br_true, br_false, fin_val, ldV_ptr, ldaV_ptr, fldV_ptr, lenV_slice, not_bool, pick_true, pick_false, b_lss, b_leq, b_gtr, b_geq, b_eql, b_neq, b_add, b_sub, lift1_some, ev_tmp, ev_const, eput_app, eput_none, List.map_cons, List.map_nil, Nat.reduceEqDiff, Nat.succ_ne_self, Nat.reduceBEq, ↓reduceIte, reduceIte, decide_true, decide_false, Bool.not_true, Bool.not_false, if_true_left, Nat.one_ne_zero, Nat.zero_ne_one, not_true_eq_false, not_false_eq_true, S_nilc, nilc_ptr, S_ext, ext0, ext1, c3 f3, c2 f3, f3_2]
    refine call_then (along29 (t := .mk s ks) (hv0.mono (fr3.sub hwf)) (ht.mono (fr3.sub hwf)) (hp.mono (fr3.sub hwf))) ?_
    rintro _ H4 ⟨⟨sv, rfl, ho4⟩, f4⟩ wf4
    have fr4 := fr3.trans f4
    have f34 := f3.trans f4
    rw [cont_app]
    simp only [W_skip, W_ops, W_sops, W_seq, W_block, W_exit, W_ret, W_cond, U_seq, U_seq_exit, U_seq_ret, U_blk, U_blk_ret, U_blk_exit, again_exit', again_ret', again_normal', U_ret1, S_nil, S_gd, S_ld, S_lda, S_fld, S_len, S_ix, S_call, S_callv, S_func, S_move, S_assign, S_pick, S_bin, S_not, gdo_tt, gdo_ff, gdo_tf, gdo_ft, br_true, br_false, fin_val, ldV_ptr, ldaV_ptr, fldV_ptr, lenV_slice, not_bool, pick_true, pick_false, b_lss, b_leq, b_gtr, b_geq, b_eql, b_neq, b_add, b_sub, lift1_some, ev_tmp, ev_const, eput_app, eput_none, List.map_cons, List.map_nil, Nat.reduceEqDiff, Nat.succ_ne_self, Nat.reduceBEq, ↓reduceIte, reduceIte, decide_true, decide_false, Bool.not_true, Bool.not_false, if_true_left, Nat.one_ne_zero, Nat.zero_ne_one, not_true_eq_false, not_false_eq_true, S_nilc, nilc_ptr, S_ext, ext0, ext1, c3 f34, c2 f34, f3_2]
    refine call_then (along30 (t := .mk s ks) (hv0.mono (fr4.sub hwf)) (ht.mono (fr4.sub hwf)) (hp.mono (fr4.sub hwf)) (htt ▸ hsz)) ?_
    rintro _ H5 ⟨⟨sv2, rfl, ho5⟩, f5⟩ wf5
    have fr5 := fr4.trans f5
    rw [cont_app]
    simp only [W_skip, W_ops, W_sops, W_seq, W_block, W_exit, W_ret, W_cond, U_seq, U_seq_exit, U_seq_ret, U_blk, U_blk_ret, U_blk_exit, again_exit', again_ret', again_normal', U_ret1, S_nil, S_gd, S_ld, S_lda, S_fld, S_len, S_ix, S_call, S_callv, S_func, S_move, S_assign, S_pick, S_bin, S_not, gdo_tt, gdo_ff, gdo_tf, gdo_ft, br_true, br_false, fin_val, ldV_ptr, ldaV_ptr, fldV_ptr, lenV_slice, not_bool, pick_true, pick_false, b_lss, b_leq, b_gtr, b_geq, b_eql, b_neq, b_add, b_sub, lift1_some, ev_tmp, ev_const, eput_app, eput_none, List.map_cons, List.map_nil, Nat.reduceEqDiff, Nat.succ_ne_self, Nat.reduceBEq, ↓reduceIte, reduceIte, decide_true, decide_false, Bool.not_true, Bool.not_false, if_true_left, Nat.one_ne_zero, Nat.zero_ne_one, not_true_eq_false, not_false_eq_true, S_nilc, nilc_ptr, S_ext, ext0, ext1]
    have hol : (outA a (T.mk s ks) pth).length < 4294967296 := Nat.lt_of_le_of_lt outA_len (by omega)
    have i4 : IsInts H5.get sv (outA a (T.mk s ks) pth) := (ho4.ints hol).mono (f5.sub wf4)
    have i5 : IsInts H5.get sv2 (outA a (T.mk s ks) pth) := ho5.ints hol
    have c4 : sv.cells = #[sv] := by obtain ⟨_, _, rfl, _⟩ := i4; rfl
    have c5 : sv2.cells = #[sv2] := by obtain ⟨_, _, rfl, _⟩ := i5; rfl
    refine S_one ty46 rfl ty26 rfl rfl (by decide) (show (1 : Nat) ≤ 16777216 by omega) (by simp only [W_skip, W_ops, W_sops, W_seq, W_block, W_exit, W_ret, W_cond, U_seq, U_seq_exit, U_seq_ret, U_blk, U_blk_ret, U_blk_exit, again_exit', again_ret', again_normal', U_ret1, S_nil, S_gd, S_ld, S_lda, S_fld, S_len, S_ix, S_call, S_callv, S_func, S_move, S_assign, S_pick, S_bin, S_not, gdo_tt, gdo_ff, gdo_tf, gdo_ft, br_true, br_false, fin_val, ldV_ptr, ldaV_ptr, fldV_ptr, lenV_slice, not_bool, pick_true, pick_false, b_lss, b_leq, b_gtr, b_geq, b_eql, b_neq, b_add, b_sub, lift1_some, ev_tmp, ev_const, eput_app, eput_none, List.map_cons, List.map_nil, Nat.reduceEqDiff, Nat.succ_ne_self, Nat.reduceBEq, ↓reduceIte, reduceIte, decide_true, decide_false, Bool.not_true, Bool.not_false, if_true_left, Nat.one_ne_zero, Nat.zero_ne_one, not_true_eq_false, not_false_eq_true, S_nilc, nilc_ptr, S_ext, ext0, ext1, c5]; rfl) fun H6 f6 n6 g6 => ?_
    simp only [W_skip, W_ops, W_sops, W_seq, W_block, W_exit, W_ret, W_cond, U_seq, U_seq_exit, U_seq_ret, U_blk, U_blk_ret, U_blk_exit, again_exit', again_ret', again_normal', U_ret1, S_nil, S_gd, S_ld, S_lda, S_fld, S_len, S_ix, S_call, S_callv, S_func, S_move, S_assign, S_pick, S_bin, S_not, gdo_tt, gdo_ff, gdo_tf, gdo_ft, br_true, br_false, fin_val, ldV_ptr, ldaV_ptr, fldV_ptr, lenV_slice, not_bool, pick_true, pick_false, b_lss, b_leq, b_gtr, b_geq, b_eql, b_neq, b_add, b_sub, lift1_some, ev_tmp, ev_const, eput_app, eput_none, List.map_cons, List.map_nil, Nat.reduceEqDiff, Nat.succ_ne_self, Nat.reduceBEq, ↓reduceIte, reduceIte, decide_true, decide_false, Bool.not_true, Bool.not_false, if_true_left, Nat.one_ne_zero, Nat.zero_ne_one, not_true_eq_false, not_false_eq_true, S_nilc, nilc_ptr, S_ext, ext0, ext1, c5] at g6 ⊢
    refine S_one ty46 rfl ty26 rfl rfl (by decide) (show (1 : Nat) ≤ 16777216 by omega) (by simp only [W_skip, W_ops, W_sops, W_seq, W_block, W_exit, W_ret, W_cond, U_seq, U_seq_exit, U_seq_ret, U_blk, U_blk_ret, U_blk_exit, again_exit', again_ret', again_normal', U_ret1, S_nil, S_gd, S_ld, S_lda, S_fld, S_len, S_ix, S_call, S_callv, S_func, S_move, S_assign, S_pick, S_bin, S_not, gdo_tt, gdo_ff, gdo_tf, gdo_ft, br_true, br_false, fin_val, ldV_ptr, ldaV_ptr, fldV_ptr, lenV_slice, not_bool, pick_true, pick_false, b_lss, b_leq, b_gtr, b_geq, b_eql, b_neq, b_add, b_sub, lift1_some, ev_tmp, ev_const, eput_app, eput_none, List.map_cons, List.map_nil, Nat.reduceEqDiff, Nat.succ_ne_self, Nat.reduceBEq, ↓reduceIte, reduceIte, decide_true, decide_false, Bool.not_true, Bool.not_false, if_true_left, Nat.one_ne_zero, Nat.zero_ne_one, not_true_eq_false, not_false_eq_true, S_nilc, nilc_ptr, S_ext, ext0, ext1, c4]; rfl) fun H7 f7 n7 g7 => ?_
    simp only [W_skip, W_ops, W_sops, W_seq, W_block, W_exit, W_ret, W_cond, U_seq, U_seq_exit, U_seq_ret, U_blk, U_blk_ret, U_blk_exit, again_exit', again_ret', again_normal', U_ret1, S_nil, S_gd, S_ld, S_lda, S_fld, S_len, S_ix, S_call, S_callv, S_func, S_move, S_assign, S_pick, S_bin, S_not, gdo_tt, gdo_ff, gdo_tf, gdo_ft, br_true, br_false, fin_val, ldV_ptr, ldaV_ptr, fldV_ptr, lenV_slice, not_bool, pick_true, pick_false, b_lss, b_leq, b_gtr, b_geq, b_eql, b_neq, b_add, b_sub, lift1_some, ev_tmp, ev_const, eput_app, eput_none, List.map_cons, List.map_nil, Nat.reduceEqDiff, Nat.succ_ne_self, Nat.reduceBEq, ↓reduceIte, reduceIte, decide_true, decide_false, Bool.not_true, Bool.not_false, if_true_left, Nat.one_ne_zero, Nat.zero_ne_one, not_true_eq_false, not_false_eq_true, S_nilc, nilc_ptr, S_ext, ext0, ext1, c4] at g7 ⊢
    have g6' : H7.get H5.nxt = _ := (f7.old _ (by omega)).trans g6
    have s57 := (f6.trans f7).sub wf5
    refine call_then (paths21 (one_paths g6' (i5.mono s57)) (one_paths g7 (i4.mono s57))) ?_
    rintro _ H8 ⟨rfl, f8⟩ wf8
    have fr8 := ((fr5.trans f6).trans f7).trans f8
    rw [cont_app]
    simp only [W_skip, W_ops, W_sops, W_seq, W_block, W_exit, W_ret, W_cond, U_seq, U_seq_exit, U_seq_ret, U_blk, U_blk_ret, U_blk_exit, again_exit', again_ret', again_normal', U_ret1, S_nil, S_gd, S_ld, S_lda, S_fld, S_len, S_ix, S_call, S_callv, S_func, S_move, S_assign, S_pick, S_bin, S_not, gdo_tt, gdo_ff, gdo_tf, gdo_ft, br_true, br_false, fin_val, ldV_ptr, ldaV_ptr, fldV_ptr, lenV_slice, not_bool, pick_true, pick_false, b_lss, b_leq, b_gtr, b_geq, b_eql, b_neq, b_add, b_sub, lift1_some, ev_tmp, ev_const, eput_app, eput_none, List.map_cons, List.map_nil, Nat.reduceEqDiff, Nat.succ_ne_self, Nat.reduceBEq, ↓reduceIte, reduceIte, decide_true, decide_false, Bool.not_true, Bool.not_false, if_true_left, Nat.one_ne_zero, Nat.zero_ne_one, not_true_eq_false, not_false_eq_true, S_nilc, nilc_ptr, S_ext, ext0, ext1]
    refine call_then (alive12 (gsub fr8)) ?_
    rintro _ H9 ⟨rfl, rfl⟩ wf9
    rw [cont_app]
    simp only [W_skip, W_ops, W_sops, W_seq, W_block, W_exit, W_ret, W_cond, U_seq, U_seq_exit, U_seq_ret, U_blk, U_blk_ret, U_blk_exit, again_exit', again_ret', again_normal', U_ret1, S_nil, S_gd, S_ld, S_lda, S_fld, S_len, S_ix, S_call, S_callv, S_func, S_move, S_assign, S_pick, S_bin, S_not, gdo_tt, gdo_ff, gdo_tf, gdo_ft, br_true, br_false, fin_val, ldV_ptr, ldaV_ptr, fldV_ptr, lenV_slice, not_bool, pick_true, pick_false, b_lss, b_leq, b_gtr, b_geq, b_eql, b_neq, b_add, b_sub, lift1_some, ev_tmp, ev_const, eput_app, eput_none, List.map_cons, List.map_nil, Nat.reduceEqDiff, Nat.succ_ne_self, Nat.reduceBEq, ↓reduceIte, reduceIte, decide_true, decide_false, Bool.not_true, Bool.not_false, if_true_left, Nat.one_ne_zero, Nat.zero_ne_one, not_true_eq_false, not_false_eq_true, S_nilc, nilc_ptr, S_ext, ext0, ext1]

end Go.Proofs.YtcfjimhbachmlaaGreatDoor.E
