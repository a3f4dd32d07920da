/- Contracts: trees, the reference's. -/
import Derived.Test.YtcfjimhbachmlaaGreatDoorM5
import Derived.Test.YtcfjimhbachmlaaGreatDoorM3
set_option linter.unusedVariables false
set_option linter.unusedSimpArgs false

namespace Go.Proofs.YtcfjimhbachmlaaGreatDoor.E
open Go Go.Proofs
open Go.Proofs.YtcfjimhbachmlaaGreatDoor.L

section
variable {Y : Env} {P : Program} {K : List KF} {Q : EPost} {g : Fm} {H : Heap}
theorem S_max {d x y ts l k k2 a b} (hx : ev g x = .int k a) (hy : ev g y = .int k2 b) : S Y P ((d, none, .raw (.call ⟨.builtin .max, #[x, y], ts⟩)) :: l) K Q g H = S Y P l K Q (eput g d (.int k (if b > a then b else a))) H := by
  rw [S_cons]
  have : sop Y (ev g) H.nxt (.raw (.call ⟨.builtin .max, #[x, y], ts⟩)) H = some (.val (.int k (if b > a then b else a)), H) := by
    simp only [sop, eop, List.map_cons, List.map_nil, hx, hy, ebuiltin, emax, lift2]
  rw [this]; rfl
end

theorem box_agg {x y : Value} : (Value.agg #[x, y]).cells.toList = [x, y] := rfl

/-- virgationref06.Nodes -/
def c49 : C2 :=
  .seq (.ops [(some 2, none, .raw (.box 37 (.tmp 0))),
    (some 4, none, .raw (.assign (.const (.int .i64 0))))]) (
  .seq (.ops [(some 5, none, .raw (.assign (.const (.int .i64 1))))]) (
  .seq (.seq (.ops [(some 6, none, .raw (.assign (.const (.int .i64 0))))]) (
  .block 0 (
    .loop (
      .seq (.seq (.ops [(some 7, none, .raw (.move (.tmp 6))),
        (some 8, none, .fld 1 (.tmp 2)),
        (some 9, none, .ld (.tmp 8)),
        (some 10, none, .len (.tmp 9)),
        (some 11, none, .raw (.binOp .lss 3 (.tmp 7) (.tmp 10) 3)),
        (some 12, none, .raw (.move (.tmp 11))),
        (some 13, some (12, true), .raw (.move (.tmp 5))),
        (some 14, some (12, true), .raw (.move (.tmp 1))),
        (some 15, some (12, true), .raw (.binOp .leq 3 (.tmp 13) (.tmp 14) 3)),
        (some 16, none, .raw (.pick (.tmp 12) (.tmp 15) (.const (.bool false))))]) (
      .cond (.tmp 16) (
        .skip) (
        .exit 0))) (
      .seq (.block 1 (
        .ops [(some 19, none, .raw (.move (.tmp 5))),
          (some 20, none, .fld 1 (.tmp 2)),
          (some 21, none, .ld (.tmp 20)),
          (some 22, none, .raw (.move (.tmp 6))),
          (some 23, none, .ix 2 (.tmp 21) (.tmp 22)),
          (some 24, none, .lda 2 (.tmp 23)),
          (some 25, none, .raw (.move (.tmp 1))),
          (some 26, none, .raw (.move (.tmp 5))),
          (some 27, none, .raw (.binOp .sub 3 (.tmp 25) (.tmp 26) 3)),
          (some 28, none, .call 49 [(.tmp 24), (.tmp 27)]),
          (some 29, none, .raw (.binOp .add 3 (.tmp 19) (.tmp 28) 3)),
          (some 5, none, .raw (.assign (.tmp 29)))])) (
      .ops [(some 17, none, .raw (.move (.tmp 6))),
        (some 18, none, .raw (.binOp .add 3 (.tmp 17) (.const (.int .i64 1)) 3)),
        (some 6, none, .raw (.assign (.tmp 18)))])))))) (
  .seq (.ops [(some 30, none, .raw (.move (.tmp 5))),
    (some 4, none, .raw (.assign (.tmp 30)))]) (
  .ret))))
theorem fc49 : facts 49 = some (c49, [.tmp 4], 31) := by kernel_rfl

/-- virgationref06.Depth -/
def c26 : C2 :=
  .seq (.ops [(some 1, none, .raw (.box 37 (.tmp 0))),
    (some 2, none, .raw (.assign (.const (.int .i64 0))))]) (
  .seq (.ops [(some 3, none, .raw (.assign (.const (.int .i64 0))))]) (
  .seq (.seq (.ops [(some 6, none, .fld 1 (.tmp 1)),
    (some 7, none, .ld (.tmp 6)),
    (some 8, none, .len (.tmp 7)),
    (some 9, none, .raw (.move (.const (.int .i64 0))))]) (
  .block 0 (
    .loop (
      .seq (.ops [(some 10, none, .raw (.binOp .lss 3 (.tmp 9) (.tmp 8) 3))]) (
      .seq (.cond (.tmp 10) (
        .skip) (
        .exit 0)) (
      .seq (.block 1 (
        .seq (.ops [(some 11, none, .ix 2 (.tmp 7) (.tmp 9)),
          (some 12, none, .lda 2 (.tmp 11)),
          (some 5, none, .alloc 37 [.int .i64 0, .slice none 0 0]),
          (none, none, .st 2 (.tmp 5) (.tmp 12))]) (
        .ops [(some 13, none, .raw (.move (.tmp 3))),
          (some 14, none, .lda 2 (.tmp 5)),
          (some 15, none, .call 26 [(.tmp 14)]),
          (some 16, none, .raw (.call ⟨.builtin .max, #[(.tmp 13), (.tmp 15)], #[3, 3]⟩)),
          (some 3, none, .raw (.assign (.tmp 16)))]))) (
      .ops [(some 17, none, .raw (.binOp .add 3 (.tmp 9) (.const (.int .i64 1)) 3)),
        (some 9, none, .raw (.move (.tmp 17)))]))))))) (
  .seq (.ops [(some 18, none, .raw (.move (.tmp 3))),
    (some 19, none, .raw (.binOp .add 3 (.tmp 18) (.const (.int .i64 1)) 3)),
    (some 2, none, .raw (.assign (.tmp 19)))]) (
  .ret))))
theorem fc26 : facts 26 = some (c26, [.tmp 2], 20) := by kernel_rfl

/-- virgationref06.over -/
def c77 : C2 :=
  .seq (.ops [(some 3, none, .raw (.box 37 (.tmp 1))),
    (some 4, none, .raw (.assign (.const (.bool false))))]) (
  .seq (.seq (.sops 37 [(some 7, none, .fld 0 (.tmp 3)),
    (some 8, none, .ld (.tmp 7)),
    (some 9, none, .raw (.binOp .lss 3 (.tmp 8) (.const (.int .i64 (-1))) 3)),
    (some 10, none, .raw (.move (.tmp 9))),
    (some 11, some (10, false), .fld 0 (.tmp 3)),
    (some 12, some (10, false), .ld (.tmp 11)),
    (some 13, some (10, false), .raw (.move (.tmp 0))),
    (some 14, some (10, false), .len (.tmp 13)),
    (some 15, some (10, false), .raw (.binOp .geq 3 (.tmp 12) (.tmp 14) 3)),
    (some 16, none, .raw (.pick (.tmp 10) (.const (.bool true)) (.tmp 15))),
    (some 17, none, .raw (.move (.tmp 16))),
    (some 18, some (17, false), .fld 0 (.tmp 3)),
    (some 19, some (17, false), .ld (.tmp 18)),
    (some 20, some (17, false), .raw (.binOp .eql 3 (.tmp 19) (.const (.int .i64 (-1))) 3)),
    (some 21, some (17, false), .raw (.move (.tmp 20))),
    (some 22, some (21, true), .fld 1 (.tmp 3)),
    (some 23, some (21, true), .ld (.tmp 22)),
    (some 24, some (21, true), .len (.tmp 23)),
    (some 25, some (21, true), .raw (.binOp .gtr 3 (.tmp 24) (.const (.int .i64 0)) 3)),
    (some 26, some (17, false), .raw (.pick (.tmp 21) (.tmp 25) (.const (.bool false)))),
    (some 27, none, .raw (.pick (.tmp 17) (.const (.bool true)) (.tmp 26))),
    (some 28, none, .raw (.move (.tmp 27))),
    (some 29, some (28, false), .fld 0 (.tmp 3)),
    (some 30, some (28, false), .ld (.tmp 29)),
    (some 31, some (28, false), .raw (.binOp .geq 3 (.tmp 30) (.const (.int .i64 0)) 3)),
    (some 32, some (28, false), .raw (.move (.tmp 31))),
    (some 33, some (32, true), .fld 1 (.tmp 3)),
    (some 34, some (32, true), .ld (.tmp 33)),
    (some 35, some (32, true), .len (.tmp 34)),
    (some 36, some (32, true), .raw (.move (.tmp 0))),
    (some 37, some (32, true), .fld 0 (.tmp 3)),
    (some 38, some (32, true), .ld (.tmp 37)),
    (some 39, some (32, true), .ix 1 (.tmp 36) (.tmp 38)),
    (some 40, some (32, true), .ld (.tmp 39)),
    (some 41, some (32, true), .raw (.binOp .neq 3 (.tmp 35) (.tmp 40) 3)),
    (some 42, some (28, false), .raw (.pick (.tmp 32) (.tmp 41) (.const (.bool false)))),
    (some 43, none, .raw (.pick (.tmp 28) (.const (.bool true)) (.tmp 42)))]) (
  .cond (.tmp 43) (
    .seq (.ops [(some 4, none, .raw (.assign (.const (.bool false))))]) (
    .ret)) (
    .skip))) (
  .seq (.seq (.ops [(some 44, none, .fld 1 (.tmp 3)),
    (some 45, none, .ld (.tmp 44)),
    (some 46, none, .len (.tmp 45)),
    (some 47, none, .raw (.move (.const (.int .i64 0))))]) (
  .block 0 (
    .loop (
      .seq (.ops [(some 48, none, .raw (.binOp .lss 3 (.tmp 47) (.tmp 46) 3))]) (
      .seq (.cond (.tmp 48) (
        .skip) (
        .exit 0)) (
      .seq (.block 1 (
        .seq (.ops [(some 49, none, .ix 2 (.tmp 45) (.tmp 47)),
          (some 50, none, .lda 2 (.tmp 49)),
          (some 6, none, .alloc 37 [.int .i64 0, .slice none 0 0]),
          (none, none, .st 2 (.tmp 6) (.tmp 50))]) (
        .seq (.ops [(some 51, none, .raw (.move (.tmp 0))),
          (some 52, none, .lda 2 (.tmp 6)),
          (some 53, none, .call 77 [(.tmp 51), (.tmp 52)]),
          (some 54, none, .raw (.unOp .not 4 (.tmp 53)))]) (
        .cond (.tmp 54) (
          .seq (.ops [(some 4, none, .raw (.assign (.const (.bool false))))]) (
          .ret)) (
          .skip))))) (
      .ops [(some 55, none, .raw (.binOp .add 3 (.tmp 47) (.const (.int .i64 1)) 3)),
        (some 47, none, .raw (.move (.tmp 55)))]))))))) (
  .seq (.ops [(some 4, none, .raw (.assign (.const (.bool true))))]) (
  .ret))))
theorem fc77 : facts 77 = some (c77, [.tmp 4], 56) := by kernel_rfl

theorem nodes49 : ∀ (n : Nat) (t : T) (H : Heap) (cs : List Value) (m : Int), t.size ≤ n → IsT H.get cs t → 0 ≤ m → m < 4294967296 →
    SC Tryz.prog 49 #[.agg cs.toArray, .int .i64 m] H (fun v H' => v = .int .i64 (min (t.size : Int) (m + 1)) ∧ Fr H H') := by
  intro n
  induction n with
  | zero => intro t H cs m hn; have := size_pos t; omega
  | succ n ih =>
    intro t H cs m hn ht hm0 hm1
    obtain ⟨s, ks⟩ := t
    refine SC_of_W fc49 (by simp) fun hwf => ?_
    obtain ⟨kv, rfl, hk⟩ := ht.inv
    obtain ⟨p, c, rfl, hlen, hat⟩ := hk
    have kn := Kn.self hwf
    rw [size_mk] at hn ⊢
    unfold c49
    simp only [W_skip, W_ops, W_sops, W_seq, W_block, W_exit, W_ret, W_cond, U_seq, U_seq_exit, U_seq_ret, U_blk, U_blk_ret, U_blk_exit, again_exit', again_ret', again_normal', U_ret1, S_nil, S_gd, S_ld, S_lda, S_fld, S_len, S_ix, S_call, S_callv, S_func, S_move, S_assign, S_pick, S_bin, S_not, gdo_tt, gdo_ff, gdo_tf, gdo_ft, br_true, br_false, fin_val, ldV_ptr, ldaV_ptr, fldV_ptr, lenV_slice, not_bool, pick_true, pick_false, b_lss, b_leq, b_gtr, b_geq, b_eql, b_neq, b_add, b_sub, lift1_some, ev_tmp, ev_const, eput_app, eput_none, List.map_cons, List.map_nil, Nat.reduceEqDiff, Nat.succ_ne_self, Nat.reduceBEq, ↓reduceIte, reduceIte, decide_true, decide_false, Bool.not_true, Bool.not_false, if_true_left, Nat.one_ne_zero, Nat.zero_ne_one, not_true_eq_false, not_false_eq_true]
    refine S_box fun HB fB nB gB => ?_
    simp only [W_skip, W_ops, W_sops, W_seq, W_block, W_exit, W_ret, W_cond, U_seq, U_seq_exit, U_seq_ret, U_blk, U_blk_ret, U_blk_exit, again_exit', again_ret', again_normal', U_ret1, S_nil, S_gd, S_ld, S_lda, S_fld, S_len, S_ix, S_call, S_callv, S_func, S_move, S_assign, S_pick, S_bin, S_not, gdo_tt, gdo_ff, gdo_tf, gdo_ft, br_true, br_false, fin_val, ldV_ptr, ldaV_ptr, fldV_ptr, lenV_slice, not_bool, pick_true, pick_false, b_lss, b_leq, b_gtr, b_geq, b_eql, b_neq, b_add, b_sub, lift1_some, ev_tmp, ev_const, eput_app, eput_none, List.map_cons, List.map_nil, Nat.reduceEqDiff, Nat.succ_ne_self, Nat.reduceBEq, ↓reduceIte, reduceIte, decide_true, decide_false, Bool.not_true, Bool.not_false, if_true_left, Nat.one_ne_zero, Nat.zero_ne_one, not_true_eq_false, not_false_eq_true, f2_0, f2_1, box_agg] at gB ⊢
    refine W_loop (fun k g H1 => ∃ i, k = ks.length - i ∧ i ≤ ks.length ∧ g 1 = .int .i64 m ∧ g 2 = .pointer (some ⟨H.nxt, 0, none⟩) ∧ g 5 = .int .i64 (min (1 + (sizes (ks.take i) : Int)) (m + 1)) ∧ g 6 = .int .i64 (i : Nat) ∧ Fr HB H1) ?_ ks.length ⟨0, ?_⟩
    · rintro k g H1 ⟨i, rfl, hi, h1, h2, h5, h6, fr⟩
      have frH := fB.trans fr
      have kn1 := kn.fr frH
      have g1 : H1.get H.nxt = _ := (fr.old _ (by omega)).trans gB
      have q1 := own_cell 1 g1 rfl rfl
      simp only [W_skip, W_ops, W_sops, W_seq, W_block, W_exit, W_ret, W_cond, U_seq, U_seq_exit, U_seq_ret, U_blk, U_blk_ret, U_blk_exit, again_exit', again_ret', again_normal', U_ret1, S_nil, S_gd, S_ld, S_lda, S_fld, S_len, S_ix, S_call, S_callv, S_func, S_move, S_assign, S_pick, S_bin, S_not, gdo_tt, gdo_ff, gdo_tf, gdo_ft, br_true, br_false, fin_val, ldV_ptr, ldaV_ptr, fldV_ptr, lenV_slice, not_bool, pick_true, pick_false, b_lss, b_leq, b_gtr, b_geq, b_eql, b_neq, b_add, b_sub, lift1_some, ev_tmp, ev_const, eput_app, eput_none, List.map_cons, List.map_nil, Nat.reduceEqDiff, Nat.succ_ne_self, Nat.reduceBEq, ↓reduceIte, reduceIte, decide_true, decide_false, Bool.not_true, Bool.not_false, if_true_left, Nat.one_ne_zero, Nat.zero_ne_one, not_true_eq_false, not_false_eq_true, h1, h2, h5, h6, own_add, q1]
      refine gdo_of ?_ ?_ <;> intro hA
      · have hi' : i < ks.length := by simpa using hA
        simp only [W_skip, W_ops, W_sops, W_seq, W_block, W_exit, W_ret, W_cond, U_seq, U_seq_exit, U_seq_ret, U_blk, U_blk_ret, U_blk_exit, again_exit', again_ret', again_normal', U_ret1, S_nil, S_gd, S_ld, S_lda, S_fld, S_len, S_ix, S_call, S_callv, S_func, S_move, S_assign, S_pick, S_bin, S_not, gdo_tt, gdo_ff, gdo_tf, gdo_ft, br_true, br_false, fin_val, ldV_ptr, ldaV_ptr, fldV_ptr, lenV_slice, not_bool, pick_true, pick_false, b_lss, b_leq, b_gtr, b_geq, b_eql, b_neq, b_add, b_sub, lift1_some, ev_tmp, ev_const, eput_app, eput_none, List.map_cons, List.map_nil, Nat.reduceEqDiff, Nat.succ_ne_self, Nat.reduceBEq, ↓reduceIte, reduceIte, decide_true, decide_false, Bool.not_true, Bool.not_false, if_true_left, Nat.one_ne_zero, Nat.zero_ne_one, not_true_eq_false, not_false_eq_true, hA, h1, h5]
        refine br_of ?_ ?_ <;> intro hB
        · simp only [decide_eq_true_eq] at hB
          have hB' : 1 + (sizes (ks.take i) : Int) ≤ m := by omega
          have e1 : min (1 + (sizes (ks.take i) : Int)) (m + 1) = 1 + sizes (ks.take i) := by omega
          rw [e1] at h5
          obtain ⟨b, cs2, rfl, hs, hI⟩ := hat i ks[i] (by simp [hi'])
          have hc : H1.cellsFrom (b.add (i * 2)) 0 2 = some cs2 := kn1.cells hs
          simp only [W_skip, W_ops, W_sops, W_seq, W_block, W_exit, W_ret, W_cond, U_seq, U_seq_exit, U_seq_ret, U_blk, U_blk_ret, U_blk_exit, again_exit', again_ret', again_normal', U_ret1, S_nil, S_gd, S_ld, S_lda, S_fld, S_len, S_ix, S_call, S_callv, S_func, S_move, S_assign, S_pick, S_bin, S_not, gdo_tt, gdo_ff, gdo_tf, gdo_ft, br_true, br_false, fin_val, ldV_ptr, ldaV_ptr, fldV_ptr, lenV_slice, not_bool, pick_true, pick_false, b_lss, b_leq, b_gtr, b_geq, b_eql, b_neq, b_add, b_sub, lift1_some, ev_tmp, ev_const, eput_app, eput_none, List.map_cons, List.map_nil, Nat.reduceEqDiff, Nat.succ_ne_self, Nat.reduceBEq, ↓reduceIte, reduceIte, decide_true, decide_false, Bool.not_true, Bool.not_false, if_true_left, Nat.one_ne_zero, Nat.zero_ne_one, not_true_eq_false, not_false_eq_true, h1, h2, h5, h6, own_add, q1, ixV_at hi', hc]
          rw [wrap64 (by omega) (by omega)]
          have hsz := size_kid hi'
          refine call_then (ih ks[i] H1 cs2 _ (by omega) (hI.mono (frH.sub hwf)) (by omega) (by omega)) ?_
          rintro _ H2 ⟨rfl, f2⟩ wf2
          have fr2 := fr.trans f2
          rw [cont_app]
          simp only [W_skip, W_ops, W_sops, W_seq, W_block, W_exit, W_ret, W_cond, U_seq, U_seq_exit, U_seq_ret, U_blk, U_blk_ret, U_blk_exit, again_exit', again_ret', again_normal', U_ret1, S_nil, S_gd, S_ld, S_lda, S_fld, S_len, S_ix, S_call, S_callv, S_func, S_move, S_assign, S_pick, S_bin, S_not, gdo_tt, gdo_ff, gdo_tf, gdo_ft, br_true, br_false, fin_val, ldV_ptr, ldaV_ptr, fldV_ptr, lenV_slice, not_bool, pick_true, pick_false, b_lss, b_leq, b_gtr, b_geq, b_eql, b_neq, b_add, b_sub, lift1_some, ev_tmp, ev_const, eput_app, eput_none, List.map_cons, List.map_nil, Nat.reduceEqDiff, Nat.succ_ne_self, Nat.reduceBEq, ↓reduceIte, reduceIte, decide_true, decide_false, Bool.not_true, Bool.not_false, if_true_left, Nat.one_ne_zero, Nat.zero_ne_one, not_true_eq_false, not_false_eq_true, h1, h2, h5, h6]
          rw [wrap64 (by omega) (by omega), wrap_succ (by omega)]
          refine ⟨ks.length - (i + 1), by omega, i + 1, rfl, hi', trivial, trivial, ?_, rfl, fr2⟩
          rw [sizes_take hi']
          congr 1 <;> omega
        · simp only [W_skip, W_ops, W_sops, W_seq, W_block, W_exit, W_ret, W_cond, U_seq, U_seq_exit, U_seq_ret, U_blk, U_blk_ret, U_blk_exit, again_exit', again_ret', again_normal', U_ret1, S_nil, S_gd, S_ld, S_lda, S_fld, S_len, S_ix, S_call, S_callv, S_func, S_move, S_assign, S_pick, S_bin, S_not, gdo_tt, gdo_ff, gdo_tf, gdo_ft, br_true, br_false, fin_val, ldV_ptr, ldaV_ptr, fldV_ptr, lenV_slice, not_bool, pick_true, pick_false, b_lss, b_leq, b_gtr, b_geq, b_eql, b_neq, b_add, b_sub, lift1_some, ev_tmp, ev_const, eput_app, eput_none, List.map_cons, List.map_nil, Nat.reduceEqDiff, Nat.succ_ne_self, Nat.reduceBEq, ↓reduceIte, reduceIte, decide_true, decide_false, Bool.not_true, Bool.not_false, if_true_left, Nat.one_ne_zero, Nat.zero_ne_one, not_true_eq_false, not_false_eq_true, h5]
          simp only [decide_eq_false_iff_not] at hB
          have := sizes_take_le ks i
          refine ⟨?_, frH⟩
          congr 1 <;> omega
      · simp only [W_skip, W_ops, W_sops, W_seq, W_block, W_exit, W_ret, W_cond, U_seq, U_seq_exit, U_seq_ret, U_blk, U_blk_ret, U_blk_exit, again_exit', again_ret', again_normal', U_ret1, S_nil, S_gd, S_ld, S_lda, S_fld, S_len, S_ix, S_call, S_callv, S_func, S_move, S_assign, S_pick, S_bin, S_not, gdo_tt, gdo_ff, gdo_tf, gdo_ft, br_true, br_false, fin_val, ldV_ptr, ldaV_ptr, fldV_ptr, lenV_slice, not_bool, pick_true, pick_false, b_lss, b_leq, b_gtr, b_geq, b_eql, b_neq, b_add, b_sub, lift1_some, ev_tmp, ev_const, eput_app, eput_none, List.map_cons, List.map_nil, Nat.reduceEqDiff, Nat.succ_ne_self, Nat.reduceBEq, ↓reduceIte, reduceIte, decide_true, decide_false, Bool.not_true, Bool.not_false, if_true_left, Nat.one_ne_zero, Nat.zero_ne_one, not_true_eq_false, not_false_eq_true, hA, h5]
        have hi' : i = ks.length := by simp at hA; omega
        subst hi'
        rw [List.take_length]
        refine ⟨?_, frH⟩
        congr 1 <;> omega
    · simp only [W_skip, W_ops, W_sops, W_seq, W_block, W_exit, W_ret, W_cond, U_seq, U_seq_exit, U_seq_ret, U_blk, U_blk_ret, U_blk_exit, again_exit', again_ret', again_normal', U_ret1, S_nil, S_gd, S_ld, S_lda, S_fld, S_len, S_ix, S_call, S_callv, S_func, S_move, S_assign, S_pick, S_bin, S_not, gdo_tt, gdo_ff, gdo_tf, gdo_ft, br_true, br_false, fin_val, ldV_ptr, ldaV_ptr, fldV_ptr, lenV_slice, not_bool, pick_true, pick_false, b_lss, b_leq, b_gtr, b_geq, b_eql, b_neq, b_add, b_sub, lift1_some, ev_tmp, ev_const, eput_app, eput_none, List.map_cons, List.map_nil, Nat.reduceEqDiff, Nat.succ_ne_self, Nat.reduceBEq, ↓reduceIte, reduceIte, decide_true, decide_false, Bool.not_true, Bool.not_false, if_true_left, Nat.one_ne_zero, Nat.zero_ne_one, not_true_eq_false, not_false_eq_true, f2_0, f2_1]
      simp [sizes, Fr.refl]
      try omega

theorem depth26 : ∀ (n : Nat) (t : T) (H : Heap) (cs : List Value), t.size ≤ n → n < 4294967296 → IsT H.get cs t →
    SC Tryz.prog 26 #[.agg cs.toArray] H (fun v H' => v = .int .i64 (t.depth : Int) ∧ Fr H H') := by
  intro n
  induction n with
  | zero => intro t H cs hn; have := size_pos t; omega
  | succ n ih =>
    intro t H cs hn hn1 ht
    have hdep := depth_le t
    obtain ⟨s, ks⟩ := t
    refine SC_of_W fc26 (by simp) fun hwf => ?_
    obtain ⟨kv, rfl, hk⟩ := ht.inv
    obtain ⟨p, c, rfl, hlen, hat⟩ := hk
    have kn := Kn.self hwf
    rw [size_mk] at hn hdep
    rw [depth_mk] at hdep ⊢
    unfold c26
    simp only [W_skip, W_ops, W_sops, W_seq, W_block, W_exit, W_ret, W_cond, U_seq, U_seq_exit, U_seq_ret, U_blk, U_blk_ret, U_blk_exit, again_exit', again_ret', again_normal', U_ret1, S_nil, S_gd, S_ld, S_lda, S_fld, S_len, S_ix, S_call, S_callv, S_func, S_move, S_assign, S_pick, S_bin, S_not, gdo_tt, gdo_ff, gdo_tf, gdo_ft, br_true, br_false, fin_val, ldV_ptr, ldaV_ptr, fldV_ptr, lenV_slice, not_bool, pick_true, pick_false, b_lss, b_leq, b_gtr, b_geq, b_eql, b_neq, b_add, b_sub, lift1_some, ev_tmp, ev_const, eput_app, eput_none, List.map_cons, List.map_nil, Nat.reduceEqDiff, Nat.succ_ne_self, Nat.reduceBEq, ↓reduceIte, reduceIte, decide_true, decide_false, Bool.not_true, Bool.not_false, if_true_left, Nat.one_ne_zero, Nat.zero_ne_one, not_true_eq_false, not_false_eq_true]
    refine S_box fun HB fB nB gB => ?_
    simp only [W_skip, W_ops, W_sops, W_seq, W_block, W_exit, W_ret, W_cond, U_seq, U_seq_exit, U_seq_ret, U_blk, U_blk_ret, U_blk_exit, again_exit', again_ret', again_normal', U_ret1, S_nil, S_gd, S_ld, S_lda, S_fld, S_len, S_ix, S_call, S_callv, S_func, S_move, S_assign, S_pick, S_bin, S_not, gdo_tt, gdo_ff, gdo_tf, gdo_ft, br_true, br_false, fin_val, ldV_ptr, ldaV_ptr, fldV_ptr, lenV_slice, not_bool, pick_true, pick_false, b_lss, b_leq, b_gtr, b_geq, b_eql, b_neq, b_add, b_sub, lift1_some, ev_tmp, ev_const, eput_app, eput_none, List.map_cons, List.map_nil, Nat.reduceEqDiff, Nat.succ_ne_self, Nat.reduceBEq, ↓reduceIte, reduceIte, decide_true, decide_false, Bool.not_true, Bool.not_false, if_true_left, Nat.one_ne_zero, Nat.zero_ne_one, not_true_eq_false, not_false_eq_true, f1_0, box_agg] at gB ⊢
    have q1 := own_cell 1 gB rfl rfl
    simp only [W_skip, W_ops, W_sops, W_seq, W_block, W_exit, W_ret, W_cond, U_seq, U_seq_exit, U_seq_ret, U_blk, U_blk_ret, U_blk_exit, again_exit', again_ret', again_normal', U_ret1, S_nil, S_gd, S_ld, S_lda, S_fld, S_len, S_ix, S_call, S_callv, S_func, S_move, S_assign, S_pick, S_bin, S_not, gdo_tt, gdo_ff, gdo_tf, gdo_ft, br_true, br_false, fin_val, ldV_ptr, ldaV_ptr, fldV_ptr, lenV_slice, not_bool, pick_true, pick_false, b_lss, b_leq, b_gtr, b_geq, b_eql, b_neq, b_add, b_sub, lift1_some, ev_tmp, ev_const, eput_app, eput_none, List.map_cons, List.map_nil, Nat.reduceEqDiff, Nat.succ_ne_self, Nat.reduceBEq, ↓reduceIte, reduceIte, decide_true, decide_false, Bool.not_true, Bool.not_false, if_true_left, Nat.one_ne_zero, Nat.zero_ne_one, not_true_eq_false, not_false_eq_true, q1, own_add]
    refine W_loop (fun k g H1 => ∃ i, k = ks.length - i ∧ i ≤ ks.length ∧ g 3 = .int .i64 (depths (ks.take i) : Nat) ∧ g 7 = .slice p ks.length c ∧ g 8 = .int .i64 ks.length ∧ g 9 = .int .i64 (i : Nat) ∧ Fr HB H1) ?_ ks.length ⟨0, ?_⟩
    · rintro k g H1 ⟨i, rfl, hi, h3, h7, h8, h9, fr⟩
      have frH := fB.trans fr
      have kn1 := kn.fr frH
      simp only [W_skip, W_ops, W_sops, W_seq, W_block, W_exit, W_ret, W_cond, U_seq, U_seq_exit, U_seq_ret, U_blk, U_blk_ret, U_blk_exit, again_exit', again_ret', again_normal', U_ret1, S_nil, S_gd, S_ld, S_lda, S_fld, S_len, S_ix, S_call, S_callv, S_func, S_move, S_assign, S_pick, S_bin, S_not, gdo_tt, gdo_ff, gdo_tf, gdo_ft, br_true, br_false, fin_val, ldV_ptr, ldaV_ptr, fldV_ptr, lenV_slice, not_bool, pick_true, pick_false, b_lss, b_leq, b_gtr, b_geq, b_eql, b_neq, b_add, b_sub, lift1_some, ev_tmp, ev_const, eput_app, eput_none, List.map_cons, List.map_nil, Nat.reduceEqDiff, Nat.succ_ne_self, Nat.reduceBEq, ↓reduceIte, reduceIte, decide_true, decide_false, Bool.not_true, Bool.not_false, if_true_left, Nat.one_ne_zero, Nat.zero_ne_one, not_true_eq_false, not_false_eq_true, h3, h7, h8, h9]
      refine br_of ?_ ?_ <;> intro hA
      · have hi' : i < ks.length := by simpa using hA
        obtain ⟨b, cs2, rfl, hs, hI⟩ := hat i ks[i] (by simp [hi'])
        have hsz := size_kid hi'
        generalize hx : ks[i] = x at hI
        obtain ⟨s2, ks2⟩ := x
        obtain ⟨kv2, rfl, hk2⟩ := hI.inv
        obtain ⟨p2, c2, rfl, hlen2, hat2⟩ := hk2
        have hc := kn1.see2 hs
        simp only [W_skip, W_ops, W_sops, W_seq, W_block, W_exit, W_ret, W_cond, U_seq, U_seq_exit, U_seq_ret, U_blk, U_blk_ret, U_blk_exit, again_exit', again_ret', again_normal', U_ret1, S_nil, S_gd, S_ld, S_lda, S_fld, S_len, S_ix, S_call, S_callv, S_func, S_move, S_assign, S_pick, S_bin, S_not, gdo_tt, gdo_ff, gdo_tf, gdo_ft, br_true, br_false, fin_val, ldV_ptr, ldaV_ptr, fldV_ptr, lenV_slice, not_bool, pick_true, pick_false, b_lss, b_leq, b_gtr, b_geq, b_eql, b_neq, b_add, b_sub, lift1_some, ev_tmp, ev_const, eput_app, eput_none, List.map_cons, List.map_nil, Nat.reduceEqDiff, Nat.succ_ne_self, Nat.reduceBEq, ↓reduceIte, reduceIte, decide_true, decide_false, Bool.not_true, Bool.not_false, if_true_left, Nat.one_ne_zero, Nat.zero_ne_one, not_true_eq_false, not_false_eq_true, h3, h7, h8, h9, ixV_at hi', hc]
        refine S_alloc fun H2 f2 n2 g2 => ?_
        refine S_store (id := H1.nxt) (off := 0) (by simp only [W_skip, W_ops, W_sops, W_seq, W_block, W_exit, W_ret, W_cond, U_seq, U_seq_exit, U_seq_ret, U_blk, U_blk_ret, U_blk_exit, again_exit', again_ret', again_normal', U_ret1, S_nil, S_gd, S_ld, S_lda, S_fld, S_len, S_ix, S_call, S_callv, S_func, S_move, S_assign, S_pick, S_bin, S_not, gdo_tt, gdo_ff, gdo_tf, gdo_ft, br_true, br_false, fin_val, ldV_ptr, ldaV_ptr, fldV_ptr, lenV_slice, not_bool, pick_true, pick_false, b_lss, b_leq, b_gtr, b_geq, b_eql, b_neq, b_add, b_sub, lift1_some, ev_tmp, ev_const, eput_app, eput_none, List.map_cons, List.map_nil, Nat.reduceEqDiff, Nat.succ_ne_self, Nat.reduceBEq, ↓reduceIte, reduceIte, decide_true, decide_false, Bool.not_true, Bool.not_false, if_true_left, Nat.one_ne_zero, Nat.zero_ne_one, not_true_eq_false, not_false_eq_true]) (by simp only [W_skip, W_ops, W_sops, W_seq, W_block, W_exit, W_ret, W_cond, U_seq, U_seq_exit, U_seq_ret, U_blk, U_blk_ret, U_blk_exit, again_exit', again_ret', again_normal', U_ret1, S_nil, S_gd, S_ld, S_lda, S_fld, S_len, S_ix, S_call, S_callv, S_func, S_move, S_assign, S_pick, S_bin, S_not, gdo_tt, gdo_ff, gdo_tf, gdo_ft, br_true, br_false, fin_val, ldV_ptr, ldaV_ptr, fldV_ptr, lenV_slice, not_bool, pick_true, pick_false, b_lss, b_leq, b_gtr, b_geq, b_eql, b_neq, b_add, b_sub, lift1_some, ev_tmp, ev_const, eput_app, eput_none, List.map_cons, List.map_nil, Nat.reduceEqDiff, Nat.succ_ne_self, Nat.reduceBEq, ↓reduceIte, reduceIte, decide_true, decide_false, Bool.not_true, Bool.not_false, if_true_left, Nat.one_ne_zero, Nat.zero_ne_one, not_true_eq_false, not_false_eq_true]; rfl) (by omega) g2 (by simp) (by simp) (by simp only [W_skip, W_ops, W_sops, W_seq, W_block, W_exit, W_ret, W_cond, U_seq, U_seq_exit, U_seq_ret, U_blk, U_blk_ret, U_blk_exit, again_exit', again_ret', again_normal', U_ret1, S_nil, S_gd, S_ld, S_lda, S_fld, S_len, S_ix, S_call, S_callv, S_func, S_move, S_assign, S_pick, S_bin, S_not, gdo_tt, gdo_ff, gdo_tf, gdo_ft, br_true, br_false, fin_val, ldV_ptr, ldaV_ptr, fldV_ptr, lenV_slice, not_bool, pick_true, pick_false, b_lss, b_leq, b_gtr, b_geq, b_eql, b_neq, b_add, b_sub, lift1_some, ev_tmp, ev_const, eput_app, eput_none, List.map_cons, List.map_nil, Nat.reduceEqDiff, Nat.succ_ne_self, Nat.reduceBEq, ↓reduceIte, reduceIte, decide_true, decide_false, Bool.not_true, Bool.not_false, if_true_left, Nat.one_ne_zero, Nat.zero_ne_one, not_true_eq_false, not_false_eq_true]; simp [Value.cells, Value.oneCell']) fun H3 n3 o3 g3 => ?_
        simp only [W_skip, W_ops, W_sops, W_seq, W_block, W_exit, W_ret, W_cond, U_seq, U_seq_exit, U_seq_ret, U_blk, U_blk_ret, U_blk_exit, again_exit', again_ret', again_normal', U_ret1, S_nil, S_gd, S_ld, S_lda, S_fld, S_len, S_ix, S_call, S_callv, S_func, S_move, S_assign, S_pick, S_bin, S_not, gdo_tt, gdo_ff, gdo_tf, gdo_ft, br_true, br_false, fin_val, ldV_ptr, ldaV_ptr, fldV_ptr, lenV_slice, not_bool, pick_true, pick_false, b_lss, b_leq, b_gtr, b_geq, b_eql, b_neq, b_add, b_sub, lift1_some, ev_tmp, ev_const, eput_app, eput_none, List.map_cons, List.map_nil, Nat.reduceEqDiff, Nat.succ_ne_self, Nat.reduceBEq, ↓reduceIte, reduceIte, decide_true, decide_false, Bool.not_true, Bool.not_false, if_true_left, Nat.one_ne_zero, Nat.zero_ne_one, not_true_eq_false, not_false_eq_true, Value.cells, putL] at g3 ⊢
        have fr3 : Fr HB H3 := (fr.trans f2).upd fr.nxt n3 o3
        have pp := own_cells2 g3 rfl rfl
        simp only [W_skip, W_ops, W_sops, W_seq, W_block, W_exit, W_ret, W_cond, U_seq, U_seq_exit, U_seq_ret, U_blk, U_blk_ret, U_blk_exit, again_exit', again_ret', again_normal', U_ret1, S_nil, S_gd, S_ld, S_lda, S_fld, S_len, S_ix, S_call, S_callv, S_func, S_move, S_assign, S_pick, S_bin, S_not, gdo_tt, gdo_ff, gdo_tf, gdo_ft, br_true, br_false, fin_val, ldV_ptr, ldaV_ptr, fldV_ptr, lenV_slice, not_bool, pick_true, pick_false, b_lss, b_leq, b_gtr, b_geq, b_eql, b_neq, b_add, b_sub, lift1_some, ev_tmp, ev_const, eput_app, eput_none, List.map_cons, List.map_nil, Nat.reduceEqDiff, Nat.succ_ne_self, Nat.reduceBEq, ↓reduceIte, reduceIte, decide_true, decide_false, Bool.not_true, Bool.not_false, if_true_left, Nat.one_ne_zero, Nat.zero_ne_one, not_true_eq_false, not_false_eq_true, h3, pp]
        have hI3 := hI.mono ((fB.trans fr3).sub hwf)
        refine call_then (ih (.mk s2 ks2) H3 _ (by rw [← hx]; omega) (by omega) hI3) ?_
        rintro _ H4 ⟨rfl, f4⟩ wf4
        rw [cont_app]
        rw [S_max (k := .i64) (k2 := .i64) (a := (depths (ks.take i) : Int)) (b := ((T.mk s2 ks2).depth : Int)) (by simp only [W_skip, W_ops, W_sops, W_seq, W_block, W_exit, W_ret, W_cond, U_seq, U_seq_exit, U_seq_ret, U_blk, U_blk_ret, U_blk_exit, again_exit', again_ret', again_normal', U_ret1, S_nil, S_gd, S_ld, S_lda, S_fld, S_len, S_ix, S_call, S_callv, S_func, S_move, S_assign, S_pick, S_bin, S_not, gdo_tt, gdo_ff, gdo_tf, gdo_ft, br_true, br_false, fin_val, ldV_ptr, ldaV_ptr, fldV_ptr, lenV_slice, not_bool, pick_true, pick_false, b_lss, b_leq, b_gtr, b_geq, b_eql, b_neq, b_add, b_sub, lift1_some, ev_tmp, ev_const, eput_app, eput_none, List.map_cons, List.map_nil, Nat.reduceEqDiff, Nat.succ_ne_self, Nat.reduceBEq, ↓reduceIte, reduceIte, decide_true, decide_false, Bool.not_true, Bool.not_false, if_true_left, Nat.one_ne_zero, Nat.zero_ne_one, not_true_eq_false, not_false_eq_true, h3]) (by simp only [W_skip, W_ops, W_sops, W_seq, W_block, W_exit, W_ret, W_cond, U_seq, U_seq_exit, U_seq_ret, U_blk, U_blk_ret, U_blk_exit, again_exit', again_ret', again_normal', U_ret1, S_nil, S_gd, S_ld, S_lda, S_fld, S_len, S_ix, S_call, S_callv, S_func, S_move, S_assign, S_pick, S_bin, S_not, gdo_tt, gdo_ff, gdo_tf, gdo_ft, br_true, br_false, fin_val, ldV_ptr, ldaV_ptr, fldV_ptr, lenV_slice, not_bool, pick_true, pick_false, b_lss, b_leq, b_gtr, b_geq, b_eql, b_neq, b_add, b_sub, lift1_some, ev_tmp, ev_const, eput_app, eput_none, List.map_cons, List.map_nil, Nat.reduceEqDiff, Nat.succ_ne_self, Nat.reduceBEq, ↓reduceIte, reduceIte, decide_true, decide_false, Bool.not_true, Bool.not_false, if_true_left, Nat.one_ne_zero, Nat.zero_ne_one, not_true_eq_false, not_false_eq_true])]
        simp only [W_skip, W_ops, W_sops, W_seq, W_block, W_exit, W_ret, W_cond, U_seq, U_seq_exit, U_seq_ret, U_blk, U_blk_ret, U_blk_exit, again_exit', again_ret', again_normal', U_ret1, S_nil, S_gd, S_ld, S_lda, S_fld, S_len, S_ix, S_call, S_callv, S_func, S_move, S_assign, S_pick, S_bin, S_not, gdo_tt, gdo_ff, gdo_tf, gdo_ft, br_true, br_false, fin_val, ldV_ptr, ldaV_ptr, fldV_ptr, lenV_slice, not_bool, pick_true, pick_false, b_lss, b_leq, b_gtr, b_geq, b_eql, b_neq, b_add, b_sub, lift1_some, ev_tmp, ev_const, eput_app, eput_none, List.map_cons, List.map_nil, Nat.reduceEqDiff, Nat.succ_ne_self, Nat.reduceBEq, ↓reduceIte, reduceIte, decide_true, decide_false, Bool.not_true, Bool.not_false, if_true_left, Nat.one_ne_zero, Nat.zero_ne_one, not_true_eq_false, not_false_eq_true, h7, h8, h9]
        rw [wrap_succ (by omega)]
        refine ⟨ks.length - (i + 1), by omega, i + 1, rfl, hi', ?_, trivial, trivial, rfl, fr3.trans f4⟩
        rw [depths_take hi', hx]
        congr 1
        split <;> omega
      · have hi' : i = ks.length := by simp at hA; omega
        subst hi'
        rw [List.take_length] at h3
        simp only [W_skip, W_ops, W_sops, W_seq, W_block, W_exit, W_ret, W_cond, U_seq, U_seq_exit, U_seq_ret, U_blk, U_blk_ret, U_blk_exit, again_exit', again_ret', again_normal', U_ret1, S_nil, S_gd, S_ld, S_lda, S_fld, S_len, S_ix, S_call, S_callv, S_func, S_move, S_assign, S_pick, S_bin, S_not, gdo_tt, gdo_ff, gdo_tf, gdo_ft, br_true, br_false, fin_val, ldV_ptr, ldaV_ptr, fldV_ptr, lenV_slice, not_bool, pick_true, pick_false, b_lss, b_leq, b_gtr, b_geq, b_eql, b_neq, b_add, b_sub, lift1_some, ev_tmp, ev_const, eput_app, eput_none, List.map_cons, List.map_nil, Nat.reduceEqDiff, Nat.succ_ne_self, Nat.reduceBEq, ↓reduceIte, reduceIte, decide_true, decide_false, Bool.not_true, Bool.not_false, if_true_left, Nat.one_ne_zero, Nat.zero_ne_one, not_true_eq_false, not_false_eq_true, h3]
        refine ⟨?_, frH⟩
        rw [wrap64 (by omega) (by omega)]
        congr 1
    · simp only [W_skip, W_ops, W_sops, W_seq, W_block, W_exit, W_ret, W_cond, U_seq, U_seq_exit, U_seq_ret, U_blk, U_blk_ret, U_blk_exit, again_exit', again_ret', again_normal', U_ret1, S_nil, S_gd, S_ld, S_lda, S_fld, S_len, S_ix, S_call, S_callv, S_func, S_move, S_assign, S_pick, S_bin, S_not, gdo_tt, gdo_ff, gdo_tf, gdo_ft, br_true, br_false, fin_val, ldV_ptr, ldaV_ptr, fldV_ptr, lenV_slice, not_bool, pick_true, pick_false, b_lss, b_leq, b_gtr, b_geq, b_eql, b_neq, b_add, b_sub, lift1_some, ev_tmp, ev_const, eput_app, eput_none, List.map_cons, List.map_nil, Nat.reduceEqDiff, Nat.succ_ne_self, Nat.reduceBEq, ↓reduceIte, reduceIte, decide_true, decide_false, Bool.not_true, Bool.not_false, if_true_left, Nat.one_ne_zero, Nat.zero_ne_one, not_true_eq_false, not_false_eq_true]
      simp [depths, Fr.refl]

end Go.Proofs.YtcfjimhbachmlaaGreatDoor.E

/- Contracts: a tree over symbols, the reference's. -/
namespace Go.Proofs.YtcfjimhbachmlaaGreatDoor.E
open Go Go.Proofs
open Go.Proofs.YtcfjimhbachmlaaGreatDoor.L

theorem not_bool_of {b : Bool} (h : b = true → False) : Value.bool false = .bool b := by
  cases e : b with
  | false => rfl
  | true => exact (h e).elim

theorem bool_of {b : Bool} (h : b = true) : Value.bool true = .bool b := by rw [h]

/-- what a tree over symbols is, at its root -/
def RootP (rs : List Int) (s : Int) (n : Nat) : Prop := (s = -1 ∧ n = 0) ∨ ∃ m : Nat, s = m ∧ ∃ r, rs[m]? = some r ∧ (n : Int) = r

theorem over_iff {rs : List Int} {s : Int} {ks : List T} : (T.mk s ks).over rs = true ↔ RootP rs s ks.length ∧ ∀ (i : Nat) (x : T), ks[i]? = some x → x.over rs = true := by
  rw [over_mk, Bool.and_eq_true, overs_get]
  refine and_congr ?_ Iff.rfl
  unfold RootP
  constructor
  · intro h
    split at h
    · rename_i e
      left
      exact ⟨e, by simpa using h⟩
    · rename_i e
      right
      simp only [Bool.and_eq_true, decide_eq_true_eq] at h
      obtain ⟨h1, h2⟩ := h
      refine ⟨s.toNat, by omega, ?_⟩
      split at h2
      · rename_i r hr
        exact ⟨r, hr, by simpa using h2⟩
      · cases h2
  · rintro (⟨rfl, h2⟩ | ⟨m, rfl, r, hr, h2⟩)
    · simp at h2; simp [h2]
    · rw [if_neg (by omega)]
      simp [hr, h2]

theorem over77 : ∀ (n : Nat) (t : T) (H : Heap) (cs : List Value) (v : Value) (rs : List Int), t.size ≤ n → IsT H.get cs t → IsInts H.get v rs →
    SC Tryz.prog 77 #[v, .agg cs.toArray] H (fun v H' => v = .bool (t.over rs) ∧ Fr H H') := by
  intro n
  induction n with
  | zero => intro t H cs v rs hn; have := size_pos t; omega
  | succ n ih =>
    intro t H cs v rs hn ht hv
    obtain ⟨s, ks⟩ := t
    refine SC_of_W fc77 (by simp) fun hwf => ?_
    have hv0 := hv
    obtain ⟨pr, cr, rfl, hrlen, hrat⟩ := hv
    obtain ⟨kv, rfl, hk⟩ := ht.inv
    obtain ⟨p, c, rfl, hlen, hat⟩ := hk
    have kn := Kn.self hwf
    rw [size_mk] at hn
    unfold c77
    simp only [W_skip, W_ops, W_sops, W_seq, W_block, W_exit, W_ret, W_cond, U_seq, U_seq_exit, U_seq_ret, U_blk, U_blk_ret, U_blk_exit, again_exit', again_ret', again_normal', U_ret1, S_nil, S_gd, S_ld, S_lda, S_fld, S_len, S_ix, S_call, S_callv, S_func, S_move, S_assign, S_pick, S_bin, S_not, gdo_tt, gdo_ff, gdo_tf, gdo_ft, br_true, br_false, fin_val, ldV_ptr, ldaV_ptr, fldV_ptr, lenV_slice, not_bool, pick_true, pick_false, b_lss, b_leq, b_gtr, b_geq, b_eql, b_neq, b_add, b_sub, lift1_some, ev_tmp, ev_const, eput_app, eput_none, List.map_cons, List.map_nil, Nat.reduceEqDiff, Nat.succ_ne_self, Nat.reduceBEq, ↓reduceIte, reduceIte, decide_true, decide_false, Bool.not_true, Bool.not_false, if_true_left, Nat.one_ne_zero, Nat.zero_ne_one, not_true_eq_false, not_false_eq_true]
    refine S_box fun HB fB nB gB => ?_
    simp only [W_skip, W_ops, W_sops, W_seq, W_block, W_exit, W_ret, W_cond, U_seq, U_seq_exit, U_seq_ret, U_blk, U_blk_ret, U_blk_exit, again_exit', again_ret', again_normal', U_ret1, S_nil, S_gd, S_ld, S_lda, S_fld, S_len, S_ix, S_call, S_callv, S_func, S_move, S_assign, S_pick, S_bin, S_not, gdo_tt, gdo_ff, gdo_tf, gdo_ft, br_true, br_false, fin_val, ldV_ptr, ldaV_ptr, fldV_ptr, lenV_slice, not_bool, pick_true, pick_false, b_lss, b_leq, b_gtr, b_geq, b_eql, b_neq, b_add, b_sub, lift1_some, ev_tmp, ev_const, eput_app, eput_none, List.map_cons, List.map_nil, Nat.reduceEqDiff, Nat.succ_ne_self, Nat.reduceBEq, ↓reduceIte, reduceIte, decide_true, decide_false, Bool.not_true, Bool.not_false, if_true_left, Nat.one_ne_zero, Nat.zero_ne_one, not_true_eq_false, not_false_eq_true, f2_0, f2_1, box_agg] at gB ⊢
    have q0 := own_cell (H := HB.reserve 37) 0 gB rfl rfl
    have q1 := own_cell (H := HB.reserve 37) 1 gB rfl rfl
    have frR : Fr H (HB.reserve 37) := fB.reserve 37
    have knR := kn.fr frR
    simp only [W_skip, W_ops, W_sops, W_seq, W_block, W_exit, W_ret, W_cond, U_seq, U_seq_exit, U_seq_ret, U_blk, U_blk_ret, U_blk_exit, again_exit', again_ret', again_normal', U_ret1, S_nil, S_gd, S_ld, S_lda, S_fld, S_len, S_ix, S_call, S_callv, S_func, S_move, S_assign, S_pick, S_bin, S_not, gdo_tt, gdo_ff, gdo_tf, gdo_ft, br_true, br_false, fin_val, ldV_ptr, ldaV_ptr, fldV_ptr, lenV_slice, not_bool, pick_true, pick_false, b_lss, b_leq, b_gtr, b_geq, b_eql, b_neq, b_add, b_sub, lift1_some, ev_tmp, ev_const, eput_app, eput_none, List.map_cons, List.map_nil, Nat.reduceEqDiff, Nat.succ_ne_self, Nat.reduceBEq, ↓reduceIte, reduceIte, decide_true, decide_false, Bool.not_true, Bool.not_false, if_true_left, Nat.one_ne_zero, Nat.zero_ne_one, not_true_eq_false, not_false_eq_true, q0, q1, own_add]
    refine gdo_of ?_ ?_ <;> intro hA
    · simp only [W_skip, W_ops, W_sops, W_seq, W_block, W_exit, W_ret, W_cond, U_seq, U_seq_exit, U_seq_ret, U_blk, U_blk_ret, U_blk_exit, again_exit', again_ret', again_normal', U_ret1, S_nil, S_gd, S_ld, S_lda, S_fld, S_len, S_ix, S_call, S_callv, S_func, S_move, S_assign, S_pick, S_bin, S_not, gdo_tt, gdo_ff, gdo_tf, gdo_ft, br_true, br_false, fin_val, ldV_ptr, ldaV_ptr, fldV_ptr, lenV_slice, not_bool, pick_true, pick_false, b_lss, b_leq, b_gtr, b_geq, b_eql, b_neq, b_add, b_sub, lift1_some, ev_tmp, ev_const, eput_app, eput_none, List.map_cons, List.map_nil, Nat.reduceEqDiff, Nat.succ_ne_self, Nat.reduceBEq, ↓reduceIte, reduceIte, decide_true, decide_false, Bool.not_true, Bool.not_false, if_true_left, Nat.one_ne_zero, Nat.zero_ne_one, not_true_eq_false, not_false_eq_true, hA]
      simp only [decide_eq_true_eq] at hA
      refine ⟨not_bool_of fun h => ?_, frR⟩
      rcases (over_iff.1 h).1 with ⟨h1, h2⟩ | ⟨m, h1, h2⟩ <;> omega
    simp only [W_skip, W_ops, W_sops, W_seq, W_block, W_exit, W_ret, W_cond, U_seq, U_seq_exit, U_seq_ret, U_blk, U_blk_ret, U_blk_exit, again_exit', again_ret', again_normal', U_ret1, S_nil, S_gd, S_ld, S_lda, S_fld, S_len, S_ix, S_call, S_callv, S_func, S_move, S_assign, S_pick, S_bin, S_not, gdo_tt, gdo_ff, gdo_tf, gdo_ft, br_true, br_false, fin_val, ldV_ptr, ldaV_ptr, fldV_ptr, lenV_slice, not_bool, pick_true, pick_false, b_lss, b_leq, b_gtr, b_geq, b_eql, b_neq, b_add, b_sub, lift1_some, ev_tmp, ev_const, eput_app, eput_none, List.map_cons, List.map_nil, Nat.reduceEqDiff, Nat.succ_ne_self, Nat.reduceBEq, ↓reduceIte, reduceIte, decide_true, decide_false, Bool.not_true, Bool.not_false, if_true_left, Nat.one_ne_zero, Nat.zero_ne_one, not_true_eq_false, not_false_eq_true, hA, q0, q1, own_add, f2_0]
    simp only [decide_eq_false_iff_not] at hA
    refine gdo_of ?_ ?_ <;> intro hB
    · simp only [W_skip, W_ops, W_sops, W_seq, W_block, W_exit, W_ret, W_cond, U_seq, U_seq_exit, U_seq_ret, U_blk, U_blk_ret, U_blk_exit, again_exit', again_ret', again_normal', U_ret1, S_nil, S_gd, S_ld, S_lda, S_fld, S_len, S_ix, S_call, S_callv, S_func, S_move, S_assign, S_pick, S_bin, S_not, gdo_tt, gdo_ff, gdo_tf, gdo_ft, br_true, br_false, fin_val, ldV_ptr, ldaV_ptr, fldV_ptr, lenV_slice, not_bool, pick_true, pick_false, b_lss, b_leq, b_gtr, b_geq, b_eql, b_neq, b_add, b_sub, lift1_some, ev_tmp, ev_const, eput_app, eput_none, List.map_cons, List.map_nil, Nat.reduceEqDiff, Nat.succ_ne_self, Nat.reduceBEq, ↓reduceIte, reduceIte, decide_true, decide_false, Bool.not_true, Bool.not_false, if_true_left, Nat.one_ne_zero, Nat.zero_ne_one, not_true_eq_false, not_false_eq_true, hB]
      simp only [decide_eq_true_eq] at hB
      refine ⟨not_bool_of fun h => ?_, frR⟩
      rcases (over_iff.1 h).1 with ⟨h1, h2⟩ | ⟨m, h1, r, h2, h3⟩
      · omega
      · have := (List.getElem?_eq_some_iff.1 h2).1; omega
    simp only [W_skip, W_ops, W_sops, W_seq, W_block, W_exit, W_ret, W_cond, U_seq, U_seq_exit, U_seq_ret, U_blk, U_blk_ret, U_blk_exit, again_exit', again_ret', again_normal', U_ret1, S_nil, S_gd, S_ld, S_lda, S_fld, S_len, S_ix, S_call, S_callv, S_func, S_move, S_assign, S_pick, S_bin, S_not, gdo_tt, gdo_ff, gdo_tf, gdo_ft, br_true, br_false, fin_val, ldV_ptr, ldaV_ptr, fldV_ptr, lenV_slice, not_bool, pick_true, pick_false, b_lss, b_leq, b_gtr, b_geq, b_eql, b_neq, b_add, b_sub, lift1_some, ev_tmp, ev_const, eput_app, eput_none, List.map_cons, List.map_nil, Nat.reduceEqDiff, Nat.succ_ne_self, Nat.reduceBEq, ↓reduceIte, reduceIte, decide_true, decide_false, Bool.not_true, Bool.not_false, if_true_left, Nat.one_ne_zero, Nat.zero_ne_one, not_true_eq_false, not_false_eq_true, hB, q0, q1, own_add]
    simp only [decide_eq_false_iff_not] at hB
    -- the loop over the kids
    have loop : ∀ (g : Fm), g 0 = .slice pr rs.length cr → g 3 = .pointer (some ⟨H.nxt, 0, none⟩) → RootP rs s ks.length → W TY Tryz.prog .skip [.seq (.seq (.seq (.ops [(some 44, none, .fld 1 (.tmp 3)),
        (some 45, none, .ld (.tmp 44)),
        (some 46, none, .len (.tmp 45)),
        (some 47, none, .raw (.move (.const (.int .i64 0))))]) (
        .block 0 (
          .loop (
            .seq (.ops [(some 48, none, .raw (.binOp .lss 3 (.tmp 47) (.tmp 46) 3))]) (
            .seq (.cond (.tmp 48) (
              .skip) (
              .exit 0)) (
            .seq (.block 1 (
              .seq (.ops [(some 49, none, .ix 2 (.tmp 45) (.tmp 47)),
                (some 50, none, .lda 2 (.tmp 49)),
                (some 6, none, .alloc 37 [.int .i64 0, .slice none 0 0]),
                (none, none, .st 2 (.tmp 6) (.tmp 50))]) (
              .seq (.ops [(some 51, none, .raw (.move (.tmp 0))),
                (some 52, none, .lda 2 (.tmp 6)),
                (some 53, none, .call 77 [(.tmp 51), (.tmp 52)]),
                (some 54, none, .raw (.unOp .not 4 (.tmp 53)))]) (
              .cond (.tmp 54) (
                .seq (.ops [(some 4, none, .raw (.assign (.const (.bool false))))]) (
                .ret)) (
                .skip))))) (
            .ops [(some 55, none, .raw (.binOp .add 3 (.tmp 47) (.const (.int .i64 1)) 3)),
              (some 47, none, .raw (.move (.tmp 55)))]))))))) (
        .seq (.ops [(some 4, none, .raw (.assign (.const (.bool true))))]) (
        .ret)))] (REnd TY [.tmp 4] fun v H' => v = .bool ((T.mk s ks).over rs) ∧ Fr H H') g (HB.reserve 37) := by
      intro g h0 h3 root
      simp only [W_skip, W_ops, W_sops, W_seq, W_block, W_exit, W_ret, W_cond, U_seq, U_seq_exit, U_seq_ret, U_blk, U_blk_ret, U_blk_exit, again_exit', again_ret', again_normal', U_ret1, S_nil, S_gd, S_ld, S_lda, S_fld, S_len, S_ix, S_call, S_callv, S_func, S_move, S_assign, S_pick, S_bin, S_not, gdo_tt, gdo_ff, gdo_tf, gdo_ft, br_true, br_false, fin_val, ldV_ptr, ldaV_ptr, fldV_ptr, lenV_slice, not_bool, pick_true, pick_false, b_lss, b_leq, b_gtr, b_geq, b_eql, b_neq, b_add, b_sub, lift1_some, ev_tmp, ev_const, eput_app, eput_none, List.map_cons, List.map_nil, Nat.reduceEqDiff, Nat.succ_ne_self, Nat.reduceBEq, ↓reduceIte, reduceIte, decide_true, decide_false, Bool.not_true, Bool.not_false, if_true_left, Nat.one_ne_zero, Nat.zero_ne_one, not_true_eq_false, not_false_eq_true, h3, q1, own_add]
      refine W_loop (fun k g H1 => ∃ i, k = ks.length - i ∧ i ≤ ks.length ∧ g 0 = .slice pr rs.length cr ∧ g 45 = .slice p ks.length c ∧ g 46 = .int .i64 ks.length ∧ g 47 = .int .i64 (i : Nat) ∧ Fr H H1 ∧ ∀ (j : Nat) (x : T), j < i → ks[j]? = some x → x.over rs = true) ?_ ks.length ⟨0, ?_⟩
      · rintro k g H1 ⟨i, rfl, hi, h0, h45, h46, h47, fr, ok⟩
        have kn1 := kn.fr fr
        simp only [W_skip, W_ops, W_sops, W_seq, W_block, W_exit, W_ret, W_cond, U_seq, U_seq_exit, U_seq_ret, U_blk, U_blk_ret, U_blk_exit, again_exit', again_ret', again_normal', U_ret1, S_nil, S_gd, S_ld, S_lda, S_fld, S_len, S_ix, S_call, S_callv, S_func, S_move, S_assign, S_pick, S_bin, S_not, gdo_tt, gdo_ff, gdo_tf, gdo_ft, br_true, br_false, fin_val, ldV_ptr, ldaV_ptr, fldV_ptr, lenV_slice, not_bool, pick_true, pick_false, b_lss, b_leq, b_gtr, b_geq, b_eql, b_neq, b_add, b_sub, lift1_some, ev_tmp, ev_const, eput_app, eput_none, List.map_cons, List.map_nil, Nat.reduceEqDiff, Nat.succ_ne_self, Nat.reduceBEq, ↓reduceIte, reduceIte, decide_true, decide_false, Bool.not_true, Bool.not_false, if_true_left, Nat.one_ne_zero, Nat.zero_ne_one, not_true_eq_false, not_false_eq_true, h0, h45, h46, h47]
        refine br_of ?_ ?_ <;> intro hC
        · have hi' : i < ks.length := by simpa using hC
          obtain ⟨b, cs2, rfl, hs, hI⟩ := hat i ks[i] (by simp [hi'])
          have hsz := size_kid hi'
          generalize hx : ks[i] = x at hI
          obtain ⟨s2, ks2⟩ := x
          obtain ⟨kv2, rfl, hk2⟩ := hI.inv
          obtain ⟨p2, c2, rfl, hlen2, hat2⟩ := hk2
          have hc := kn1.see2 hs
          simp only [W_skip, W_ops, W_sops, W_seq, W_block, W_exit, W_ret, W_cond, U_seq, U_seq_exit, U_seq_ret, U_blk, U_blk_ret, U_blk_exit, again_exit', again_ret', again_normal', U_ret1, S_nil, S_gd, S_ld, S_lda, S_fld, S_len, S_ix, S_call, S_callv, S_func, S_move, S_assign, S_pick, S_bin, S_not, gdo_tt, gdo_ff, gdo_tf, gdo_ft, br_true, br_false, fin_val, ldV_ptr, ldaV_ptr, fldV_ptr, lenV_slice, not_bool, pick_true, pick_false, b_lss, b_leq, b_gtr, b_geq, b_eql, b_neq, b_add, b_sub, lift1_some, ev_tmp, ev_const, eput_app, eput_none, List.map_cons, List.map_nil, Nat.reduceEqDiff, Nat.succ_ne_self, Nat.reduceBEq, ↓reduceIte, reduceIte, decide_true, decide_false, Bool.not_true, Bool.not_false, if_true_left, Nat.one_ne_zero, Nat.zero_ne_one, not_true_eq_false, not_false_eq_true, h0, h45, h46, h47, ixV_at hi', hc]
          refine S_alloc fun H2 f2 n2 g2 => ?_
          refine S_store (id := H1.nxt) (off := 0) (by simp only [W_skip, W_ops, W_sops, W_seq, W_block, W_exit, W_ret, W_cond, U_seq, U_seq_exit, U_seq_ret, U_blk, U_blk_ret, U_blk_exit, again_exit', again_ret', again_normal', U_ret1, S_nil, S_gd, S_ld, S_lda, S_fld, S_len, S_ix, S_call, S_callv, S_func, S_move, S_assign, S_pick, S_bin, S_not, gdo_tt, gdo_ff, gdo_tf, gdo_ft, br_true, br_false, fin_val, ldV_ptr, ldaV_ptr, fldV_ptr, lenV_slice, not_bool, pick_true, pick_false, b_lss, b_leq, b_gtr, b_geq, b_eql, b_neq, b_add, b_sub, lift1_some, ev_tmp, ev_const, eput_app, eput_none, List.map_cons, List.map_nil, Nat.reduceEqDiff, Nat.succ_ne_self, Nat.reduceBEq, ↓reduceIte, reduceIte, decide_true, decide_false, Bool.not_true, Bool.not_false, if_true_left, Nat.one_ne_zero, Nat.zero_ne_one, not_true_eq_false, not_false_eq_true]) (by simp only [W_skip, W_ops, W_sops, W_seq, W_block, W_exit, W_ret, W_cond, U_seq, U_seq_exit, U_seq_ret, U_blk, U_blk_ret, U_blk_exit, again_exit', again_ret', again_normal', U_ret1, S_nil, S_gd, S_ld, S_lda, S_fld, S_len, S_ix, S_call, S_callv, S_func, S_move, S_assign, S_pick, S_bin, S_not, gdo_tt, gdo_ff, gdo_tf, gdo_ft, br_true, br_false, fin_val, ldV_ptr, ldaV_ptr, fldV_ptr, lenV_slice, not_bool, pick_true, pick_false, b_lss, b_leq, b_gtr, b_geq, b_eql, b_neq, b_add, b_sub, lift1_some, ev_tmp, ev_const, eput_app, eput_none, List.map_cons, List.map_nil, Nat.reduceEqDiff, Nat.succ_ne_self, Nat.reduceBEq, ↓reduceIte, reduceIte, decide_true, decide_false, Bool.not_true, Bool.not_false, if_true_left, Nat.one_ne_zero, Nat.zero_ne_one, not_true_eq_false, not_false_eq_true]; rfl) (by omega) g2 (by simp) (by simp) (by simp only [W_skip, W_ops, W_sops, W_seq, W_block, W_exit, W_ret, W_cond, U_seq, U_seq_exit, U_seq_ret, U_blk, U_blk_ret, U_blk_exit, again_exit', again_ret', again_normal', U_ret1, S_nil, S_gd, S_ld, S_lda, S_fld, S_len, S_ix, S_call, S_callv, S_func, S_move, S_assign, S_pick, S_bin, S_not, gdo_tt, gdo_ff, gdo_tf, gdo_ft, br_true, br_false, fin_val, ldV_ptr, ldaV_ptr, fldV_ptr, lenV_slice, not_bool, pick_true, pick_false, b_lss, b_leq, b_gtr, b_geq, b_eql, b_neq, b_add, b_sub, lift1_some, ev_tmp, ev_const, eput_app, eput_none, List.map_cons, List.map_nil, Nat.reduceEqDiff, Nat.succ_ne_self, Nat.reduceBEq, ↓reduceIte, reduceIte, decide_true, decide_false, Bool.not_true, Bool.not_false, if_true_left, Nat.one_ne_zero, Nat.zero_ne_one, not_true_eq_false, not_false_eq_true]; simp [Value.cells, Value.oneCell']) fun H3 n3 o3 g3 => ?_
          simp only [W_skip, W_ops, W_sops, W_seq, W_block, W_exit, W_ret, W_cond, U_seq, U_seq_exit, U_seq_ret, U_blk, U_blk_ret, U_blk_exit, again_exit', again_ret', again_normal', U_ret1, S_nil, S_gd, S_ld, S_lda, S_fld, S_len, S_ix, S_call, S_callv, S_func, S_move, S_assign, S_pick, S_bin, S_not, gdo_tt, gdo_ff, gdo_tf, gdo_ft, br_true, br_false, fin_val, ldV_ptr, ldaV_ptr, fldV_ptr, lenV_slice, not_bool, pick_true, pick_false, b_lss, b_leq, b_gtr, b_geq, b_eql, b_neq, b_add, b_sub, lift1_some, ev_tmp, ev_const, eput_app, eput_none, List.map_cons, List.map_nil, Nat.reduceEqDiff, Nat.succ_ne_self, Nat.reduceBEq, ↓reduceIte, reduceIte, decide_true, decide_false, Bool.not_true, Bool.not_false, if_true_left, Nat.one_ne_zero, Nat.zero_ne_one, not_true_eq_false, not_false_eq_true, Value.cells, putL] at g3 ⊢
          have fr3 : Fr H H3 := (fr.trans f2).upd fr.nxt n3 o3
          have pp := own_cells2 g3 rfl rfl
          simp only [W_skip, W_ops, W_sops, W_seq, W_block, W_exit, W_ret, W_cond, U_seq, U_seq_exit, U_seq_ret, U_blk, U_blk_ret, U_blk_exit, again_exit', again_ret', again_normal', U_ret1, S_nil, S_gd, S_ld, S_lda, S_fld, S_len, S_ix, S_call, S_callv, S_func, S_move, S_assign, S_pick, S_bin, S_not, gdo_tt, gdo_ff, gdo_tf, gdo_ft, br_true, br_false, fin_val, ldV_ptr, ldaV_ptr, fldV_ptr, lenV_slice, not_bool, pick_true, pick_false, b_lss, b_leq, b_gtr, b_geq, b_eql, b_neq, b_add, b_sub, lift1_some, ev_tmp, ev_const, eput_app, eput_none, List.map_cons, List.map_nil, Nat.reduceEqDiff, Nat.succ_ne_self, Nat.reduceBEq, ↓reduceIte, reduceIte, decide_true, decide_false, Bool.not_true, Bool.not_false, if_true_left, Nat.one_ne_zero, Nat.zero_ne_one, not_true_eq_false, not_false_eq_true, h0, pp]
          refine call_then (ih (.mk s2 ks2) H3 _ _ _ (by rw [← hx]; omega) (hI.mono (fr3.sub hwf)) (hv0.mono (fr3.sub hwf))) ?_
          rintro _ H4 ⟨rfl, f4⟩ wf4
          have fr4 := fr3.trans f4
          rw [cont_app]
          cases hov : (T.mk s2 ks2).over rs with
          | false =>
            simp only [W_skip, W_ops, W_sops, W_seq, W_block, W_exit, W_ret, W_cond, U_seq, U_seq_exit, U_seq_ret, U_blk, U_blk_ret, U_blk_exit, again_exit', again_ret', again_normal', U_ret1, S_nil, S_gd, S_ld, S_lda, S_fld, S_len, S_ix, S_call, S_callv, S_func, S_move, S_assign, S_pick, S_bin, S_not, gdo_tt, gdo_ff, gdo_tf, gdo_ft, br_true, br_false, fin_val, ldV_ptr, ldaV_ptr, fldV_ptr, lenV_slice, not_bool, pick_true, pick_false, b_lss, b_leq, b_gtr, b_geq, b_eql, b_neq, b_add, b_sub, lift1_some, ev_tmp, ev_const, eput_app, eput_none, List.map_cons, List.map_nil, Nat.reduceEqDiff, Nat.succ_ne_self, Nat.reduceBEq, ↓reduceIte, reduceIte, decide_true, decide_false, Bool.not_true, Bool.not_false, if_true_left, Nat.one_ne_zero, Nat.zero_ne_one, not_true_eq_false, not_false_eq_true]
            exact ⟨not_bool_of fun h => (by rw [(over_iff.1 h).2 i (.mk s2 ks2) (by rw [List.getElem?_eq_getElem hi', hx])] at hov; cases hov), fr4⟩
          | true =>
            simp only [W_skip, W_ops, W_sops, W_seq, W_block, W_exit, W_ret, W_cond, U_seq, U_seq_exit, U_seq_ret, U_blk, U_blk_ret, U_blk_exit, again_exit', again_ret', again_normal', U_ret1, S_nil, S_gd, S_ld, S_lda, S_fld, S_len, S_ix, S_call, S_callv, S_func, S_move, S_assign, S_pick, S_bin, S_not, gdo_tt, gdo_ff, gdo_tf, gdo_ft, br_true, br_false, fin_val, ldV_ptr, ldaV_ptr, fldV_ptr, lenV_slice, not_bool, pick_true, pick_false, b_lss, b_leq, b_gtr, b_geq, b_eql, b_neq, b_add, b_sub, lift1_some, ev_tmp, ev_const, eput_app, eput_none, List.map_cons, List.map_nil, Nat.reduceEqDiff, Nat.succ_ne_self, Nat.reduceBEq, ↓reduceIte, reduceIte, decide_true, decide_false, Bool.not_true, Bool.not_false, if_true_left, Nat.one_ne_zero, Nat.zero_ne_one, not_true_eq_false, not_false_eq_true, h0, h45, h46, h47]
            refine ⟨ks.length - (i + 1), by omega, i + 1, rfl, hi', trivial, trivial, trivial, by rw [wrap_succ (by omega)], fr4, fun j x hj hxj => ?_⟩
            by_cases e : j = i
            · subst e
              rw [List.getElem?_eq_getElem hi', hx] at hxj
              cases hxj; exact hov
            · exact ok j x (by omega) hxj
        · have hi' : i = ks.length := by simp at hC; omega
          subst hi'
          simp only [W_skip, W_ops, W_sops, W_seq, W_block, W_exit, W_ret, W_cond, U_seq, U_seq_exit, U_seq_ret, U_blk, U_blk_ret, U_blk_exit, again_exit', again_ret', again_normal', U_ret1, S_nil, S_gd, S_ld, S_lda, S_fld, S_len, S_ix, S_call, S_callv, S_func, S_move, S_assign, S_pick, S_bin, S_not, gdo_tt, gdo_ff, gdo_tf, gdo_ft, br_true, br_false, fin_val, ldV_ptr, ldaV_ptr, fldV_ptr, lenV_slice, not_bool, pick_true, pick_false, b_lss, b_leq, b_gtr, b_geq, b_eql, b_neq, b_add, b_sub, lift1_some, ev_tmp, ev_const, eput_app, eput_none, List.map_cons, List.map_nil, Nat.reduceEqDiff, Nat.succ_ne_self, Nat.reduceBEq, ↓reduceIte, reduceIte, decide_true, decide_false, Bool.not_true, Bool.not_false, if_true_left, Nat.one_ne_zero, Nat.zero_ne_one, not_true_eq_false, not_false_eq_true]
          refine ⟨bool_of (over_iff.2 ⟨root, fun i x hx => ok i x (List.getElem?_eq_some_iff.1 hx).1 hx⟩), fr⟩
      · simp only [W_skip, W_ops, W_sops, W_seq, W_block, W_exit, W_ret, W_cond, U_seq, U_seq_exit, U_seq_ret, U_blk, U_blk_ret, U_blk_exit, again_exit', again_ret', again_normal', U_ret1, S_nil, S_gd, S_ld, S_lda, S_fld, S_len, S_ix, S_call, S_callv, S_func, S_move, S_assign, S_pick, S_bin, S_not, gdo_tt, gdo_ff, gdo_tf, gdo_ft, br_true, br_false, fin_val, ldV_ptr, ldaV_ptr, fldV_ptr, lenV_slice, not_bool, pick_true, pick_false, b_lss, b_leq, b_gtr, b_geq, b_eql, b_neq, b_add, b_sub, lift1_some, ev_tmp, ev_const, eput_app, eput_none, List.map_cons, List.map_nil, Nat.reduceEqDiff, Nat.succ_ne_self, Nat.reduceBEq, ↓reduceIte, reduceIte, decide_true, decide_false, Bool.not_true, Bool.not_false, if_true_left, Nat.one_ne_zero, Nat.zero_ne_one, not_true_eq_false, not_false_eq_true, h0]
        simp [frR]
    refine gdo_of ?_ ?_ <;> intro hC
    · simp only [W_skip, W_ops, W_sops, W_seq, W_block, W_exit, W_ret, W_cond, U_seq, U_seq_exit, U_seq_ret, U_blk, U_blk_ret, U_blk_exit, again_exit', again_ret', again_normal', U_ret1, S_nil, S_gd, S_ld, S_lda, S_fld, S_len, S_ix, S_call, S_callv, S_func, S_move, S_assign, S_pick, S_bin, S_not, gdo_tt, gdo_ff, gdo_tf, gdo_ft, br_true, br_false, fin_val, ldV_ptr, ldaV_ptr, fldV_ptr, lenV_slice, not_bool, pick_true, pick_false, b_lss, b_leq, b_gtr, b_geq, b_eql, b_neq, b_add, b_sub, lift1_some, ev_tmp, ev_const, eput_app, eput_none, List.map_cons, List.map_nil, Nat.reduceEqDiff, Nat.succ_ne_self, Nat.reduceBEq, ↓reduceIte, reduceIte, decide_true, decide_false, Bool.not_true, Bool.not_false, if_true_left, Nat.one_ne_zero, Nat.zero_ne_one, not_true_eq_false, not_false_eq_true, hC, q0, q1, own_add]
      simp only [decide_eq_true_eq] at hC
      subst hC
      refine gdo_of ?_ ?_ <;> intro hD
      · simp only [W_skip, W_ops, W_sops, W_seq, W_block, W_exit, W_ret, W_cond, U_seq, U_seq_exit, U_seq_ret, U_blk, U_blk_ret, U_blk_exit, again_exit', again_ret', again_normal', U_ret1, S_nil, S_gd, S_ld, S_lda, S_fld, S_len, S_ix, S_call, S_callv, S_func, S_move, S_assign, S_pick, S_bin, S_not, gdo_tt, gdo_ff, gdo_tf, gdo_ft, br_true, br_false, fin_val, ldV_ptr, ldaV_ptr, fldV_ptr, lenV_slice, not_bool, pick_true, pick_false, b_lss, b_leq, b_gtr, b_geq, b_eql, b_neq, b_add, b_sub, lift1_some, ev_tmp, ev_const, eput_app, eput_none, List.map_cons, List.map_nil, Nat.reduceEqDiff, Nat.succ_ne_self, Nat.reduceBEq, ↓reduceIte, reduceIte, decide_true, decide_false, Bool.not_true, Bool.not_false, if_true_left, Nat.one_ne_zero, Nat.zero_ne_one, not_true_eq_false, not_false_eq_true, hD]
        simp only [decide_eq_true_eq] at hD
        refine ⟨not_bool_of fun h => ?_, frR⟩
        rcases (over_iff.1 h).1 with ⟨h1, h2⟩ | ⟨m, h1, r, h2, h3⟩ <;> omega
      · simp only [W_skip, W_ops, W_sops, W_seq, W_block, W_exit, W_ret, W_cond, U_seq, U_seq_exit, U_seq_ret, U_blk, U_blk_ret, U_blk_exit, again_exit', again_ret', again_normal', U_ret1, S_nil, S_gd, S_ld, S_lda, S_fld, S_len, S_ix, S_call, S_callv, S_func, S_move, S_assign, S_pick, S_bin, S_not, gdo_tt, gdo_ff, gdo_tf, gdo_ft, br_true, br_false, fin_val, ldV_ptr, ldaV_ptr, fldV_ptr, lenV_slice, not_bool, pick_true, pick_false, b_lss, b_leq, b_gtr, b_geq, b_eql, b_neq, b_add, b_sub, lift1_some, ev_tmp, ev_const, eput_app, eput_none, List.map_cons, List.map_nil, Nat.reduceEqDiff, Nat.succ_ne_self, Nat.reduceBEq, ↓reduceIte, reduceIte, decide_true, decide_false, Bool.not_true, Bool.not_false, if_true_left, Nat.one_ne_zero, Nat.zero_ne_one, not_true_eq_false, not_false_eq_true, hD, q0, q1, own_add]
        have e : decide ((0 : Int) ≤ -1) = false := by decide
        simp only [W_skip, W_ops, W_sops, W_seq, W_block, W_exit, W_ret, W_cond, U_seq, U_seq_exit, U_seq_ret, U_blk, U_blk_ret, U_blk_exit, again_exit', again_ret', again_normal', U_ret1, S_nil, S_gd, S_ld, S_lda, S_fld, S_len, S_ix, S_call, S_callv, S_func, S_move, S_assign, S_pick, S_bin, S_not, gdo_tt, gdo_ff, gdo_tf, gdo_ft, fin_val, ldV_ptr, ldaV_ptr, fldV_ptr, lenV_slice, not_bool, pick_true, pick_false, b_lss, b_leq, b_gtr, b_geq, b_eql, b_neq, b_add, b_sub, lift1_some, ev_tmp, ev_const, eput_app, eput_none, List.map_cons, List.map_nil, Nat.reduceEqDiff, Nat.succ_ne_self, Nat.reduceBEq, ↓reduceIte, reduceIte, decide_true, decide_false, Bool.not_true, Bool.not_false, if_true_left, Nat.one_ne_zero, Nat.zero_ne_one, not_true_eq_false, not_false_eq_true, e]
        simp only [decide_eq_false_iff_not] at hD
        rw [br_false]
        refine loop _ ?_ ?_ (.inl ⟨rfl, by omega⟩) <;> simp only [W_skip, W_ops, W_sops, W_seq, W_block, W_exit, W_ret, W_cond, U_seq, U_seq_exit, U_seq_ret, U_blk, U_blk_ret, U_blk_exit, again_exit', again_ret', again_normal', U_ret1, S_nil, S_gd, S_ld, S_lda, S_fld, S_len, S_ix, S_call, S_callv, S_func, S_move, S_assign, S_pick, S_bin, S_not, gdo_tt, gdo_ff, gdo_tf, gdo_ft, br_true, br_false, fin_val, ldV_ptr, ldaV_ptr, fldV_ptr, lenV_slice, not_bool, pick_true, pick_false, b_lss, b_leq, b_gtr, b_geq, b_eql, b_neq, b_add, b_sub, lift1_some, ev_tmp, ev_const, eput_app, eput_none, List.map_cons, List.map_nil, Nat.reduceEqDiff, Nat.succ_ne_self, Nat.reduceBEq, ↓reduceIte, reduceIte, decide_true, decide_false, Bool.not_true, Bool.not_false, if_true_left, Nat.one_ne_zero, Nat.zero_ne_one, not_true_eq_false, not_false_eq_true, f2_0]
    · simp only [W_skip, W_ops, W_sops, W_seq, W_block, W_exit, W_ret, W_cond, U_seq, U_seq_exit, U_seq_ret, U_blk, U_blk_ret, U_blk_exit, again_exit', again_ret', again_normal', U_ret1, S_nil, S_gd, S_ld, S_lda, S_fld, S_len, S_ix, S_call, S_callv, S_func, S_move, S_assign, S_pick, S_bin, S_not, gdo_tt, gdo_ff, gdo_tf, gdo_ft, br_true, br_false, fin_val, ldV_ptr, ldaV_ptr, fldV_ptr, lenV_slice, not_bool, pick_true, pick_false, b_lss, b_leq, b_gtr, b_geq, b_eql, b_neq, b_add, b_sub, lift1_some, ev_tmp, ev_const, eput_app, eput_none, List.map_cons, List.map_nil, Nat.reduceEqDiff, Nat.succ_ne_self, Nat.reduceBEq, ↓reduceIte, reduceIte, decide_true, decide_false, Bool.not_true, Bool.not_false, if_true_left, Nat.one_ne_zero, Nat.zero_ne_one, not_true_eq_false, not_false_eq_true, hC, q0, q1, own_add]
      simp only [decide_eq_false_iff_not] at hC
      obtain ⟨m, rfl⟩ : ∃ m : Nat, s = m := ⟨s.toNat, by omega⟩
      have hm : m < rs.length := by omega
      have e : decide ((0 : Int) ≤ (m : Int)) = true := by simp
      obtain ⟨b3, cs3, rfl, hs3, hI3⟩ := hrat m rs[m] (by simp [hm])
      cases hI3
      have hc3 := knR.see1 hs3
      simp only [W_skip, W_ops, W_sops, W_seq, W_block, W_exit, W_ret, W_cond, U_seq, U_seq_exit, U_seq_ret, U_blk, U_blk_ret, U_blk_exit, again_exit', again_ret', again_normal', U_ret1, S_nil, S_gd, S_ld, S_lda, S_fld, S_len, S_ix, S_call, S_callv, S_func, S_move, S_assign, S_pick, S_bin, S_not, gdo_tt, gdo_ff, gdo_tf, gdo_ft, br_true, br_false, fin_val, ldV_ptr, ldaV_ptr, fldV_ptr, lenV_slice, not_bool, pick_true, pick_false, b_lss, b_leq, b_gtr, b_geq, b_eql, b_neq, b_add, b_sub, lift1_some, ev_tmp, ev_const, eput_app, eput_none, List.map_cons, List.map_nil, Nat.reduceEqDiff, Nat.succ_ne_self, Nat.reduceBEq, ↓reduceIte, reduceIte, decide_true, decide_false, Bool.not_true, Bool.not_false, if_true_left, Nat.one_ne_zero, Nat.zero_ne_one, not_true_eq_false, not_false_eq_true, e, q0, q1, own_add, f2_0, ixV_at hm, hc3]
      refine br_of ?_ ?_ <;> intro hD
      · simp only [W_skip, W_ops, W_sops, W_seq, W_block, W_exit, W_ret, W_cond, U_seq, U_seq_exit, U_seq_ret, U_blk, U_blk_ret, U_blk_exit, again_exit', again_ret', again_normal', U_ret1, S_nil, S_gd, S_ld, S_lda, S_fld, S_len, S_ix, S_call, S_callv, S_func, S_move, S_assign, S_pick, S_bin, S_not, gdo_tt, gdo_ff, gdo_tf, gdo_ft, br_true, br_false, fin_val, ldV_ptr, ldaV_ptr, fldV_ptr, lenV_slice, not_bool, pick_true, pick_false, b_lss, b_leq, b_gtr, b_geq, b_eql, b_neq, b_add, b_sub, lift1_some, ev_tmp, ev_const, eput_app, eput_none, List.map_cons, List.map_nil, Nat.reduceEqDiff, Nat.succ_ne_self, Nat.reduceBEq, ↓reduceIte, reduceIte, decide_true, decide_false, Bool.not_true, Bool.not_false, if_true_left, Nat.one_ne_zero, Nat.zero_ne_one, not_true_eq_false, not_false_eq_true]
        refine ⟨not_bool_of fun h => ?_, frR⟩
        simp at hD
        rcases (over_iff.1 h).1 with ⟨h1, h2⟩ | ⟨m', h1, r, h2, h3⟩
        · omega
        · have : m' = m := by omega
          subst this
          rw [List.getElem?_eq_getElem hm] at h2
          cases h2; omega
      · simp at hD
        refine loop _ ?_ ?_ (.inr ⟨m, rfl, rs[m], by simp [hm], hD⟩) <;> simp only [W_skip, W_ops, W_sops, W_seq, W_block, W_exit, W_ret, W_cond, U_seq, U_seq_exit, U_seq_ret, U_blk, U_blk_ret, U_blk_exit, again_exit', again_ret', again_normal', U_ret1, S_nil, S_gd, S_ld, S_lda, S_fld, S_len, S_ix, S_call, S_callv, S_func, S_move, S_assign, S_pick, S_bin, S_not, gdo_tt, gdo_ff, gdo_tf, gdo_ft, br_true, br_false, fin_val, ldV_ptr, ldaV_ptr, fldV_ptr, lenV_slice, not_bool, pick_true, pick_false, b_lss, b_leq, b_gtr, b_geq, b_eql, b_neq, b_add, b_sub, lift1_some, ev_tmp, ev_const, eput_app, eput_none, List.map_cons, List.map_nil, Nat.reduceEqDiff, Nat.succ_ne_self, Nat.reduceBEq, ↓reduceIte, reduceIte, decide_true, decide_false, Bool.not_true, Bool.not_false, if_true_left, Nat.one_ne_zero, Nat.zero_ne_one, not_true_eq_false, not_false_eq_true, f2_0]

end Go.Proofs.YtcfjimhbachmlaaGreatDoor.E

/- Contracts: the reference's check of a tree; both; large. -/
namespace Go.Proofs.YtcfjimhbachmlaaGreatDoor.E
open Go Go.Proofs
open Go.Proofs.YtcfjimhbachmlaaGreatDoor.L

theorem ty35 : TY.ty 35 = some { k := .slice 37, size := 1, bytes := 24, zero := some (.slice none 0 0) } := by kernel_rfl
theorem ty37 : TY.ty 37 = some { k := .struct [(3, 0, false), (35, 1, false)], size := 2, bytes := 32, zero := some (.agg #[.int .i64 0, .slice none 0 0]) } := by kernel_rfl
theorem add0 {a : Addr} : a.add 0 = a := rfl

/-- virgationref06.Is -/
def c31 : C2 :=
  .seq (.ops [(some 3, none, .raw (.box 37 (.tmp 1))),
    (some 4, none, .raw (.assign (.const (.bool false))))]) (
  .seq (.ops [(some 5, none, .lda 2 (.tmp 3)),
    (some 6, none, .call 49 [(.tmp 5), (.const (.int .i64 20000))]),
    (some 7, none, .raw (.binOp .leq 3 (.tmp 6) (.const (.int .i64 20000)) 3)),
    (some 8, none, .raw (.move (.tmp 7))),
    (some 9, some (8, true), .lda 2 (.tmp 3)),
    (some 10, some (8, true), .call 26 [(.tmp 9)]),
    (some 11, some (8, true), .raw (.binOp .leq 3 (.tmp 10) (.const (.int .i64 200)) 3)),
    (some 12, none, .raw (.pick (.tmp 8) (.tmp 11) (.const (.bool false)))),
    (some 13, none, .raw (.move (.tmp 12))),
    (some 14, some (13, true), .raw (.move (.tmp 0))),
    (some 15, some (13, true), .lda 2 (.tmp 3)),
    (some 16, some (13, true), .call 77 [(.tmp 14), (.tmp 15)]),
    (some 17, none, .raw (.pick (.tmp 13) (.tmp 16) (.const (.bool false)))),
    (some 4, none, .raw (.assign (.tmp 17)))]) (
  .ret))
theorem fc31 : facts 31 = some (c31, [.tmp 4], 18) := by kernel_rfl

/-- virgationref06.Check -/
def c115 : C2 :=
  .seq (.ops [(some 4, none, .raw (.assign (.const (.int .i64 0))))]) (
  .seq (.seq (.ops [(some 7, none, .raw (.move (.tmp 0))),
    (some 8, none, .call 113 [(.tmp 7)]),
    (some 9, none, .raw (.unOp .not 4 (.tmp 8)))]) (
  .cond (.tmp 9) (
    .seq (.ops [(some 4, none, .raw (.assign (.const (.int .i64 2))))]) (
    .ret)) (
    .skip))) (
  .seq (.seq (.ops [(some 10, none, .raw (.move (.tmp 1))),
    (some 11, none, .len (.tmp 10)),
    (some 12, none, .raw (.move (.const (.int .i64 0))))]) (
  .block 0 (
    .loop (
      .seq (.ops [(some 13, none, .raw (.binOp .lss 3 (.tmp 12) (.tmp 11) 3))]) (
      .seq (.cond (.tmp 13) (
        .skip) (
        .exit 0)) (
      .seq (.block 1 (
        .seq (.ops [(some 14, none, .ix 2 (.tmp 10) (.tmp 12)),
          (some 15, none, .lda 2 (.tmp 14)),
          (some 6, none, .alloc 37 [.int .i64 0, .slice none 0 0]),
          (none, none, .st 2 (.tmp 6) (.tmp 15))]) (
        .seq (.ops [(some 16, none, .raw (.move (.tmp 0))),
          (some 17, none, .lda 2 (.tmp 6)),
          (some 18, none, .call 31 [(.tmp 16), (.tmp 17)]),
          (some 19, none, .raw (.unOp .not 4 (.tmp 18)))]) (
        .cond (.tmp 19) (
          .seq (.ops [(some 4, none, .raw (.assign (.const (.int .i64 9))))]) (
          .ret)) (
          .skip))))) (
      .ops [(some 20, none, .raw (.binOp .add 3 (.tmp 12) (.const (.int .i64 1)) 3)),
        (some 12, none, .raw (.move (.tmp 20)))]))))))) (
  .seq (.ops [(some 4, none, .raw (.assign (.const (.int .i64 0))))]) (
  .ret))))
theorem fc115 : facts 115 = some (c115, [.tmp 4], 21) := by kernel_rfl

/-- virgationref21.both -/
def c59 : C2 :=
  .seq (.ops [(some 2, none, .raw (.box 29 (.tmp 0))),
    (some 3, none, .raw (.box 37 (.tmp 1))),
    (some 4, none, .raw (.assign (.const (.int .i64 0))))]) (
  .seq (.seq (.ops [(some 5, none, .lda 3 (.tmp 2)),
    (some 6, none, .call 58 [(.tmp 5)]),
    (some 7, none, .raw (.unOp .not 4 (.tmp 6)))]) (
  .cond (.tmp 7) (
    .seq (.ops [(some 4, none, .raw (.assign (.const (.int .i64 10))))]) (
    .ret)) (
    .skip))) (
  .seq (.ops [(some 8, none, .fld 0 (.tmp 2)),
    (some 9, none, .ld (.tmp 8)),
    (some 10, none, .lda 2 (.tmp 3)),
    (some 11, none, .raw (.buildSlice 35 1 #[(0, (.tmp 10))])),
    (some 12, none, .call 115 [(.tmp 9), (.tmp 11)]),
    (some 4, none, .raw (.assign (.tmp 12)))]) (
  .ret)))
theorem fc59 : facts 59 = some (c59, [.tmp 4], 13) := by kernel_rfl

/-- virgationlaw21.large -/
def c18 : C2 :=
  .seq (.ops [(some 2, none, .raw (.box 29 (.tmp 0))),
    (some 3, none, .raw (.box 37 (.tmp 1))),
    (some 4, none, .raw (.assign (.const (.bool false))))]) (
  .seq (.ops [(some 5, none, .lda 2 (.tmp 3)),
    (some 6, none, .call 49 [(.tmp 5), (.const (.int .i64 3000))]),
    (some 7, none, .raw (.binOp .gtr 3 (.tmp 6) (.const (.int .i64 3000)) 3)),
    (some 8, none, .raw (.move (.tmp 7))),
    (some 9, some (8, true), .lda 3 (.tmp 2)),
    (some 10, some (8, true), .call 58 [(.tmp 9)]),
    (some 11, none, .raw (.pick (.tmp 8) (.tmp 10) (.const (.bool false)))),
    (some 12, none, .raw (.move (.tmp 11))),
    (some 13, some (12, true), .fld 0 (.tmp 2)),
    (some 14, some (12, true), .ld (.tmp 13)),
    (some 15, some (12, true), .lda 2 (.tmp 3)),
    (some 16, some (12, true), .call 31 [(.tmp 14), (.tmp 15)]),
    (some 17, none, .raw (.pick (.tmp 12) (.tmp 16) (.const (.bool false)))),
    (some 4, none, .raw (.assign (.tmp 17)))]) (
  .ret))
theorem fc18 : facts 18 = some (c18, [.tmp 4], 18) := by kernel_rfl

set_option maxRecDepth 8000 in
theorem is31 {H : Heap} {v : Value} {cs : List Value} {rs : List Int} {t : T} (hv : IsInts H.get v rs) (ht : IsT H.get cs t) : SC Tryz.prog 31 #[v, .agg cs.toArray] H (fun r H' => r = .bool (treeOK rs t) ∧ Fr H H') := by
  refine SC_of_W fc31 (by simp) fun hwf => ?_
  have ht0 := ht
  obtain ⟨s, ks⟩ := t
  obtain ⟨kv, rfl, hk⟩ := ht.inv
  obtain ⟨p, c, rfl, hlen, hat⟩ := hk
  unfold c31
  simp only [W_skip, W_ops, W_sops, W_seq, W_block, W_exit, W_ret, W_cond, U_seq, U_seq_exit, U_seq_ret, U_blk, U_blk_ret, U_blk_exit, again_exit', again_ret', again_normal', U_ret1, S_nil, S_gd, S_ld, S_lda, S_fld, S_len, S_ix, S_call, S_callv, S_func, S_move, S_assign, S_pick, S_bin, S_not, gdo_tt, gdo_ff, gdo_tf, gdo_ft, br_true, br_false, fin_val, ldV_ptr, ldaV_ptr, fldV_ptr, lenV_slice, not_bool, pick_true, pick_false, b_lss, b_leq, b_gtr, b_geq, b_eql, b_neq, b_add, b_sub, lift1_some, ev_tmp, ev_const, eput_app, eput_none, List.map_cons, List.map_nil, Nat.reduceEqDiff, Nat.succ_ne_self, Nat.reduceBEq, ↓reduceIte, reduceIte, decide_true, decide_false, Bool.not_true, Bool.not_false, if_true_left, Nat.one_ne_zero, Nat.zero_ne_one, not_true_eq_false, not_false_eq_true]
  refine S_box fun HB fB nB gB => ?_
  simp only [W_skip, W_ops, W_sops, W_seq, W_block, W_exit, W_ret, W_cond, U_seq, U_seq_exit, U_seq_ret, U_blk, U_blk_ret, U_blk_exit, again_exit', again_ret', again_normal', U_ret1, S_nil, S_gd, S_ld, S_lda, S_fld, S_len, S_ix, S_call, S_callv, S_func, S_move, S_assign, S_pick, S_bin, S_not, gdo_tt, gdo_ff, gdo_tf, gdo_ft, br_true, br_false, fin_val, ldV_ptr, ldaV_ptr, fldV_ptr, lenV_slice, not_bool, pick_true, pick_false, b_lss, b_leq, b_gtr, b_geq, b_eql, b_neq, b_add, b_sub, lift1_some, ev_tmp, ev_const, eput_app, eput_none, List.map_cons, List.map_nil, Nat.reduceEqDiff, Nat.succ_ne_self, Nat.reduceBEq, ↓reduceIte, reduceIte, decide_true, decide_false, Bool.not_true, Bool.not_false, if_true_left, Nat.one_ne_zero, Nat.zero_ne_one, not_true_eq_false, not_false_eq_true, f2_0, f2_1, box_agg] at gB ⊢
  have pp : ∀ H1, Fr HB H1 → H1.cellsFrom ⟨H.nxt, 0, none⟩ 0 2 = some [.int .i64 s, .slice p ks.length c] := fun H1 f1 => own_cells2 ((f1.old _ (by omega)).trans gB) rfl rfl
  simp only [W_skip, W_ops, W_sops, W_seq, W_block, W_exit, W_ret, W_cond, U_seq, U_seq_exit, U_seq_ret, U_blk, U_blk_ret, U_blk_exit, again_exit', again_ret', again_normal', U_ret1, S_nil, S_gd, S_ld, S_lda, S_fld, S_len, S_ix, S_call, S_callv, S_func, S_move, S_assign, S_pick, S_bin, S_not, gdo_tt, gdo_ff, gdo_tf, gdo_ft, br_true, br_false, fin_val, ldV_ptr, ldaV_ptr, fldV_ptr, lenV_slice, not_bool, pick_true, pick_false, b_lss, b_leq, b_gtr, b_geq, b_eql, b_neq, b_add, b_sub, lift1_some, ev_tmp, ev_const, eput_app, eput_none, List.map_cons, List.map_nil, Nat.reduceEqDiff, Nat.succ_ne_self, Nat.reduceBEq, ↓reduceIte, reduceIte, decide_true, decide_false, Bool.not_true, Bool.not_false, if_true_left, Nat.one_ne_zero, Nat.zero_ne_one, not_true_eq_false, not_false_eq_true, pp HB (Fr.refl _)]
  have hn := nodes49 (T.mk s ks).size (T.mk s ks) HB _ 20000 (Nat.le_refl _) (ht0.mono (fB.sub hwf)) (by omega) (by omega)
  refine call_then hn ?_
  clear hn
  rintro r2 H2 ⟨hr2, f2⟩ wf2
  subst hr2
  have fr2 := fB.trans f2
  rw [cont_app]
  simp only [W_skip, W_ops, W_sops, W_seq, W_block, W_exit, W_ret, W_cond, U_seq, U_seq_exit, U_seq_ret, U_blk, U_blk_ret, U_blk_exit, again_exit', again_ret', again_normal', U_ret1, S_nil, S_gd, S_ld, S_lda, S_fld, S_len, S_ix, S_call, S_callv, S_func, S_move, S_assign, S_pick, S_bin, S_not, gdo_tt, gdo_ff, gdo_tf, gdo_ft, br_true, br_false, fin_val, ldV_ptr, ldaV_ptr, fldV_ptr, lenV_slice, not_bool, pick_true, pick_false, b_lss, b_leq, b_gtr, b_geq, b_eql, b_neq, b_add, b_sub, lift1_some, ev_tmp, ev_const, eput_app, eput_none, List.map_cons, List.map_nil, Nat.reduceEqDiff, Nat.succ_ne_self, Nat.reduceBEq, ↓reduceIte, reduceIte, decide_true, decide_false, Bool.not_true, Bool.not_false, if_true_left, Nat.one_ne_zero, Nat.zero_ne_one, not_true_eq_false, not_false_eq_true]
  have e1 : decide (min ((T.mk s ks).size : Int) (20000 + 1) ≤ 20000) = decide ((T.mk s ks).size ≤ 20000) := by
    rw [Bool.eq_iff_iff]; simp only [decide_eq_true_eq]; omega
  rw [e1]
  refine gdo_of ?_ ?_ <;> intro hA
  · simp only [W_skip, W_ops, W_sops, W_seq, W_block, W_exit, W_ret, W_cond, U_seq, U_seq_exit, U_seq_ret, U_blk, U_blk_ret, U_blk_exit, again_exit', again_ret', again_normal', U_ret1, S_nil, S_gd, S_ld, S_lda, S_fld, S_len, S_ix, S_call, S_callv, S_func, S_move, S_assign, S_pick, S_bin, S_not, gdo_tt, gdo_ff, gdo_tf, gdo_ft, br_true, br_false, fin_val, ldV_ptr, ldaV_ptr, fldV_ptr, lenV_slice, not_bool, pick_true, pick_false, b_lss, b_leq, b_gtr, b_geq, b_eql, b_neq, b_add, b_sub, lift1_some, ev_tmp, ev_const, eput_app, eput_none, List.map_cons, List.map_nil, Nat.reduceEqDiff, Nat.succ_ne_self, Nat.reduceBEq, ↓reduceIte, reduceIte, decide_true, decide_false, Bool.not_true, Bool.not_false, if_true_left, Nat.one_ne_zero, Nat.zero_ne_one, not_true_eq_false, not_false_eq_true, hA, pp H2 f2]
    simp only [decide_eq_true_eq] at hA
    refine call_then (depth26 (T.mk s ks).size (T.mk s ks) H2 _ (Nat.le_refl _) (by omega) (ht0.mono (fr2.sub hwf))) ?_
    rintro _ H3 ⟨rfl, f3⟩ wf3
    have fr3 := fr2.trans f3
    rw [cont_app]
    simp only [W_skip, W_ops, W_sops, W_seq, W_block, W_exit, W_ret, W_cond, U_seq, U_seq_exit, U_seq_ret, U_blk, U_blk_ret, U_blk_exit, again_exit', again_ret', again_normal', U_ret1, S_nil, S_gd, S_ld, S_lda, S_fld, S_len, S_ix, S_call, S_callv, S_func, S_move, S_assign, S_pick, S_bin, S_not, gdo_tt, gdo_ff, gdo_tf, gdo_ft, br_true, br_false, fin_val, ldV_ptr, ldaV_ptr, fldV_ptr, lenV_slice, not_bool, pick_true, pick_false, b_lss, b_leq, b_gtr, b_geq, b_eql, b_neq, b_add, b_sub, lift1_some, ev_tmp, ev_const, eput_app, eput_none, List.map_cons, List.map_nil, Nat.reduceEqDiff, Nat.succ_ne_self, Nat.reduceBEq, ↓reduceIte, reduceIte, decide_true, decide_false, Bool.not_true, Bool.not_false, if_true_left, Nat.one_ne_zero, Nat.zero_ne_one, not_true_eq_false, not_false_eq_true, hA]
    refine gdo_of ?_ ?_ <;> intro hB
    · simp only [W_skip, W_ops, W_sops, W_seq, W_block, W_exit, W_ret, W_cond, U_seq, U_seq_exit, U_seq_ret, U_blk, U_blk_ret, U_blk_exit, again_exit', again_ret', again_normal', U_ret1, S_nil, S_gd, S_ld, S_lda, S_fld, S_len, S_ix, S_call, S_callv, S_func, S_move, S_assign, S_pick, S_bin, S_not, gdo_tt, gdo_ff, gdo_tf, gdo_ft, br_true, br_false, fin_val, ldV_ptr, ldaV_ptr, fldV_ptr, lenV_slice, not_bool, pick_true, pick_false, b_lss, b_leq, b_gtr, b_geq, b_eql, b_neq, b_add, b_sub, lift1_some, ev_tmp, ev_const, eput_app, eput_none, List.map_cons, List.map_nil, Nat.reduceEqDiff, Nat.succ_ne_self, Nat.reduceBEq, ↓reduceIte, reduceIte, decide_true, decide_false, Bool.not_true, Bool.not_false, if_true_left, Nat.one_ne_zero, Nat.zero_ne_one, not_true_eq_false, not_false_eq_true, hB, f2_0, pp H3 (f2.trans f3)]
      refine call_then (over77 (T.mk s ks).size (T.mk s ks) H3 _ _ _ (Nat.le_refl _) (ht0.mono (fr3.sub hwf)) (hv.mono (fr3.sub hwf))) ?_
      rintro _ H4 ⟨rfl, f4⟩ wf4
      rw [cont_app]
      simp only [W_skip, W_ops, W_sops, W_seq, W_block, W_exit, W_ret, W_cond, U_seq, U_seq_exit, U_seq_ret, U_blk, U_blk_ret, U_blk_exit, again_exit', again_ret', again_normal', U_ret1, S_nil, S_gd, S_ld, S_lda, S_fld, S_len, S_ix, S_call, S_callv, S_func, S_move, S_assign, S_pick, S_bin, S_not, gdo_tt, gdo_ff, gdo_tf, gdo_ft, br_true, br_false, fin_val, ldV_ptr, ldaV_ptr, fldV_ptr, lenV_slice, not_bool, pick_true, pick_false, b_lss, b_leq, b_gtr, b_geq, b_eql, b_neq, b_add, b_sub, lift1_some, ev_tmp, ev_const, eput_app, eput_none, List.map_cons, List.map_nil, Nat.reduceEqDiff, Nat.succ_ne_self, Nat.reduceBEq, ↓reduceIte, reduceIte, decide_true, decide_false, Bool.not_true, Bool.not_false, if_true_left, Nat.one_ne_zero, Nat.zero_ne_one, not_true_eq_false, not_false_eq_true, hB]
      simp only [decide_eq_true_eq] at hB
      refine ⟨?_, fr3.trans f4⟩
      have hB' : (T.mk s ks).depth ≤ 200 := by omega
      simp [treeOK, hA, hB']
    · simp only [W_skip, W_ops, W_sops, W_seq, W_block, W_exit, W_ret, W_cond, U_seq, U_seq_exit, U_seq_ret, U_blk, U_blk_ret, U_blk_exit, again_exit', again_ret', again_normal', U_ret1, S_nil, S_gd, S_ld, S_lda, S_fld, S_len, S_ix, S_call, S_callv, S_func, S_move, S_assign, S_pick, S_bin, S_not, gdo_tt, gdo_ff, gdo_tf, gdo_ft, br_true, br_false, fin_val, ldV_ptr, ldaV_ptr, fldV_ptr, lenV_slice, not_bool, pick_true, pick_false, b_lss, b_leq, b_gtr, b_geq, b_eql, b_neq, b_add, b_sub, lift1_some, ev_tmp, ev_const, eput_app, eput_none, List.map_cons, List.map_nil, Nat.reduceEqDiff, Nat.succ_ne_self, Nat.reduceBEq, ↓reduceIte, reduceIte, decide_true, decide_false, Bool.not_true, Bool.not_false, if_true_left, Nat.one_ne_zero, Nat.zero_ne_one, not_true_eq_false, not_false_eq_true, hB]
      simp only [decide_eq_false_iff_not] at hB
      refine ⟨not_bool_of fun h => ?_, fr3⟩
      simp only [treeOK, Bool.and_eq_true, decide_eq_true_eq] at h
      omega
  · simp only [W_skip, W_ops, W_sops, W_seq, W_block, W_exit, W_ret, W_cond, U_seq, U_seq_exit, U_seq_ret, U_blk, U_blk_ret, U_blk_exit, again_exit', again_ret', again_normal', U_ret1, S_nil, S_gd, S_ld, S_lda, S_fld, S_len, S_ix, S_call, S_callv, S_func, S_move, S_assign, S_pick, S_bin, S_not, gdo_tt, gdo_ff, gdo_tf, gdo_ft, br_true, br_false, fin_val, ldV_ptr, ldaV_ptr, fldV_ptr, lenV_slice, not_bool, pick_true, pick_false, b_lss, b_leq, b_gtr, b_geq, b_eql, b_neq, b_add, b_sub, lift1_some, ev_tmp, ev_const, eput_app, eput_none, List.map_cons, List.map_nil, Nat.reduceEqDiff, Nat.succ_ne_self, Nat.reduceBEq, ↓reduceIte, reduceIte, decide_true, decide_false, Bool.not_true, Bool.not_false, if_true_left, Nat.one_ne_zero, Nat.zero_ne_one, not_true_eq_false, not_false_eq_true, hA]
    simp only [decide_eq_false_iff_not] at hA
    refine ⟨not_bool_of fun h => ?_, fr2⟩
    simp only [treeOK, Bool.and_eq_true, decide_eq_true_eq] at h
    omega

def err115 (rs : List Int) (ts : List T) : Int := if ranksOK rs = true then (if ts.all (treeOK rs) = true then 0 else 9) else 2

theorem check115 {H : Heap} {v w : Value} {rs : List Int} {ts : List T} (hv : IsInts H.get v rs) (hw : IsSl H.get 2 (IsT H.get) w ts) : SC Tryz.prog 115 #[v, w] H (fun r H' => r = .int .i64 (err115 rs ts) ∧ Fr H H') := by
  refine SC_of_W fc115 (by simp) fun hwf => ?_
  obtain ⟨p, c, rfl, hlen, hat⟩ := hw
  have kn := Kn.self hwf
  unfold c115
  simp only [W_skip, W_ops, W_sops, W_seq, W_block, W_exit, W_ret, W_cond, U_seq, U_seq_exit, U_seq_ret, U_blk, U_blk_ret, U_blk_exit, again_exit', again_ret', again_normal', U_ret1, S_nil, S_gd, S_ld, S_lda, S_fld, S_len, S_ix, S_call, S_callv, S_func, S_move, S_assign, S_pick, S_bin, S_not, gdo_tt, gdo_ff, gdo_tf, gdo_ft, br_true, br_false, fin_val, ldV_ptr, ldaV_ptr, fldV_ptr, lenV_slice, not_bool, pick_true, pick_false, b_lss, b_leq, b_gtr, b_geq, b_eql, b_neq, b_add, b_sub, lift1_some, ev_tmp, ev_const, eput_app, eput_none, List.map_cons, List.map_nil, Nat.reduceEqDiff, Nat.succ_ne_self, Nat.reduceBEq, ↓reduceIte, reduceIte, decide_true, decide_false, Bool.not_true, Bool.not_false, if_true_left, Nat.one_ne_zero, Nat.zero_ne_one, not_true_eq_false, not_false_eq_true, f2_0]
  refine call_then (ranks113 hv) ?_
  rintro _ H2 ⟨rfl, f2⟩ wf2
  rw [cont_app]
  cases hk : ranksOK rs with
  | false =>
    simp only [W_skip, W_ops, W_sops, W_seq, W_block, W_exit, W_ret, W_cond, U_seq, U_seq_exit, U_seq_ret, U_blk, U_blk_ret, U_blk_exit, again_exit', again_ret', again_normal', U_ret1, S_nil, S_gd, S_ld, S_lda, S_fld, S_len, S_ix, S_call, S_callv, S_func, S_move, S_assign, S_pick, S_bin, S_not, gdo_tt, gdo_ff, gdo_tf, gdo_ft, br_true, br_false, fin_val, ldV_ptr, ldaV_ptr, fldV_ptr, lenV_slice, not_bool, pick_true, pick_false, b_lss, b_leq, b_gtr, b_geq, b_eql, b_neq, b_add, b_sub, lift1_some, ev_tmp, ev_const, eput_app, eput_none, List.map_cons, List.map_nil, Nat.reduceEqDiff, Nat.succ_ne_self, Nat.reduceBEq, ↓reduceIte, reduceIte, decide_true, decide_false, Bool.not_true, Bool.not_false, if_true_left, Nat.one_ne_zero, Nat.zero_ne_one, not_true_eq_false, not_false_eq_true]
    exact ⟨by simp [err115, hk], f2⟩
  | true =>
    simp only [W_skip, W_ops, W_sops, W_seq, W_block, W_exit, W_ret, W_cond, U_seq, U_seq_exit, U_seq_ret, U_blk, U_blk_ret, U_blk_exit, again_exit', again_ret', again_normal', U_ret1, S_nil, S_gd, S_ld, S_lda, S_fld, S_len, S_ix, S_call, S_callv, S_func, S_move, S_assign, S_pick, S_bin, S_not, gdo_tt, gdo_ff, gdo_tf, gdo_ft, br_true, br_false, fin_val, ldV_ptr, ldaV_ptr, fldV_ptr, lenV_slice, not_bool, pick_true, pick_false, b_lss, b_leq, b_gtr, b_geq, b_eql, b_neq, b_add, b_sub, lift1_some, ev_tmp, ev_const, eput_app, eput_none, List.map_cons, List.map_nil, Nat.reduceEqDiff, Nat.succ_ne_self, Nat.reduceBEq, ↓reduceIte, reduceIte, decide_true, decide_false, Bool.not_true, Bool.not_false, if_true_left, Nat.one_ne_zero, Nat.zero_ne_one, not_true_eq_false, not_false_eq_true, f2_1]
    refine W_loop (fun k g H1 => ∃ i, k = ts.length - i ∧ i ≤ ts.length ∧ g 0 = v ∧ g 10 = .slice p ts.length c ∧ g 11 = .int .i64 ts.length ∧ g 12 = .int .i64 (i : Nat) ∧ Fr H H1 ∧ (ts.take i).all (treeOK rs) = true) ?_ ts.length ⟨0, ?_⟩
    · rintro k g H1 ⟨i, rfl, hi, h0, h10, h11, h12, fr, ok⟩
      have kn1 := kn.fr fr
      simp only [W_skip, W_ops, W_sops, W_seq, W_block, W_exit, W_ret, W_cond, U_seq, U_seq_exit, U_seq_ret, U_blk, U_blk_ret, U_blk_exit, again_exit', again_ret', again_normal', U_ret1, S_nil, S_gd, S_ld, S_lda, S_fld, S_len, S_ix, S_call, S_callv, S_func, S_move, S_assign, S_pick, S_bin, S_not, gdo_tt, gdo_ff, gdo_tf, gdo_ft, br_true, br_false, fin_val, ldV_ptr, ldaV_ptr, fldV_ptr, lenV_slice, not_bool, pick_true, pick_false, b_lss, b_leq, b_gtr, b_geq, b_eql, b_neq, b_add, b_sub, lift1_some, ev_tmp, ev_const, eput_app, eput_none, List.map_cons, List.map_nil, Nat.reduceEqDiff, Nat.succ_ne_self, Nat.reduceBEq, ↓reduceIte, reduceIte, decide_true, decide_false, Bool.not_true, Bool.not_false, if_true_left, Nat.one_ne_zero, Nat.zero_ne_one, not_true_eq_false, not_false_eq_true, h0, h10, h11, h12]
      refine br_of ?_ ?_ <;> intro hC
      · have hi' : i < ts.length := by simpa using hC
        obtain ⟨b, cs2, rfl, hs, hI⟩ := hat i ts[i] (by simp [hi'])
        generalize hx : ts[i] = x at hI
        obtain ⟨s2, ks2⟩ := x
        obtain ⟨kv2, rfl, hk2⟩ := hI.inv
        obtain ⟨p2, c2, rfl, hlen2, hat2⟩ := hk2
        have hc := kn1.see2 hs
        simp only [W_skip, W_ops, W_sops, W_seq, W_block, W_exit, W_ret, W_cond, U_seq, U_seq_exit, U_seq_ret, U_blk, U_blk_ret, U_blk_exit, again_exit', again_ret', again_normal', U_ret1, S_nil, S_gd, S_ld, S_lda, S_fld, S_len, S_ix, S_call, S_callv, S_func, S_move, S_assign, S_pick, S_bin, S_not, gdo_tt, gdo_ff, gdo_tf, gdo_ft, br_true, br_false, fin_val, ldV_ptr, ldaV_ptr, fldV_ptr, lenV_slice, not_bool, pick_true, pick_false, b_lss, b_leq, b_gtr, b_geq, b_eql, b_neq, b_add, b_sub, lift1_some, ev_tmp, ev_const, eput_app, eput_none, List.map_cons, List.map_nil, Nat.reduceEqDiff, Nat.succ_ne_self, Nat.reduceBEq, ↓reduceIte, reduceIte, decide_true, decide_false, Bool.not_true, Bool.not_false, if_true_left, Nat.one_ne_zero, Nat.zero_ne_one, not_true_eq_false, not_false_eq_true, h0, h10, h11, h12, ixV_at hi', hc]
        refine S_alloc fun H2 f2 n2 g2 => ?_
        refine S_store (id := H1.nxt) (off := 0) (by simp only [W_skip, W_ops, W_sops, W_seq, W_block, W_exit, W_ret, W_cond, U_seq, U_seq_exit, U_seq_ret, U_blk, U_blk_ret, U_blk_exit, again_exit', again_ret', again_normal', U_ret1, S_nil, S_gd, S_ld, S_lda, S_fld, S_len, S_ix, S_call, S_callv, S_func, S_move, S_assign, S_pick, S_bin, S_not, gdo_tt, gdo_ff, gdo_tf, gdo_ft, br_true, br_false, fin_val, ldV_ptr, ldaV_ptr, fldV_ptr, lenV_slice, not_bool, pick_true, pick_false, b_lss, b_leq, b_gtr, b_geq, b_eql, b_neq, b_add, b_sub, lift1_some, ev_tmp, ev_const, eput_app, eput_none, List.map_cons, List.map_nil, Nat.reduceEqDiff, Nat.succ_ne_self, Nat.reduceBEq, ↓reduceIte, reduceIte, decide_true, decide_false, Bool.not_true, Bool.not_false, if_true_left, Nat.one_ne_zero, Nat.zero_ne_one, not_true_eq_false, not_false_eq_true]) (by simp only [W_skip, W_ops, W_sops, W_seq, W_block, W_exit, W_ret, W_cond, U_seq, U_seq_exit, U_seq_ret, U_blk, U_blk_ret, U_blk_exit, again_exit', again_ret', again_normal', U_ret1, S_nil, S_gd, S_ld, S_lda, S_fld, S_len, S_ix, S_call, S_callv, S_func, S_move, S_assign, S_pick, S_bin, S_not, gdo_tt, gdo_ff, gdo_tf, gdo_ft, br_true, br_false, fin_val, ldV_ptr, ldaV_ptr, fldV_ptr, lenV_slice, not_bool, pick_true, pick_false, b_lss, b_leq, b_gtr, b_geq, b_eql, b_neq, b_add, b_sub, lift1_some, ev_tmp, ev_const, eput_app, eput_none, List.map_cons, List.map_nil, Nat.reduceEqDiff, Nat.succ_ne_self, Nat.reduceBEq, ↓reduceIte, reduceIte, decide_true, decide_false, Bool.not_true, Bool.not_false, if_true_left, Nat.one_ne_zero, Nat.zero_ne_one, not_true_eq_false, not_false_eq_true]; rfl) (by omega) g2 (by simp) (by simp) (by simp only [W_skip, W_ops, W_sops, W_seq, W_block, W_exit, W_ret, W_cond, U_seq, U_seq_exit, U_seq_ret, U_blk, U_blk_ret, U_blk_exit, again_exit', again_ret', again_normal', U_ret1, S_nil, S_gd, S_ld, S_lda, S_fld, S_len, S_ix, S_call, S_callv, S_func, S_move, S_assign, S_pick, S_bin, S_not, gdo_tt, gdo_ff, gdo_tf, gdo_ft, br_true, br_false, fin_val, ldV_ptr, ldaV_ptr, fldV_ptr, lenV_slice, not_bool, pick_true, pick_false, b_lss, b_leq, b_gtr, b_geq, b_eql, b_neq, b_add, b_sub, lift1_some, ev_tmp, ev_const, eput_app, eput_none, List.map_cons, List.map_nil, Nat.reduceEqDiff, Nat.succ_ne_self, Nat.reduceBEq, ↓reduceIte, reduceIte, decide_true, decide_false, Bool.not_true, Bool.not_false, if_true_left, Nat.one_ne_zero, Nat.zero_ne_one, not_true_eq_false, not_false_eq_true]; simp [Value.cells, Value.oneCell']) fun H3 n3 o3 g3 => ?_
        simp only [W_skip, W_ops, W_sops, W_seq, W_block, W_exit, W_ret, W_cond, U_seq, U_seq_exit, U_seq_ret, U_blk, U_blk_ret, U_blk_exit, again_exit', again_ret', again_normal', U_ret1, S_nil, S_gd, S_ld, S_lda, S_fld, S_len, S_ix, S_call, S_callv, S_func, S_move, S_assign, S_pick, S_bin, S_not, gdo_tt, gdo_ff, gdo_tf, gdo_ft, br_true, br_false, fin_val, ldV_ptr, ldaV_ptr, fldV_ptr, lenV_slice, not_bool, pick_true, pick_false, b_lss, b_leq, b_gtr, b_geq, b_eql, b_neq, b_add, b_sub, lift1_some, ev_tmp, ev_const, eput_app, eput_none, List.map_cons, List.map_nil, Nat.reduceEqDiff, Nat.succ_ne_self, Nat.reduceBEq, ↓reduceIte, reduceIte, decide_true, decide_false, Bool.not_true, Bool.not_false, if_true_left, Nat.one_ne_zero, Nat.zero_ne_one, not_true_eq_false, not_false_eq_true, Value.cells, putL] at g3 ⊢
        have fr3 : Fr H H3 := (fr.trans f2).upd fr.nxt n3 o3
        have pp := own_cells2 g3 rfl rfl
        simp only [W_skip, W_ops, W_sops, W_seq, W_block, W_exit, W_ret, W_cond, U_seq, U_seq_exit, U_seq_ret, U_blk, U_blk_ret, U_blk_exit, again_exit', again_ret', again_normal', U_ret1, S_nil, S_gd, S_ld, S_lda, S_fld, S_len, S_ix, S_call, S_callv, S_func, S_move, S_assign, S_pick, S_bin, S_not, gdo_tt, gdo_ff, gdo_tf, gdo_ft, br_true, br_false, fin_val, ldV_ptr, ldaV_ptr, fldV_ptr, lenV_slice, not_bool, pick_true, pick_false, b_lss, b_leq, b_gtr, b_geq, b_eql, b_neq, b_add, b_sub, lift1_some, ev_tmp, ev_const, eput_app, eput_none, List.map_cons, List.map_nil, Nat.reduceEqDiff, Nat.succ_ne_self, Nat.reduceBEq, ↓reduceIte, reduceIte, decide_true, decide_false, Bool.not_true, Bool.not_false, if_true_left, Nat.one_ne_zero, Nat.zero_ne_one, not_true_eq_false, not_false_eq_true, h0, pp]
        refine call_then (is31 (hv.mono (fr3.sub hwf)) (hI.mono (fr3.sub hwf))) ?_
        rintro _ H4 ⟨rfl, f4⟩ wf4
        have fr4 := fr3.trans f4
        rw [cont_app]
        cases hov : treeOK rs (T.mk s2 ks2) with
        | false =>
          simp only [W_skip, W_ops, W_sops, W_seq, W_block, W_exit, W_ret, W_cond, U_seq, U_seq_exit, U_seq_ret, U_blk, U_blk_ret, U_blk_exit, again_exit', again_ret', again_normal', U_ret1, S_nil, S_gd, S_ld, S_lda, S_fld, S_len, S_ix, S_call, S_callv, S_func, S_move, S_assign, S_pick, S_bin, S_not, gdo_tt, gdo_ff, gdo_tf, gdo_ft, br_true, br_false, fin_val, ldV_ptr, ldaV_ptr, fldV_ptr, lenV_slice, not_bool, pick_true, pick_false, b_lss, b_leq, b_gtr, b_geq, b_eql, b_neq, b_add, b_sub, lift1_some, ev_tmp, ev_const, eput_app, eput_none, List.map_cons, List.map_nil, Nat.reduceEqDiff, Nat.succ_ne_self, Nat.reduceBEq, ↓reduceIte, reduceIte, decide_true, decide_false, Bool.not_true, Bool.not_false, if_true_left, Nat.one_ne_zero, Nat.zero_ne_one, not_true_eq_false, not_false_eq_true]
          refine ⟨?_, fr4⟩
          have : ts.all (treeOK rs) = false := by
            rw [List.all_eq_false]; exact ⟨ts[i], List.getElem_mem hi', by rw [hx, hov]; simp⟩
          simp [err115, hk, this]
        | true =>
          simp only [W_skip, W_ops, W_sops, W_seq, W_block, W_exit, W_ret, W_cond, U_seq, U_seq_exit, U_seq_ret, U_blk, U_blk_ret, U_blk_exit, again_exit', again_ret', again_normal', U_ret1, S_nil, S_gd, S_ld, S_lda, S_fld, S_len, S_ix, S_call, S_callv, S_func, S_move, S_assign, S_pick, S_bin, S_not, gdo_tt, gdo_ff, gdo_tf, gdo_ft, br_true, br_false, fin_val, ldV_ptr, ldaV_ptr, fldV_ptr, lenV_slice, not_bool, pick_true, pick_false, b_lss, b_leq, b_gtr, b_geq, b_eql, b_neq, b_add, b_sub, lift1_some, ev_tmp, ev_const, eput_app, eput_none, List.map_cons, List.map_nil, Nat.reduceEqDiff, Nat.succ_ne_self, Nat.reduceBEq, ↓reduceIte, reduceIte, decide_true, decide_false, Bool.not_true, Bool.not_false, if_true_left, Nat.one_ne_zero, Nat.zero_ne_one, not_true_eq_false, not_false_eq_true, h0, h10, h11, h12]
          refine ⟨ts.length - (i + 1), by omega, i + 1, rfl, hi', trivial, trivial, trivial, by rw [wrap_succ (by omega)], fr4, ?_⟩
          rw [all_take hi', ok, hx, hov]; rfl
      · have hi' : i = ts.length := by simp at hC; omega
        subst hi'
        rw [List.take_length] at ok
        simp only [W_skip, W_ops, W_sops, W_seq, W_block, W_exit, W_ret, W_cond, U_seq, U_seq_exit, U_seq_ret, U_blk, U_blk_ret, U_blk_exit, again_exit', again_ret', again_normal', U_ret1, S_nil, S_gd, S_ld, S_lda, S_fld, S_len, S_ix, S_call, S_callv, S_func, S_move, S_assign, S_pick, S_bin, S_not, gdo_tt, gdo_ff, gdo_tf, gdo_ft, br_true, br_false, fin_val, ldV_ptr, ldaV_ptr, fldV_ptr, lenV_slice, not_bool, pick_true, pick_false, b_lss, b_leq, b_gtr, b_geq, b_eql, b_neq, b_add, b_sub, lift1_some, ev_tmp, ev_const, eput_app, eput_none, List.map_cons, List.map_nil, Nat.reduceEqDiff, Nat.succ_ne_self, Nat.reduceBEq, ↓reduceIte, reduceIte, decide_true, decide_false, Bool.not_true, Bool.not_false, if_true_left, Nat.one_ne_zero, Nat.zero_ne_one, not_true_eq_false, not_false_eq_true]
        exact ⟨by simp [err115, hk, ok], fr⟩
    · simp only [W_skip, W_ops, W_sops, W_seq, W_block, W_exit, W_ret, W_cond, U_seq, U_seq_exit, U_seq_ret, U_blk, U_blk_ret, U_blk_exit, again_exit', again_ret', again_normal', U_ret1, S_nil, S_gd, S_ld, S_lda, S_fld, S_len, S_ix, S_call, S_callv, S_func, S_move, S_assign, S_pick, S_bin, S_not, gdo_tt, gdo_ff, gdo_tf, gdo_ft, br_true, br_false, fin_val, ldV_ptr, ldaV_ptr, fldV_ptr, lenV_slice, not_bool, pick_true, pick_false, b_lss, b_leq, b_gtr, b_geq, b_eql, b_neq, b_add, b_sub, lift1_some, ev_tmp, ev_const, eput_app, eput_none, List.map_cons, List.map_nil, Nat.reduceEqDiff, Nat.succ_ne_self, Nat.reduceBEq, ↓reduceIte, reduceIte, decide_true, decide_false, Bool.not_true, Bool.not_false, if_true_left, Nat.one_ne_zero, Nat.zero_ne_one, not_true_eq_false, not_false_eq_true, f2_0, f2_1]
      simp [f2]

/-- the error for an automaton and a tree -/
def err59 (a : Au) (t : T) : Int := if a.ok = true then (if treeOK a.ranks t = true then 0 else 9) else 10

theorem IsAu.mono {G G' : Nat → Option Blk} (h : Sub G G') {v : Value} {a : Au} (hv : IsAu G v a) : IsAu G' v a := by
  obtain ⟨r, m, h1, h2, h3⟩ := hv
  exact ⟨r, m, h1, h2.mono h, h3.mono h⟩

set_option maxRecDepth 20000 in
theorem both59 {H : Heap} {v : Value} {cs : List Value} {a : Au} {t : T} (hv : IsAu H.get v a) (ht : IsT H.get cs t) : SC Tryz.prog 59 #[v, .agg cs.toArray] H (fun r H' => r = .int .i64 (err59 a t) ∧ Fr H H') := by
  refine SC_of_W fc59 (by simp) fun hwf => ?_
  have hv0 := hv
  have ht0 := ht
  obtain ⟨rv, mv, rfl, hr, hm⟩ := hv
  have hr0 := hr
  obtain ⟨pr, cr, rfl, hrlen, hrat⟩ := hr
  obtain ⟨pm, cm, rfl, hmlen, hmat⟩ := hm
  obtain ⟨s, ks⟩ := t
  obtain ⟨kv, rfl, hk⟩ := ht.inv
  obtain ⟨p, c, rfl, hlen, hat⟩ := hk
  unfold c59
  simp only [W_skip, W_ops, W_sops, W_seq, W_block, W_exit, W_ret, W_cond, U_seq, U_seq_exit, U_seq_ret, U_blk, U_blk_ret, U_blk_exit, again_exit', again_ret', again_normal', U_ret1, S_nil, S_gd, S_ld, S_lda, S_fld, S_len, S_ix, S_call, S_callv, S_func, S_move, S_assign, S_pick, S_bin, S_not, gdo_tt, gdo_ff, gdo_tf, gdo_ft, br_true, br_false, fin_val, ldV_ptr, ldaV_ptr, fldV_ptr, lenV_slice, not_bool, pick_true, pick_false, b_lss, b_leq, b_gtr, b_geq, b_eql, b_neq, b_add, b_sub, lift1_some, ev_tmp, ev_const, eput_app, eput_none, List.map_cons, List.map_nil, Nat.reduceEqDiff, Nat.succ_ne_self, Nat.reduceBEq, ↓reduceIte, reduceIte, decide_true, decide_false, Bool.not_true, Bool.not_false, if_true_left, Nat.one_ne_zero, Nat.zero_ne_one, not_true_eq_false, not_false_eq_true]
  refine S_box fun H1 f1 n1 g1 => ?_
  refine S_box fun H2 f2 n2 g2 => ?_
  simp only [W_skip, W_ops, W_sops, W_seq, W_block, W_exit, W_ret, W_cond, U_seq, U_seq_exit, U_seq_ret, U_blk, U_blk_ret, U_blk_exit, again_exit', again_ret', again_normal', U_ret1, S_nil, S_gd, S_ld, S_lda, S_fld, S_len, S_ix, S_call, S_callv, S_func, S_move, S_assign, S_pick, S_bin, S_not, gdo_tt, gdo_ff, gdo_tf, gdo_ft, br_true, br_false, fin_val, ldV_ptr, ldaV_ptr, fldV_ptr, lenV_slice, not_bool, pick_true, pick_false, b_lss, b_leq, b_gtr, b_geq, b_eql, b_neq, b_add, b_sub, lift1_some, ev_tmp, ev_const, eput_app, eput_none, List.map_cons, List.map_nil, Nat.reduceEqDiff, Nat.succ_ne_self, Nat.reduceBEq, ↓reduceIte, reduceIte, decide_true, decide_false, Bool.not_true, Bool.not_false, if_true_left, Nat.one_ne_zero, Nat.zero_ne_one, not_true_eq_false, not_false_eq_true, f2_0, f2_1, Value.cells] at g1 g2 ⊢
  have g1' : ∀ H5, Fr H2 H5 → H5.get H.nxt = _ := fun H5 f5 => ((f2.trans f5).old _ (by omega)).trans g1
  have g2' : ∀ H5, Fr H2 H5 → H5.get H1.nxt = _ := fun H5 f5 => (f5.old _ (by omega)).trans g2
  have fr2 := f1.trans f2
  simp only [W_skip, W_ops, W_sops, W_seq, W_block, W_exit, W_ret, W_cond, U_seq, U_seq_exit, U_seq_ret, U_blk, U_blk_ret, U_blk_exit, again_exit', again_ret', again_normal', U_ret1, S_nil, S_gd, S_ld, S_lda, S_fld, S_len, S_ix, S_call, S_callv, S_func, S_move, S_assign, S_pick, S_bin, S_not, gdo_tt, gdo_ff, gdo_tf, gdo_ft, br_true, br_false, fin_val, ldV_ptr, ldaV_ptr, fldV_ptr, lenV_slice, not_bool, pick_true, pick_false, b_lss, b_leq, b_gtr, b_geq, b_eql, b_neq, b_add, b_sub, lift1_some, ev_tmp, ev_const, eput_app, eput_none, List.map_cons, List.map_nil, Nat.reduceEqDiff, Nat.succ_ne_self, Nat.reduceBEq, ↓reduceIte, reduceIte, decide_true, decide_false, Bool.not_true, Bool.not_false, if_true_left, Nat.one_ne_zero, Nat.zero_ne_one, not_true_eq_false, not_false_eq_true, own_cells3 (g1' H2 (Fr.refl _)) rfl rfl rfl]
  refine call_then (is58 (hv0.mono (fr2.sub hwf))) ?_
  rintro _ H3 ⟨rfl, f3⟩ wf3
  have fr3 := fr2.trans f3
  rw [cont_app]
  cases hok : a.ok with
  | false =>
    simp only [W_skip, W_ops, W_sops, W_seq, W_block, W_exit, W_ret, W_cond, U_seq, U_seq_exit, U_seq_ret, U_blk, U_blk_ret, U_blk_exit, again_exit', again_ret', again_normal', U_ret1, S_nil, S_gd, S_ld, S_lda, S_fld, S_len, S_ix, S_call, S_callv, S_func, S_move, S_assign, S_pick, S_bin, S_not, gdo_tt, gdo_ff, gdo_tf, gdo_ft, br_true, br_false, fin_val, ldV_ptr, ldaV_ptr, fldV_ptr, lenV_slice, not_bool, pick_true, pick_false, b_lss, b_leq, b_gtr, b_geq, b_eql, b_neq, b_add, b_sub, lift1_some, ev_tmp, ev_const, eput_app, eput_none, List.map_cons, List.map_nil, Nat.reduceEqDiff, Nat.succ_ne_self, Nat.reduceBEq, ↓reduceIte, reduceIte, decide_true, decide_false, Bool.not_true, Bool.not_false, if_true_left, Nat.one_ne_zero, Nat.zero_ne_one, not_true_eq_false, not_false_eq_true]
    exact ⟨by simp [err59, hok], fr3⟩
  | true =>
    simp only [W_skip, W_ops, W_sops, W_seq, W_block, W_exit, W_ret, W_cond, U_seq, U_seq_exit, U_seq_ret, U_blk, U_blk_ret, U_blk_exit, again_exit', again_ret', again_normal', U_ret1, S_nil, S_gd, S_ld, S_lda, S_fld, S_len, S_ix, S_call, S_callv, S_func, S_move, S_assign, S_pick, S_bin, S_not, gdo_tt, gdo_ff, gdo_tf, gdo_ft, br_true, br_false, fin_val, ldV_ptr, ldaV_ptr, fldV_ptr, lenV_slice, not_bool, pick_true, pick_false, b_lss, b_leq, b_gtr, b_geq, b_eql, b_neq, b_add, b_sub, lift1_some, ev_tmp, ev_const, eput_app, eput_none, List.map_cons, List.map_nil, Nat.reduceEqDiff, Nat.succ_ne_self, Nat.reduceBEq, ↓reduceIte, reduceIte, decide_true, decide_false, Bool.not_true, Bool.not_false, if_true_left, Nat.one_ne_zero, Nat.zero_ne_one, not_true_eq_false, not_false_eq_true, own_add, own_cell 0 (g1' H3 f3) rfl rfl, own_cells2 (g2' H3 f3) rfl rfl]
    refine S_one ty35 rfl ty37 rfl rfl (Nat.zero_lt_succ 1) (show (2 : Nat) ≤ 16777216 by omega) (by simp only [W_skip, W_ops, W_sops, W_seq, W_block, W_exit, W_ret, W_cond, U_seq, U_seq_exit, U_seq_ret, U_blk, U_blk_ret, U_blk_exit, again_exit', again_ret', again_normal', U_ret1, S_nil, S_gd, S_ld, S_lda, S_fld, S_len, S_ix, S_call, S_callv, S_func, S_move, S_assign, S_pick, S_bin, S_not, gdo_tt, gdo_ff, gdo_tf, gdo_ft, br_true, br_false, fin_val, ldV_ptr, ldaV_ptr, fldV_ptr, lenV_slice, not_bool, pick_true, pick_false, b_lss, b_leq, b_gtr, b_geq, b_eql, b_neq, b_add, b_sub, lift1_some, ev_tmp, ev_const, eput_app, eput_none, List.map_cons, List.map_nil, Nat.reduceEqDiff, Nat.succ_ne_self, Nat.reduceBEq, ↓reduceIte, reduceIte, decide_true, decide_false, Bool.not_true, Bool.not_false, if_true_left, Nat.one_ne_zero, Nat.zero_ne_one, not_true_eq_false, not_false_eq_true]; rfl) fun H4 f4 n4 g4 => ?_
    simp only [W_skip, W_ops, W_sops, W_seq, W_block, W_exit, W_ret, W_cond, U_seq, U_seq_exit, U_seq_ret, U_blk, U_blk_ret, U_blk_exit, again_exit', again_ret', again_normal', U_ret1, S_nil, S_gd, S_ld, S_lda, S_fld, S_len, S_ix, S_call, S_callv, S_func, S_move, S_assign, S_pick, S_bin, S_not, gdo_tt, gdo_ff, gdo_tf, gdo_ft, br_true, br_false, fin_val, ldV_ptr, ldaV_ptr, fldV_ptr, lenV_slice, not_bool, pick_true, pick_false, b_lss, b_leq, b_gtr, b_geq, b_eql, b_neq, b_add, b_sub, lift1_some, ev_tmp, ev_const, eput_app, eput_none, List.map_cons, List.map_nil, Nat.reduceEqDiff, Nat.succ_ne_self, Nat.reduceBEq, ↓reduceIte, reduceIte, decide_true, decide_false, Bool.not_true, Bool.not_false, if_true_left, Nat.one_ne_zero, Nat.zero_ne_one, not_true_eq_false, not_false_eq_true, Value.cells] at g4 ⊢
    have fr4 := fr3.trans f4
    have hsl : IsSl H4.get 2 (IsT H4.get) (.slice (some ⟨H3.nxt, 0, none⟩) 1 1) [T.mk s ks] := by
      refine ⟨some ⟨H3.nxt, 0, none⟩, 1, rfl, by simp, fun i x hx => ?_⟩
      have hi : i = 0 := by have := (List.getElem?_eq_some_iff.1 hx).1; simp at this; exact this
      subst hi
      simp at hx
      subst hx
      exact ⟨_, _, rfl, own_cells2 (H := GH H4.get) g4 rfl rfl, ht0.mono (fr4.sub hwf)⟩
    refine call_then (check115 (hr0.mono (fr4.sub hwf)) hsl) ?_
    rintro _ H5 ⟨rfl, f5⟩ wf5
    rw [cont_app]
    simp only [W_skip, W_ops, W_sops, W_seq, W_block, W_exit, W_ret, W_cond, U_seq, U_seq_exit, U_seq_ret, U_blk, U_blk_ret, U_blk_exit, again_exit', again_ret', again_normal', U_ret1, S_nil, S_gd, S_ld, S_lda, S_fld, S_len, S_ix, S_call, S_callv, S_func, S_move, S_assign, S_pick, S_bin, S_not, gdo_tt, gdo_ff, gdo_tf, gdo_ft, br_true, br_false, fin_val, ldV_ptr, ldaV_ptr, fldV_ptr, lenV_slice, not_bool, pick_true, pick_false, b_lss, b_leq, b_gtr, b_geq, b_eql, b_neq, b_add, b_sub, lift1_some, ev_tmp, ev_const, eput_app, eput_none, List.map_cons, List.map_nil, Nat.reduceEqDiff, Nat.succ_ne_self, Nat.reduceBEq, ↓reduceIte, reduceIte, decide_true, decide_false, Bool.not_true, Bool.not_false, if_true_left, Nat.one_ne_zero, Nat.zero_ne_one, not_true_eq_false, not_false_eq_true]
    refine ⟨?_, fr4.trans f5⟩
    have hrk := (ok_iff.1 hok).1
    simp [err59, err115, hok, hrk]

theorem large18 {H : Heap} {v : Value} {cs : List Value} {a : Au} {t : T} (hv : IsAu H.get v a) (ht : IsT H.get cs t) :
    SC Tryz.prog 18 #[v, .agg cs.toArray] H (fun r H' => r = .bool (decide (3000 < t.size) && a.ok && treeOK a.ranks t) ∧ Fr H H') := by
  refine SC_of_W fc18 (by simp) fun hwf => ?_
  have hv0 := hv
  have ht0 := ht
  obtain ⟨rv, mv, rfl, hr, hm⟩ := hv
  have hr0 := hr
  obtain ⟨pr, cr, rfl, hrlen, hrat⟩ := hr
  obtain ⟨pm, cm, rfl, hmlen, hmat⟩ := hm
  obtain ⟨s, ks⟩ := t
  obtain ⟨kv, rfl, hk⟩ := ht.inv
  obtain ⟨p, c, rfl, hlen, hat⟩ := hk
  unfold c18
  simp only [W_skip, W_ops, W_sops, W_seq, W_block, W_exit, W_ret, W_cond, U_seq, U_seq_exit, U_seq_ret, U_blk, U_blk_ret, U_blk_exit, again_exit', again_ret', again_normal', U_ret1, S_nil, S_gd, S_ld, S_lda, S_fld, S_len, S_ix, S_call, S_callv, S_func, S_move, S_assign, S_pick, S_bin, S_not, gdo_tt, gdo_ff, gdo_tf, gdo_ft, br_true, br_false, fin_val, ldV_ptr, ldaV_ptr, fldV_ptr, lenV_slice, not_bool, pick_true, pick_false, b_lss, b_leq, b_gtr, b_geq, b_eql, b_neq, b_add, b_sub, lift1_some, ev_tmp, ev_const, eput_app, eput_none, List.map_cons, List.map_nil, Nat.reduceEqDiff, Nat.succ_ne_self, Nat.reduceBEq, ↓reduceIte, reduceIte, decide_true, decide_false, Bool.not_true, Bool.not_false, if_true_left, Nat.one_ne_zero, Nat.zero_ne_one, not_true_eq_false, not_false_eq_true]
  refine S_box fun H1 f1 n1 g1 => ?_
  refine S_box fun H2 f2 n2 g2 => ?_
  simp only [W_skip, W_ops, W_sops, W_seq, W_block, W_exit, W_ret, W_cond, U_seq, U_seq_exit, U_seq_ret, U_blk, U_blk_ret, U_blk_exit, again_exit', again_ret', again_normal', U_ret1, S_nil, S_gd, S_ld, S_lda, S_fld, S_len, S_ix, S_call, S_callv, S_func, S_move, S_assign, S_pick, S_bin, S_not, gdo_tt, gdo_ff, gdo_tf, gdo_ft, br_true, br_false, fin_val, ldV_ptr, ldaV_ptr, fldV_ptr, lenV_slice, not_bool, pick_true, pick_false, b_lss, b_leq, b_gtr, b_geq, b_eql, b_neq, b_add, b_sub, lift1_some, ev_tmp, ev_const, eput_app, eput_none, List.map_cons, List.map_nil, Nat.reduceEqDiff, Nat.succ_ne_self, Nat.reduceBEq, ↓reduceIte, reduceIte, decide_true, decide_false, Bool.not_true, Bool.not_false, if_true_left, Nat.one_ne_zero, Nat.zero_ne_one, not_true_eq_false, not_false_eq_true, f2_0, f2_1, Value.cells] at g1 g2 ⊢
  have g1' : ∀ H5, Fr H2 H5 → H5.get H.nxt = _ := fun H5 f5 => ((f2.trans f5).old _ (by omega)).trans g1
  have g2' : ∀ H5, Fr H2 H5 → H5.get H1.nxt = _ := fun H5 f5 => (f5.old _ (by omega)).trans g2
  have fr2 := f1.trans f2
  simp only [W_skip, W_ops, W_sops, W_seq, W_block, W_exit, W_ret, W_cond, U_seq, U_seq_exit, U_seq_ret, U_blk, U_blk_ret, U_blk_exit, again_exit', again_ret', again_normal', U_ret1, S_nil, S_gd, S_ld, S_lda, S_fld, S_len, S_ix, S_call, S_callv, S_func, S_move, S_assign, S_pick, S_bin, S_not, gdo_tt, gdo_ff, gdo_tf, gdo_ft, br_true, br_false, fin_val, ldV_ptr, ldaV_ptr, fldV_ptr, lenV_slice, not_bool, pick_true, pick_false, b_lss, b_leq, b_gtr, b_geq, b_eql, b_neq, b_add, b_sub, lift1_some, ev_tmp, ev_const, eput_app, eput_none, List.map_cons, List.map_nil, Nat.reduceEqDiff, Nat.succ_ne_self, Nat.reduceBEq, ↓reduceIte, reduceIte, decide_true, decide_false, Bool.not_true, Bool.not_false, if_true_left, Nat.one_ne_zero, Nat.zero_ne_one, not_true_eq_false, not_false_eq_true, own_cells2 (g2' H2 (Fr.refl _)) rfl rfl]
  have hn := nodes49 (T.mk s ks).size (T.mk s ks) H2 _ 3000 (Nat.le_refl _) (ht0.mono (fr2.sub hwf)) (by omega) (by omega)
  refine call_then hn ?_
  clear hn
  rintro r2 H3 ⟨hr2, f3⟩ wf3
  subst hr2
  have fr3 := fr2.trans f3
  rw [cont_app]
  simp only [W_skip, W_ops, W_sops, W_seq, W_block, W_exit, W_ret, W_cond, U_seq, U_seq_exit, U_seq_ret, U_blk, U_blk_ret, U_blk_exit, again_exit', again_ret', again_normal', U_ret1, S_nil, S_gd, S_ld, S_lda, S_fld, S_len, S_ix, S_call, S_callv, S_func, S_move, S_assign, S_pick, S_bin, S_not, gdo_tt, gdo_ff, gdo_tf, gdo_ft, br_true, br_false, fin_val, ldV_ptr, ldaV_ptr, fldV_ptr, lenV_slice, not_bool, pick_true, pick_false, b_lss, b_leq, b_gtr, b_geq, b_eql, b_neq, b_add, b_sub, lift1_some, ev_tmp, ev_const, eput_app, eput_none, List.map_cons, List.map_nil, Nat.reduceEqDiff, Nat.succ_ne_self, Nat.reduceBEq, ↓reduceIte, reduceIte, decide_true, decide_false, Bool.not_true, Bool.not_false, if_true_left, Nat.one_ne_zero, Nat.zero_ne_one, not_true_eq_false, not_false_eq_true]
  have e1 : decide (3000 < min ((T.mk s ks).size : Int) (3000 + 1)) = decide (3000 < (T.mk s ks).size) := by
    rw [Bool.eq_iff_iff]; simp only [decide_eq_true_eq]; omega
  rw [e1]
  cases hA : decide (3000 < (T.mk s ks).size) with
  | false =>
    simp only [W_skip, W_ops, W_sops, W_seq, W_block, W_exit, W_ret, W_cond, U_seq, U_seq_exit, U_seq_ret, U_blk, U_blk_ret, U_blk_exit, again_exit', again_ret', again_normal', U_ret1, S_nil, S_gd, S_ld, S_lda, S_fld, S_len, S_ix, S_call, S_callv, S_func, S_move, S_assign, S_pick, S_bin, S_not, gdo_tt, gdo_ff, gdo_tf, gdo_ft, br_true, br_false, fin_val, ldV_ptr, ldaV_ptr, fldV_ptr, lenV_slice, not_bool, pick_true, pick_false, b_lss, b_leq, b_gtr, b_geq, b_eql, b_neq, b_add, b_sub, lift1_some, ev_tmp, ev_const, eput_app, eput_none, List.map_cons, List.map_nil, Nat.reduceEqDiff, Nat.succ_ne_self, Nat.reduceBEq, ↓reduceIte, reduceIte, decide_true, decide_false, Bool.not_true, Bool.not_false, if_true_left, Nat.one_ne_zero, Nat.zero_ne_one, not_true_eq_false, not_false_eq_true]
    exact ⟨by simp, fr3⟩
  | true =>
    simp only [W_skip, W_ops, W_sops, W_seq, W_block, W_exit, W_ret, W_cond, U_seq, U_seq_exit, U_seq_ret, U_blk, U_blk_ret, U_blk_exit, again_exit', again_ret', again_normal', U_ret1, S_nil, S_gd, S_ld, S_lda, S_fld, S_len, S_ix, S_call, S_callv, S_func, S_move, S_assign, S_pick, S_bin, S_not, gdo_tt, gdo_ff, gdo_tf, gdo_ft, br_true, br_false, fin_val, ldV_ptr, ldaV_ptr, fldV_ptr, lenV_slice, not_bool, pick_true, pick_false, b_lss, b_leq, b_gtr, b_geq, b_eql, b_neq, b_add, b_sub, lift1_some, ev_tmp, ev_const, eput_app, eput_none, List.map_cons, List.map_nil, Nat.reduceEqDiff, Nat.succ_ne_self, Nat.reduceBEq, ↓reduceIte, reduceIte, decide_true, decide_false, Bool.not_true, Bool.not_false, if_true_left, Nat.one_ne_zero, Nat.zero_ne_one, not_true_eq_false, not_false_eq_true, own_cells3 (g1' H3 f3) rfl rfl rfl]
    refine call_then (is58 (hv0.mono (fr3.sub hwf))) ?_
    rintro _ H4 ⟨rfl, f4⟩ wf4
    have fr4 := fr3.trans f4
    rw [cont_app]
    cases hok : a.ok with
    | false =>
      simp only [W_skip, W_ops, W_sops, W_seq, W_block, W_exit, W_ret, W_cond, U_seq, U_seq_exit, U_seq_ret, U_blk, U_blk_ret, U_blk_exit, again_exit', again_ret', again_normal', U_ret1, S_nil, S_gd, S_ld, S_lda, S_fld, S_len, S_ix, S_call, S_callv, S_func, S_move, S_assign, S_pick, S_bin, S_not, gdo_tt, gdo_ff, gdo_tf, gdo_ft, br_true, br_false, fin_val, ldV_ptr, ldaV_ptr, fldV_ptr, lenV_slice, not_bool, pick_true, pick_false, b_lss, b_leq, b_gtr, b_geq, b_eql, b_neq, b_add, b_sub, lift1_some, ev_tmp, ev_const, eput_app, eput_none, List.map_cons, List.map_nil, Nat.reduceEqDiff, Nat.succ_ne_self, Nat.reduceBEq, ↓reduceIte, reduceIte, decide_true, decide_false, Bool.not_true, Bool.not_false, if_true_left, Nat.one_ne_zero, Nat.zero_ne_one, not_true_eq_false, not_false_eq_true]
      exact ⟨by simp, fr4⟩
    | true =>
      simp only [W_skip, W_ops, W_sops, W_seq, W_block, W_exit, W_ret, W_cond, U_seq, U_seq_exit, U_seq_ret, U_blk, U_blk_ret, U_blk_exit, again_exit', again_ret', again_normal', U_ret1, S_nil, S_gd, S_ld, S_lda, S_fld, S_len, S_ix, S_call, S_callv, S_func, S_move, S_assign, S_pick, S_bin, S_not, gdo_tt, gdo_ff, gdo_tf, gdo_ft, br_true, br_false, fin_val, ldV_ptr, ldaV_ptr, fldV_ptr, lenV_slice, not_bool, pick_true, pick_false, b_lss, b_leq, b_gtr, b_geq, b_eql, b_neq, b_add, b_sub, lift1_some, ev_tmp, ev_const, eput_app, eput_none, List.map_cons, List.map_nil, Nat.reduceEqDiff, Nat.succ_ne_self, Nat.reduceBEq, ↓reduceIte, reduceIte, decide_true, decide_false, Bool.not_true, Bool.not_false, if_true_left, Nat.one_ne_zero, Nat.zero_ne_one, not_true_eq_false, not_false_eq_true, own_add, own_cell 0 (g1' H4 (f3.trans f4)) rfl rfl, own_cells2 (g2' H4 (f3.trans f4)) rfl rfl]
      refine call_then (is31 (hr0.mono (fr4.sub hwf)) (ht0.mono (fr4.sub hwf))) ?_
      rintro _ H5 ⟨rfl, f5⟩ wf5
      rw [cont_app]
      simp only [W_skip, W_ops, W_sops, W_seq, W_block, W_exit, W_ret, W_cond, U_seq, U_seq_exit, U_seq_ret, U_blk, U_blk_ret, U_blk_exit, again_exit', again_ret', again_normal', U_ret1, S_nil, S_gd, S_ld, S_lda, S_fld, S_len, S_ix, S_call, S_callv, S_func, S_move, S_assign, S_pick, S_bin, S_not, gdo_tt, gdo_ff, gdo_tf, gdo_ft, br_true, br_false, fin_val, ldV_ptr, ldaV_ptr, fldV_ptr, lenV_slice, not_bool, pick_true, pick_false, b_lss, b_leq, b_gtr, b_geq, b_eql, b_neq, b_add, b_sub, lift1_some, ev_tmp, ev_const, eput_app, eput_none, List.map_cons, List.map_nil, Nat.reduceEqDiff, Nat.succ_ne_self, Nat.reduceBEq, ↓reduceIte, reduceIte, decide_true, decide_false, Bool.not_true, Bool.not_false, if_true_left, Nat.one_ne_zero, Nat.zero_ne_one, not_true_eq_false, not_false_eq_true]
      exact ⟨by simp, fr4.trans f5⟩

end Go.Proofs.YtcfjimhbachmlaaGreatDoor.E

/- Contracts: the program's check of a tree. -/
namespace Go.Proofs.YtcfjimhbachmlaaGreatDoor.E
open Go Go.Proofs
open Go.Proofs.YtcfjimhbachmlaaGreatDoor.L

section
variable {Y : Env} {P : Program} {K : List KF} {Q : EPost} {g : Fm} {H : Heap}
def nilcV (H : Heap) : Value → Option (EN × Heap)
  | .pointer (some a) => some (.val (.pointer (some a)), H)
  | _ => none
theorem S_nilc {d x l} : S Y P ((d, none, .raw (.nilCheck x)) :: l) K Q g H = fin Y P d l K Q g (nilcV H (ev g x)) := S_cons
theorem nilc_ptr {a} : nilcV H (.pointer (some a)) = some (.val (.pointer (some a)), H) := (rfl)
def extV (H : Heap) (n : Nat) : Value → Option (EN × Heap)
  | .tuple vs => lift1 H vs[n]?
  | _ => none
theorem S_ext {d x n l} : S Y P ((d, none, .raw (.extract x n)) :: l) K Q g H = fin Y P d l K Q g (extV H n (ev g x)) := S_cons
theorem ext0 {a b} : extV H 0 (.tuple #[a, b]) = some (.val a, H) := (rfl)
theorem ext1 {a b} : extV H 1 (.tuple #[a, b]) = some (.val b, H) := (rfl)
end

/-- tree.over -/
def c140 : C2 :=
  .seq (.ops [(some 3, none, .raw (.box 37 (.tmp 1))),
    (some 4, none, .raw (.assign (.const (.bool false))))]) (
  .seq (.seq (.ops [(some 7, none, .fld 0 (.tmp 3)),
    (some 8, none, .ld (.tmp 7)),
    (some 9, none, .raw (.binOp .eql 3 (.tmp 8) (.const (.int .i64 (-1))) 3))]) (
  .cond (.tmp 9) (
    .seq (.ops [(some 10, none, .fld 1 (.tmp 3)),
      (some 11, none, .ld (.tmp 10)),
      (some 12, none, .len (.tmp 11)),
      (some 13, none, .raw (.binOp .eql 3 (.tmp 12) (.const (.int .i64 0)) 3)),
      (some 4, none, .raw (.assign (.tmp 13)))]) (
    .ret)) (
    .skip))) (
  .seq (.seq (.sops 21 [(some 14, none, .fld 0 (.tmp 3)),
    (some 15, none, .ld (.tmp 14)),
    (some 16, none, .raw (.binOp .lss 3 (.tmp 15) (.const (.int .i64 0)) 3)),
    (some 17, none, .raw (.move (.tmp 16))),
    (some 18, some (17, false), .fld 0 (.tmp 3)),
    (some 19, some (17, false), .ld (.tmp 18)),
    (some 20, some (17, false), .raw (.move (.tmp 0))),
    (some 21, some (17, false), .len (.tmp 20)),
    (some 22, some (17, false), .raw (.binOp .geq 3 (.tmp 19) (.tmp 21) 3)),
    (some 23, none, .raw (.pick (.tmp 17) (.const (.bool true)) (.tmp 22))),
    (some 24, none, .raw (.move (.tmp 23))),
    (some 25, some (24, false), .fld 1 (.tmp 3)),
    (some 26, some (24, false), .ld (.tmp 25)),
    (some 27, some (24, false), .len (.tmp 26)),
    (some 28, some (24, false), .raw (.move (.tmp 0))),
    (some 29, some (24, false), .fld 0 (.tmp 3)),
    (some 30, some (24, false), .ld (.tmp 29)),
    (some 31, some (24, false), .ix 1 (.tmp 28) (.tmp 30)),
    (some 32, some (24, false), .ld (.tmp 31)),
    (some 33, some (24, false), .raw (.binOp .neq 3 (.tmp 27) (.tmp 32) 3)),
    (some 34, none, .raw (.pick (.tmp 24) (.const (.bool true)) (.tmp 33)))]) (
  .cond (.tmp 34) (
    .seq (.ops [(some 4, none, .raw (.assign (.const (.bool false))))]) (
    .ret)) (
    .skip))) (
  .seq (.seq (.ops [(some 35, none, .fld 1 (.tmp 3)),
    (some 36, none, .ld (.tmp 35)),
    (some 37, none, .len (.tmp 36)),
    (some 38, none, .raw (.move (.const (.int .i64 0))))]) (
  .block 0 (
    .loop (
      .seq (.ops [(some 39, none, .raw (.binOp .lss 3 (.tmp 38) (.tmp 37) 3))]) (
      .seq (.cond (.tmp 39) (
        .skip) (
        .exit 0)) (
      .seq (.block 1 (
        .seq (.ops [(some 40, none, .ix 2 (.tmp 36) (.tmp 38)),
          (some 41, none, .lda 2 (.tmp 40)),
          (some 6, none, .alloc 37 [.int .i64 0, .slice none 0 0]),
          (none, none, .st 2 (.tmp 6) (.tmp 41))]) (
        .seq (.ops [(some 42, none, .raw (.move (.tmp 0))),
          (some 43, none, .lda 2 (.tmp 6)),
          (some 44, none, .call 140 [(.tmp 42), (.tmp 43)]),
          (some 45, none, .raw (.unOp .not 4 (.tmp 44)))]) (
        .cond (.tmp 45) (
          .seq (.ops [(some 4, none, .raw (.assign (.const (.bool false))))]) (
          .ret)) (
          .skip))))) (
      .ops [(some 46, none, .raw (.binOp .add 3 (.tmp 38) (.const (.int .i64 1)) 3)),
        (some 38, none, .raw (.move (.tmp 46)))]))))))) (
  .seq (.ops [(some 4, none, .raw (.assign (.const (.bool true))))]) (
  .ret)))))
theorem fc140 : facts 140 = some (c140, [.tmp 4], 47) := by kernel_rfl

/-- tree.measure -/
def c235 : C2 :=
  .seq (.ops [(some 2, none, .raw (.box 37 (.tmp 0))),
    (some 4, none, .raw (.assign (.const (.int .i64 0))))]) (
  .seq (.ops [(some 8, none, .raw (.move (.tmp 1))),
    (some 9, none, .raw (.nilCheck (.tmp 8))),
    (some 10, none, .ld (.tmp 9)),
    (some 11, none, .raw (.binOp .sub 3 (.tmp 10) (.const (.int .i64 1)) 3)),
    (some 12, none, .raw (.nilCheck (.tmp 8))),
    (none, none, .st 1 (.tmp 12) (.tmp 11))]) (
  .seq (.ops [(some 5, none, .raw (.assign (.const (.int .i64 0))))]) (
  .seq (.seq (.ops [(some 13, none, .fld 1 (.tmp 2)),
    (some 14, none, .ld (.tmp 13)),
    (some 15, none, .len (.tmp 14)),
    (some 16, none, .raw (.move (.const (.int .i64 0))))]) (
  .block 0 (
    .loop (
      .seq (.ops [(some 17, none, .raw (.binOp .lss 3 (.tmp 16) (.tmp 15) 3))]) (
      .seq (.cond (.tmp 17) (
        .skip) (
        .exit 0)) (
      .seq (.block 1 (
        .seq (.ops [(some 18, none, .ix 2 (.tmp 14) (.tmp 16)),
          (some 19, none, .lda 2 (.tmp 18)),
          (some 7, none, .alloc 37 [.int .i64 0, .slice none 0 0]),
          (none, none, .st 2 (.tmp 7) (.tmp 19))]) (
        .seq (.seq (.ops [(some 20, none, .raw (.move (.tmp 1))),
          (some 21, none, .raw (.nilCheck (.tmp 20))),
          (some 22, none, .ld (.tmp 21)),
          (some 23, none, .raw (.binOp .lss 3 (.tmp 22) (.const (.int .i64 0)) 3))]) (
        .cond (.tmp 23) (
          .seq (.ops [(some 4, none, .raw (.assign (.const (.int .i64 0))))]) (
          .ret)) (
          .skip))) (
        .ops [(some 24, none, .raw (.move (.tmp 5))),
          (some 25, none, .lda 2 (.tmp 7)),
          (some 26, none, .raw (.move (.tmp 1))),
          (some 27, none, .call 235 [(.tmp 25), (.tmp 26)]),
          (some 28, none, .raw (.call ⟨.builtin .max, #[(.tmp 24), (.tmp 27)], #[3, 3]⟩)),
          (some 5, none, .raw (.assign (.tmp 28)))])))) (
      .ops [(some 29, none, .raw (.binOp .add 3 (.tmp 16) (.const (.int .i64 1)) 3)),
        (some 16, none, .raw (.move (.tmp 29)))]))))))) (
  .seq (.ops [(some 30, none, .raw (.move (.tmp 5))),
    (some 31, none, .raw (.binOp .add 3 (.tmp 30) (.const (.int .i64 1)) 3)),
    (some 4, none, .raw (.assign (.tmp 31)))]) (
  .ret)))))
theorem fc235 : facts 235 = some (c235, [.tmp 4], 32) := by kernel_rfl

/-- tree.Size -/
def c199 : C2 :=
  .seq (.ops [(some 1, none, .raw (.box 37 (.tmp 0))),
    (some 2, none, .raw (.assign (.const (.int .i64 0)))),
    (some 3, none, .raw (.assign (.const (.int .i64 0))))]) (
  .seq (.ops [(some 4, none, .alloc 3 [.int .i64 0]),
    (none, none, .st 1 (.tmp 4) (.const (.int .i64 20000)))]) (
  .seq (.ops [(some 5, none, .lda 2 (.tmp 1)),
    (some 6, none, .call 235 [(.tmp 5), (.tmp 4)]),
    (some 3, none, .raw (.assign (.tmp 6)))]) (
  .seq (.seq (.ops [(some 7, none, .ld (.tmp 4)),
    (some 8, none, .raw (.binOp .lss 3 (.tmp 7) (.const (.int .i64 0)) 3))]) (
  .cond (.tmp 8) (
    .seq (.ops [(some 2, none, .raw (.assign (.const (.int .i64 20001)))),
      (some 3, none, .raw (.assign (.const (.int .i64 0))))]) (
    .ret)) (
    .skip))) (
  .seq (.ops [(some 9, none, .ld (.tmp 4)),
    (some 10, none, .raw (.binOp .sub 3 (.const (.int .i64 20000)) (.tmp 9) 3)),
    (some 11, none, .raw (.move (.tmp 3))),
    (some 2, none, .raw (.assign (.tmp 10))),
    (some 3, none, .raw (.assign (.tmp 11)))]) (
  .ret)))))
theorem fc199 : facts 199 = some (c199, [.tmp 2, .tmp 3], 12) := by kernel_rfl

/-- tree.fits -/
def c139 : C2 :=
  .seq (.ops [(some 1, none, .raw (.box 37 (.tmp 0))),
    (some 2, none, .raw (.assign (.const (.bool false))))]) (
  .seq (.ops [(some 6, none, .lda 2 (.tmp 1)),
    (some 7, none, .call 199 [(.tmp 6)]),
    (some 5, none, .raw (.move (.tmp 7))),
    (some 8, none, .raw (.extract (.tmp 5) 0)),
    (some 9, none, .raw (.extract (.tmp 5) 1)),
    (some 3, none, .raw (.assign (.tmp 8))),
    (some 4, none, .raw (.assign (.tmp 9)))]) (
  .seq (.ops [(some 10, none, .raw (.move (.tmp 3))),
    (some 11, none, .raw (.binOp .leq 3 (.tmp 10) (.const (.int .i64 20000)) 3)),
    (some 12, none, .raw (.move (.tmp 11))),
    (some 13, some (12, true), .raw (.move (.tmp 4))),
    (some 14, some (12, true), .raw (.binOp .leq 3 (.tmp 13) (.const (.int .i64 200)) 3)),
    (some 15, none, .raw (.pick (.tmp 12) (.tmp 14) (.const (.bool false)))),
    (some 2, none, .raw (.assign (.tmp 15)))]) (
  .ret)))
theorem fc139 : facts 139 = some (c139, [.tmp 2], 16) := by kernel_rfl

/-- tree.Check -/
def c76 : C2 :=
  .seq (.ops [(some 3, none, .raw (.box 37 (.tmp 1))),
    (some 4, none, .raw (.assign (.const (.int .i64 0))))]) (
  .seq (.block 0 (
    .seq (.ops [(some 6, none, .raw (.move (.tmp 0))),
      (some 7, none, .call 132 [(.tmp 6)]),
      (some 8, none, .raw (.unOp .not 4 (.tmp 7))),
      (some 5, none, .raw (.assign (.tmp 8)))]) (
    .cond (.tmp 5) (
      .seq (.ops [(some 4, none, .raw (.assign (.const (.int .i64 2))))]) (
      .ret)) (
      .seq (.ops [(some 10, none, .lda 2 (.tmp 3)),
        (some 11, none, .call 139 [(.tmp 10)]),
        (some 12, none, .raw (.unOp .not 4 (.tmp 11))),
        (some 13, none, .raw (.move (.tmp 12))),
        (some 14, some (13, false), .raw (.move (.tmp 0))),
        (some 15, some (13, false), .lda 2 (.tmp 3)),
        (some 16, some (13, false), .call 140 [(.tmp 14), (.tmp 15)]),
        (some 17, some (13, false), .raw (.unOp .not 4 (.tmp 16))),
        (some 18, none, .raw (.pick (.tmp 13) (.const (.bool true)) (.tmp 17))),
        (some 9, none, .raw (.assign (.tmp 18)))]) (
      .cond (.tmp 9) (
        .seq (.ops [(some 4, none, .raw (.assign (.const (.int .i64 9))))]) (
        .ret)) (
        .skip)))))) (
  .seq (.ops [(some 4, none, .raw (.assign (.const (.int .i64 0))))]) (
  .ret)))
theorem fc76 : facts 76 = some (c76, [.tmp 4], 19) := by kernel_rfl

theorem over140 : ∀ (n : Nat) (t : T) (H : Heap) (cs : List Value) (v : Value) (rs : List Int), t.size ≤ n → IsT H.get cs t → IsInts H.get v rs →
    SC Tryz.prog 140 #[v, .agg cs.toArray] H (fun v H' => v = .bool (t.over rs) ∧ Fr H H') := by
  intro n
  induction n with
  | zero => intro t H cs v rs hn; have := size_pos t; omega
  | succ n ih =>
    intro t H cs v rs hn ht hv
    obtain ⟨s, ks⟩ := t
    refine SC_of_W fc140 (by simp) fun hwf => ?_
    have hv0 := hv
    obtain ⟨pr, cr, rfl, hrlen, hrat⟩ := hv
    obtain ⟨kv, rfl, hk⟩ := ht.inv
    obtain ⟨p, c, rfl, hlen, hat⟩ := hk
    have kn := Kn.self hwf
    rw [size_mk] at hn
    unfold c140
    simp only [W_skip, W_ops, W_sops, W_seq, W_block, W_exit, W_ret, W_cond, U_seq, U_seq_exit, U_seq_ret, U_blk, U_blk_ret, U_blk_exit, again_exit', again_ret', again_normal', U_ret1, S_nil, S_gd, S_ld, S_lda, S_fld, S_len, S_ix, S_call, S_callv, S_func, S_move, S_assign, S_pick, S_bin, S_not, gdo_tt, gdo_ff, gdo_tf, gdo_ft, br_true, br_false, fin_val, ldV_ptr, ldaV_ptr, fldV_ptr, lenV_slice, not_bool, pick_true, pick_false, b_lss, b_leq, b_gtr, b_geq, b_eql, b_neq, b_add, b_sub, lift1_some, ev_tmp, ev_const, eput_app, eput_none, List.map_cons, List.map_nil, Nat.reduceEqDiff, Nat.succ_ne_self, Nat.reduceBEq, ↓reduceIte, reduceIte, decide_true, decide_false, Bool.not_true, Bool.not_false, if_true_left, Nat.one_ne_zero, Nat.zero_ne_one, not_true_eq_false, not_false_eq_true, S_nilc, nilc_ptr, S_ext, ext0, ext1]
    refine S_box fun HB fB nB gB => ?_
    simp only [W_skip, W_ops, W_sops, W_seq, W_block, W_exit, W_ret, W_cond, U_seq, U_seq_exit, U_seq_ret, U_blk, U_blk_ret, U_blk_exit, again_exit', again_ret', again_normal', U_ret1, S_nil, S_gd, S_ld, S_lda, S_fld, S_len, S_ix, S_call, S_callv, S_func, S_move, S_assign, S_pick, S_bin, S_not, gdo_tt, gdo_ff, gdo_tf, gdo_ft, br_true, br_false, fin_val, ldV_ptr, ldaV_ptr, fldV_ptr, lenV_slice, not_bool, pick_true, pick_false, b_lss, b_leq, b_gtr, b_geq, b_eql, b_neq, b_add, b_sub, lift1_some, ev_tmp, ev_const, eput_app, eput_none, List.map_cons, List.map_nil, Nat.reduceEqDiff, Nat.succ_ne_self, Nat.reduceBEq, ↓reduceIte, reduceIte, decide_true, decide_false, Bool.not_true, Bool.not_false, if_true_left, Nat.one_ne_zero, Nat.zero_ne_one, not_true_eq_false, not_false_eq_true, S_nilc, nilc_ptr, S_ext, ext0, ext1, f2_0, f2_1, box_agg] at gB ⊢
    have p0 := own_cell (H := HB) 0 gB rfl rfl
    have p1 := own_cell (H := HB) 1 gB rfl rfl
    have q0 := own_cell (H := HB.reserve 21) 0 gB rfl rfl
    have q1 := own_cell (H := HB.reserve 21) 1 gB rfl rfl
    have frR : Fr H (HB.reserve 21) := fB.reserve 21
    have knR := kn.fr frR
    -- the loop over the kids
    have loop : ∀ (g : Fm), g 0 = .slice pr rs.length cr → g 3 = .pointer (some ⟨H.nxt, 0, none⟩) → RootP rs s ks.length → W TY Tryz.prog .skip [.seq (.seq (.seq (.ops [(some 35, none, .fld 1 (.tmp 3)),
        (some 36, none, .ld (.tmp 35)),
        (some 37, none, .len (.tmp 36)),
        (some 38, none, .raw (.move (.const (.int .i64 0))))]) (
        .block 0 (
          .loop (
            .seq (.ops [(some 39, none, .raw (.binOp .lss 3 (.tmp 38) (.tmp 37) 3))]) (
            .seq (.cond (.tmp 39) (
              .skip) (
              .exit 0)) (
            .seq (.block 1 (
              .seq (.ops [(some 40, none, .ix 2 (.tmp 36) (.tmp 38)),
                (some 41, none, .lda 2 (.tmp 40)),
                (some 6, none, .alloc 37 [.int .i64 0, .slice none 0 0]),
                (none, none, .st 2 (.tmp 6) (.tmp 41))]) (
              .seq (.ops [(some 42, none, .raw (.move (.tmp 0))),
                (some 43, none, .lda 2 (.tmp 6)),
                (some 44, none, .call 140 [(.tmp 42), (.tmp 43)]),
                (some 45, none, .raw (.unOp .not 4 (.tmp 44)))]) (
              .cond (.tmp 45) (
                .seq (.ops [(some 4, none, .raw (.assign (.const (.bool false))))]) (
                .ret)) (
                .skip))))) (
            .ops [(some 46, none, .raw (.binOp .add 3 (.tmp 38) (.const (.int .i64 1)) 3)),
              (some 38, none, .raw (.move (.tmp 46)))]))))))) (
        .seq (.ops [(some 4, none, .raw (.assign (.const (.bool true))))]) (
        .ret)))] (REnd TY [.tmp 4] fun v H' => v = .bool ((T.mk s ks).over rs) ∧ Fr H H') g (HB.reserve 21) := by
      intro g h0 h3 root
      simp only [W_skip, W_ops, W_sops, W_seq, W_block, W_exit, W_ret, W_cond, U_seq, U_seq_exit, U_seq_ret, U_blk, U_blk_ret, U_blk_exit, again_exit', again_ret', again_normal', U_ret1, S_nil, S_gd, S_ld, S_lda, S_fld, S_len, S_ix, S_call, S_callv, S_func, S_move, S_assign, S_pick, S_bin, S_not, gdo_tt, gdo_ff, gdo_tf, gdo_ft, br_true, br_false, fin_val, ldV_ptr, ldaV_ptr, fldV_ptr, lenV_slice, not_bool, pick_true, pick_false, b_lss, b_leq, b_gtr, b_geq, b_eql, b_neq, b_add, b_sub, lift1_some, ev_tmp, ev_const, eput_app, eput_none, List.map_cons, List.map_nil, Nat.reduceEqDiff, Nat.succ_ne_self, Nat.reduceBEq, ↓reduceIte, reduceIte, decide_true, decide_false, Bool.not_true, Bool.not_false, if_true_left, Nat.one_ne_zero, Nat.zero_ne_one, not_true_eq_false, not_false_eq_true, S_nilc, nilc_ptr, S_ext, ext0, ext1, h3, q1, own_add]
      refine W_loop (fun k g H1 => ∃ i, k = ks.length - i ∧ i ≤ ks.length ∧ g 0 = .slice pr rs.length cr ∧ g 36 = .slice p ks.length c ∧ g 37 = .int .i64 ks.length ∧ g 38 = .int .i64 (i : Nat) ∧ Fr H H1 ∧ ∀ (j : Nat) (x : T), j < i → ks[j]? = some x → x.over rs = true) ?_ ks.length ⟨0, ?_⟩
      · rintro k g H1 ⟨i, rfl, hi, h0, h36, h37, h38, fr, ok⟩
        have kn1 := kn.fr fr
        simp only [W_skip, W_ops, W_sops, W_seq, W_block, W_exit, W_ret, W_cond, U_seq, U_seq_exit, U_seq_ret, U_blk, U_blk_ret, U_blk_exit, again_exit', again_ret', again_normal', U_ret1, S_nil, S_gd, S_ld, S_lda, S_fld, S_len, S_ix, S_call, S_callv, S_func, S_move, S_assign, S_pick, S_bin, S_not, gdo_tt, gdo_ff, gdo_tf, gdo_ft, br_true, br_false, fin_val, ldV_ptr, ldaV_ptr, fldV_ptr, lenV_slice, not_bool, pick_true, pick_false, b_lss, b_leq, b_gtr, b_geq, b_eql, b_neq, b_add, b_sub, lift1_some, ev_tmp, ev_const, eput_app, eput_none, List.map_cons, List.map_nil, Nat.reduceEqDiff, Nat.succ_ne_self, Nat.reduceBEq, ↓reduceIte, reduceIte, decide_true, decide_false, Bool.not_true, Bool.not_false, if_true_left, Nat.one_ne_zero, Nat.zero_ne_one, not_true_eq_false, not_false_eq_true, S_nilc, nilc_ptr, S_ext, ext0, ext1, h0, h36, h37, h38]
        refine br_of ?_ ?_ <;> intro hC
        · have hi' : i < ks.length := by simpa using hC
          obtain ⟨b, cs2, rfl, hs, hI⟩ := hat i ks[i] (by simp [hi'])
          have hsz := size_kid hi'
          generalize hx : ks[i] = x at hI
          obtain ⟨s2, ks2⟩ := x
          obtain ⟨kv2, rfl, hk2⟩ := hI.inv
          obtain ⟨p2, c2, rfl, hlen2, hat2⟩ := hk2
          have hc := kn1.see2 hs
          simp only [W_skip, W_ops, W_sops, W_seq, W_block, W_exit, W_ret, W_cond, U_seq, U_seq_exit, U_seq_ret, U_blk, U_blk_ret, U_blk_exit, again_exit', again_ret', again_normal', U_ret1, S_nil, S_gd, S_ld, S_lda, S_fld, S_len, S_ix, S_call, S_callv, S_func, S_move, S_assign, S_pick, S_bin, S_not, gdo_tt, gdo_ff, gdo_tf, gdo_ft, br_true, br_false, fin_val, ldV_ptr, ldaV_ptr, fldV_ptr, lenV_slice, not_bool, pick_true, pick_false, b_lss, b_leq, b_gtr, b_geq, b_eql, b_neq, b_add, b_sub, lift1_some, ev_tmp, ev_const, eput_app, eput_none, List.map_cons, List.map_nil, Nat.reduceEqDiff, Nat.succ_ne_self, Nat.reduceBEq, ↓reduceIte, reduceIte, decide_true, decide_false, Bool.not_true, Bool.not_false, if_true_left, Nat.one_ne_zero, Nat.zero_ne_one, not_true_eq_false, not_false_eq_true, S_nilc, nilc_ptr, S_ext, ext0, ext1, h0, h36, h37, h38, ixV_at hi', hc]
          refine S_alloc fun H2 f2 n2 g2 => ?_
          refine S_store (id := H1.nxt) (off := 0) (by simp only [W_skip, W_ops, W_sops, W_seq, W_block, W_exit, W_ret, W_cond, U_seq, U_seq_exit, U_seq_ret, U_blk, U_blk_ret, U_blk_exit, again_exit', again_ret', again_normal', U_ret1, S_nil, S_gd, S_ld, S_lda, S_fld, S_len, S_ix, S_call, S_callv, S_func, S_move, S_assign, S_pick, S_bin, S_not, gdo_tt, gdo_ff, gdo_tf, gdo_ft, br_true, br_false, fin_val, ldV_ptr, ldaV_ptr, fldV_ptr, lenV_slice, not_bool, pick_true, pick_false, b_lss, b_leq, b_gtr, b_geq, b_eql, b_neq, b_add, b_sub, lift1_some, ev_tmp, ev_const, eput_app, eput_none, List.map_cons, List.map_nil, Nat.reduceEqDiff, Nat.succ_ne_self, Nat.reduceBEq, ↓reduceIte, reduceIte, decide_true, decide_false, Bool.not_true, Bool.not_false, if_true_left, Nat.one_ne_zero, Nat.zero_ne_one, not_true_eq_false, not_false_eq_true, S_nilc, nilc_ptr, S_ext, ext0, ext1]) (by simp only [W_skip, W_ops, W_sops, W_seq, W_block, W_exit, W_ret, W_cond, U_seq, U_seq_exit, U_seq_ret, U_blk, U_blk_ret, U_blk_exit, again_exit', again_ret', again_normal', U_ret1, S_nil, S_gd, S_ld, S_lda, S_fld, S_len, S_ix, S_call, S_callv, S_func, S_move, S_assign, S_pick, S_bin, S_not, gdo_tt, gdo_ff, gdo_tf, gdo_ft, br_true, br_false, fin_val, ldV_ptr, ldaV_ptr, fldV_ptr, lenV_slice, not_bool, pick_true, pick_false, b_lss, b_leq, b_gtr, b_geq, b_eql, b_neq, b_add, b_sub, lift1_some, ev_tmp, ev_const, eput_app, eput_none, List.map_cons, List.map_nil, Nat.reduceEqDiff, Nat.succ_ne_self, Nat.reduceBEq, ↓reduceIte, reduceIte, decide_true, decide_false, Bool.not_true, Bool.not_false, if_true_left, Nat.one_ne_zero, Nat.zero_ne_one, not_true_eq_false, not_false_eq_true, S_nilc, nilc_ptr, S_ext, ext0, ext1]; rfl) (by omega) g2 (by simp) (by simp) (by simp only [W_skip, W_ops, W_sops, W_seq, W_block, W_exit, W_ret, W_cond, U_seq, U_seq_exit, U_seq_ret, U_blk, U_blk_ret, U_blk_exit, again_exit', again_ret', again_normal', U_ret1, S_nil, S_gd, S_ld, S_lda, S_fld, S_len, S_ix, S_call, S_callv, S_func, S_move, S_assign, S_pick, S_bin, S_not, gdo_tt, gdo_ff, gdo_tf, gdo_ft, br_true, br_false, fin_val, ldV_ptr, ldaV_ptr, fldV_ptr, lenV_slice, not_bool, pick_true, pick_false, b_lss, b_leq, b_gtr, b_geq, b_eql, b_neq, b_add, b_sub, lift1_some, ev_tmp, ev_const, eput_app, eput_none, List.map_cons, List.map_nil, Nat.reduceEqDiff, Nat.succ_ne_self, Nat.reduceBEq, ↓reduceIte, reduceIte, decide_true, decide_false, Bool.not_true, Bool.not_false, if_true_left, Nat.one_ne_zero, Nat.zero_ne_one, not_true_eq_false, not_false_eq_true, S_nilc, nilc_ptr, S_ext, ext0, ext1]; simp [Value.cells, Value.oneCell']) fun H3 n3 o3 g3 => ?_
          simp only [W_skip, W_ops, W_sops, W_seq, W_block, W_exit, W_ret, W_cond, U_seq, U_seq_exit, U_seq_ret, U_blk, U_blk_ret, U_blk_exit, again_exit', again_ret', again_normal', U_ret1, S_nil, S_gd, S_ld, S_lda, S_fld, S_len, S_ix, S_call, S_callv, S_func, S_move, S_assign, S_pick, S_bin, S_not, gdo_tt, gdo_ff, gdo_tf, gdo_ft, br_true, br_false, fin_val, ldV_ptr, ldaV_ptr, fldV_ptr, lenV_slice, not_bool, pick_true, pick_false, b_lss, b_leq, b_gtr, b_geq, b_eql, b_neq, b_add, b_sub, lift1_some, ev_tmp, ev_const, eput_app, eput_none, List.map_cons, List.map_nil, Nat.reduceEqDiff, Nat.succ_ne_self, Nat.reduceBEq, ↓reduceIte, reduceIte, decide_true, decide_false, Bool.not_true, Bool.not_false, if_true_left, Nat.one_ne_zero, Nat.zero_ne_one, not_true_eq_false, not_false_eq_true, S_nilc, nilc_ptr, S_ext, ext0, ext1, Value.cells, putL] at g3 ⊢
          have fr3 : Fr H H3 := (fr.trans f2).upd fr.nxt n3 o3
          have pp := own_cells2 g3 rfl rfl
          simp only [W_skip, W_ops, W_sops, W_seq, W_block, W_exit, W_ret, W_cond, U_seq, U_seq_exit, U_seq_ret, U_blk, U_blk_ret, U_blk_exit, again_exit', again_ret', again_normal', U_ret1, S_nil, S_gd, S_ld, S_lda, S_fld, S_len, S_ix, S_call, S_callv, S_func, S_move, S_assign, S_pick, S_bin, S_not, gdo_tt, gdo_ff, gdo_tf, gdo_ft, br_true, br_false, fin_val, ldV_ptr, ldaV_ptr, fldV_ptr, lenV_slice, not_bool, pick_true, pick_false, b_lss, b_leq, b_gtr, b_geq, b_eql, b_neq, b_add, b_sub, lift1_some, ev_tmp, ev_const, eput_app, eput_none, List.map_cons, List.map_nil, Nat.reduceEqDiff, Nat.succ_ne_self, Nat.reduceBEq, ↓reduceIte, reduceIte, decide_true, decide_false, Bool.not_true, Bool.not_false, if_true_left, Nat.one_ne_zero, Nat.zero_ne_one, not_true_eq_false, not_false_eq_true, S_nilc, nilc_ptr, S_ext, ext0, ext1, h0, pp]
          refine call_then (ih (.mk s2 ks2) H3 _ _ _ (by rw [← hx]; omega) (hI.mono (fr3.sub hwf)) (hv0.mono (fr3.sub hwf))) ?_
          rintro _ H4 ⟨rfl, f4⟩ wf4
          have fr4 := fr3.trans f4
          rw [cont_app]
          cases hov : (T.mk s2 ks2).over rs with
          | false =>
            simp only [W_skip, W_ops, W_sops, W_seq, W_block, W_exit, W_ret, W_cond, U_seq, U_seq_exit, U_seq_ret, U_blk, U_blk_ret, U_blk_exit, again_exit', again_ret', again_normal', U_ret1, S_nil, S_gd, S_ld, S_lda, S_fld, S_len, S_ix, S_call, S_callv, S_func, S_move, S_assign, S_pick, S_bin, S_not, gdo_tt, gdo_ff, gdo_tf, gdo_ft, br_true, br_false, fin_val, ldV_ptr, ldaV_ptr, fldV_ptr, lenV_slice, not_bool, pick_true, pick_false, b_lss, b_leq, b_gtr, b_geq, b_eql, b_neq, b_add, b_sub, lift1_some, ev_tmp, ev_const, eput_app, eput_none, List.map_cons, List.map_nil, Nat.reduceEqDiff, Nat.succ_ne_self, Nat.reduceBEq, ↓reduceIte, reduceIte, decide_true, decide_false, Bool.not_true, Bool.not_false, if_true_left, Nat.one_ne_zero, Nat.zero_ne_one, not_true_eq_false, not_false_eq_true, S_nilc, nilc_ptr, S_ext, ext0, ext1]
            exact ⟨not_bool_of fun h => (by rw [(over_iff.1 h).2 i (.mk s2 ks2) (by rw [List.getElem?_eq_getElem hi', hx])] at hov; cases hov), fr4⟩
          | true =>
            simp only [W_skip, W_ops, W_sops, W_seq, W_block, W_exit, W_ret, W_cond, U_seq, U_seq_exit, U_seq_ret, U_blk, U_blk_ret, U_blk_exit, again_exit', again_ret', again_normal', U_ret1, S_nil, S_gd, S_ld, S_lda, S_fld, S_len, S_ix, S_call, S_callv, S_func, S_move, S_assign, S_pick, S_bin, S_not, gdo_tt, gdo_ff, gdo_tf, gdo_ft, br_true, br_false, fin_val, ldV_ptr, ldaV_ptr, fldV_ptr, lenV_slice, not_bool, pick_true, pick_false, b_lss, b_leq, b_gtr, b_geq, b_eql, b_neq, b_add, b_sub, lift1_some, ev_tmp, ev_const, eput_app, eput_none, List.map_cons, List.map_nil, Nat.reduceEqDiff, Nat.succ_ne_self, Nat.reduceBEq, ↓reduceIte, reduceIte, decide_true, decide_false, Bool.not_true, Bool.not_false, if_true_left, Nat.one_ne_zero, Nat.zero_ne_one, not_true_eq_false, not_false_eq_true, S_nilc, nilc_ptr, S_ext, ext0, ext1, h0, h36, h37, h38]
            refine ⟨ks.length - (i + 1), by omega, i + 1, rfl, hi', trivial, trivial, trivial, by rw [wrap_succ (by omega)], fr4, fun j x hj hxj => ?_⟩
            by_cases e : j = i
            · subst e
              rw [List.getElem?_eq_getElem hi', hx] at hxj
              cases hxj; exact hov
            · exact ok j x (by omega) hxj
        · have hi' : i = ks.length := by simp at hC; omega
          subst hi'
          simp only [W_skip, W_ops, W_sops, W_seq, W_block, W_exit, W_ret, W_cond, U_seq, U_seq_exit, U_seq_ret, U_blk, U_blk_ret, U_blk_exit, again_exit', again_ret', again_normal', U_ret1, S_nil, S_gd, S_ld, S_lda, S_fld, S_len, S_ix, S_call, S_callv, S_func, S_move, S_assign, S_pick, S_bin, S_not, gdo_tt, gdo_ff, gdo_tf, gdo_ft, br_true, br_false, fin_val, ldV_ptr, ldaV_ptr, fldV_ptr, lenV_slice, not_bool, pick_true, pick_false, b_lss, b_leq, b_gtr, b_geq, b_eql, b_neq, b_add, b_sub, lift1_some, ev_tmp, ev_const, eput_app, eput_none, List.map_cons, List.map_nil, Nat.reduceEqDiff, Nat.succ_ne_self, Nat.reduceBEq, ↓reduceIte, reduceIte, decide_true, decide_false, Bool.not_true, Bool.not_false, if_true_left, Nat.one_ne_zero, Nat.zero_ne_one, not_true_eq_false, not_false_eq_true, S_nilc, nilc_ptr, S_ext, ext0, ext1]
          refine ⟨bool_of (over_iff.2 ⟨root, fun i x hx => ok i x (List.getElem?_eq_some_iff.1 hx).1 hx⟩), fr⟩
      · simp only [W_skip, W_ops, W_sops, W_seq, W_block, W_exit, W_ret, W_cond, U_seq, U_seq_exit, U_seq_ret, U_blk, U_blk_ret, U_blk_exit, again_exit', again_ret', again_normal', U_ret1, S_nil, S_gd, S_ld, S_lda, S_fld, S_len, S_ix, S_call, S_callv, S_func, S_move, S_assign, S_pick, S_bin, S_not, gdo_tt, gdo_ff, gdo_tf, gdo_ft, br_true, br_false, fin_val, ldV_ptr, ldaV_ptr, fldV_ptr, lenV_slice, not_bool, pick_true, pick_false, b_lss, b_leq, b_gtr, b_geq, b_eql, b_neq, b_add, b_sub, lift1_some, ev_tmp, ev_const, eput_app, eput_none, List.map_cons, List.map_nil, Nat.reduceEqDiff, Nat.succ_ne_self, Nat.reduceBEq, ↓reduceIte, reduceIte, decide_true, decide_false, Bool.not_true, Bool.not_false, if_true_left, Nat.one_ne_zero, Nat.zero_ne_one, not_true_eq_false, not_false_eq_true, S_nilc, nilc_ptr, S_ext, ext0, ext1, h0]
        simp [frR]
    simp only [W_skip, W_ops, W_sops, W_seq, W_block, W_exit, W_ret, W_cond, U_seq, U_seq_exit, U_seq_ret, U_blk, U_blk_ret, U_blk_exit, again_exit', again_ret', again_normal', U_ret1, S_nil, S_gd, S_ld, S_lda, S_fld, S_len, S_ix, S_call, S_callv, S_func, S_move, S_assign, S_pick, S_bin, S_not, gdo_tt, gdo_ff, gdo_tf, gdo_ft, br_true, br_false, fin_val, ldV_ptr, ldaV_ptr, fldV_ptr, lenV_slice, not_bool, pick_true, pick_false, b_lss, b_leq, b_gtr, b_geq, b_eql, b_neq, b_add, b_sub, lift1_some, ev_tmp, ev_const, eput_app, eput_none, List.map_cons, List.map_nil, Nat.reduceEqDiff, Nat.succ_ne_self, Nat.reduceBEq, ↓reduceIte, reduceIte, decide_true, decide_false, Bool.not_true, Bool.not_false, if_true_left, Nat.one_ne_zero, Nat.zero_ne_one, not_true_eq_false, not_false_eq_true, S_nilc, nilc_ptr, S_ext, ext0, ext1, p0, own_add]
    refine br_of ?_ ?_ <;> intro hC
    · simp only [W_skip, W_ops, W_sops, W_seq, W_block, W_exit, W_ret, W_cond, U_seq, U_seq_exit, U_seq_ret, U_blk, U_blk_ret, U_blk_exit, again_exit', again_ret', again_normal', U_ret1, S_nil, S_gd, S_ld, S_lda, S_fld, S_len, S_ix, S_call, S_callv, S_func, S_move, S_assign, S_pick, S_bin, S_not, gdo_tt, gdo_ff, gdo_tf, gdo_ft, br_true, br_false, fin_val, ldV_ptr, ldaV_ptr, fldV_ptr, lenV_slice, not_bool, pick_true, pick_false, b_lss, b_leq, b_gtr, b_geq, b_eql, b_neq, b_add, b_sub, lift1_some, ev_tmp, ev_const, eput_app, eput_none, List.map_cons, List.map_nil, Nat.reduceEqDiff, Nat.succ_ne_self, Nat.reduceBEq, ↓reduceIte, reduceIte, decide_true, decide_false, Bool.not_true, Bool.not_false, if_true_left, Nat.one_ne_zero, Nat.zero_ne_one, not_true_eq_false, not_false_eq_true, S_nilc, nilc_ptr, S_ext, ext0, ext1, p1, own_add]
      simp only [decide_eq_true_eq] at hC
      subst hC
      refine ⟨?_, fB⟩
      have : (T.mk (-1) ks).over rs = decide ((ks.length : Int) = 0) := by
        rw [Bool.eq_iff_iff, over_iff, decide_eq_true_eq]
        constructor
        · rintro ⟨⟨_, h⟩ | ⟨m, h, _⟩, _⟩ <;> omega
        · intro h
          refine ⟨.inl ⟨rfl, by omega⟩, fun i x hx => ?_⟩
          have := (List.getElem?_eq_some_iff.1 hx).1
          omega
      rw [this]
    simp only [W_skip, W_ops, W_sops, W_seq, W_block, W_exit, W_ret, W_cond, U_seq, U_seq_exit, U_seq_ret, U_blk, U_blk_ret, U_blk_exit, again_exit', again_ret', again_normal', U_ret1, S_nil, S_gd, S_ld, S_lda, S_fld, S_len, S_ix, S_call, S_callv, S_func, S_move, S_assign, S_pick, S_bin, S_not, gdo_tt, gdo_ff, gdo_tf, gdo_ft, br_true, br_false, fin_val, ldV_ptr, ldaV_ptr, fldV_ptr, lenV_slice, not_bool, pick_true, pick_false, b_lss, b_leq, b_gtr, b_geq, b_eql, b_neq, b_add, b_sub, lift1_some, ev_tmp, ev_const, eput_app, eput_none, List.map_cons, List.map_nil, Nat.reduceEqDiff, Nat.succ_ne_self, Nat.reduceBEq, ↓reduceIte, reduceIte, decide_true, decide_false, Bool.not_true, Bool.not_false, if_true_left, Nat.one_ne_zero, Nat.zero_ne_one, not_true_eq_false, not_false_eq_true, S_nilc, nilc_ptr, S_ext, ext0, ext1, q0, own_add]
    simp only [decide_eq_false_iff_not] at hC
    refine gdo_of ?_ ?_ <;> intro hA
    · simp only [W_skip, W_ops, W_sops, W_seq, W_block, W_exit, W_ret, W_cond, U_seq, U_seq_exit, U_seq_ret, U_blk, U_blk_ret, U_blk_exit, again_exit', again_ret', again_normal', U_ret1, S_nil, S_gd, S_ld, S_lda, S_fld, S_len, S_ix, S_call, S_callv, S_func, S_move, S_assign, S_pick, S_bin, S_not, gdo_tt, gdo_ff, gdo_tf, gdo_ft, br_true, br_false, fin_val, ldV_ptr, ldaV_ptr, fldV_ptr, lenV_slice, not_bool, pick_true, pick_false, b_lss, b_leq, b_gtr, b_geq, b_eql, b_neq, b_add, b_sub, lift1_some, ev_tmp, ev_const, eput_app, eput_none, List.map_cons, List.map_nil, Nat.reduceEqDiff, Nat.succ_ne_self, Nat.reduceBEq, ↓reduceIte, reduceIte, decide_true, decide_false, Bool.not_true, Bool.not_false, if_true_left, Nat.one_ne_zero, Nat.zero_ne_one, not_true_eq_false, not_false_eq_true, S_nilc, nilc_ptr, S_ext, ext0, ext1, hA]
      simp only [decide_eq_true_eq] at hA
      refine ⟨not_bool_of fun h => ?_, frR⟩
      rcases (over_iff.1 h).1 with ⟨h1, h2⟩ | ⟨m, h1, h2⟩ <;> omega
    simp only [W_skip, W_ops, W_sops, W_seq, W_block, W_exit, W_ret, W_cond, U_seq, U_seq_exit, U_seq_ret, U_blk, U_blk_ret, U_blk_exit, again_exit', again_ret', again_normal', U_ret1, S_nil, S_gd, S_ld, S_lda, S_fld, S_len, S_ix, S_call, S_callv, S_func, S_move, S_assign, S_pick, S_bin, S_not, gdo_tt, gdo_ff, gdo_tf, gdo_ft, br_true, br_false, fin_val, ldV_ptr, ldaV_ptr, fldV_ptr, lenV_slice, not_bool, pick_true, pick_false, b_lss, b_leq, b_gtr, b_geq, b_eql, b_neq, b_add, b_sub, lift1_some, ev_tmp, ev_const, eput_app, eput_none, List.map_cons, List.map_nil, Nat.reduceEqDiff, Nat.succ_ne_self, Nat.reduceBEq, ↓reduceIte, reduceIte, decide_true, decide_false, Bool.not_true, Bool.not_false, if_true_left, Nat.one_ne_zero, Nat.zero_ne_one, not_true_eq_false, not_false_eq_true, S_nilc, nilc_ptr, S_ext, ext0, ext1, hA, q0, q1, own_add, f2_0]
    simp only [decide_eq_false_iff_not] at hA
    refine gdo_of ?_ ?_ <;> intro hB
    · simp only [W_skip, W_ops, W_sops, W_seq, W_block, W_exit, W_ret, W_cond, U_seq, U_seq_exit, U_seq_ret, U_blk, U_blk_ret, U_blk_exit, again_exit', again_ret', again_normal', U_ret1, S_nil, S_gd, S_ld, S_lda, S_fld, S_len, S_ix, S_call, S_callv, S_func, S_move, S_assign, S_pick, S_bin, S_not, gdo_tt, gdo_ff, gdo_tf, gdo_ft, br_true, br_false, fin_val, ldV_ptr, ldaV_ptr, fldV_ptr, lenV_slice, not_bool, pick_true, pick_false, b_lss, b_leq, b_gtr, b_geq, b_eql, b_neq, b_add, b_sub, lift1_some, ev_tmp, ev_const, eput_app, eput_none, List.map_cons, List.map_nil, Nat.reduceEqDiff, Nat.succ_ne_self, Nat.reduceBEq, ↓reduceIte, reduceIte, decide_true, decide_false, Bool.not_true, Bool.not_false, if_true_left, Nat.one_ne_zero, Nat.zero_ne_one, not_true_eq_false, not_false_eq_true, S_nilc, nilc_ptr, S_ext, ext0, ext1, hB]
      simp only [decide_eq_true_eq] at hB
      refine ⟨not_bool_of fun h => ?_, frR⟩
      rcases (over_iff.1 h).1 with ⟨h1, h2⟩ | ⟨m, h1, r, h2, h3⟩
      · omega
      · have := (List.getElem?_eq_some_iff.1 h2).1; omega
    simp only [decide_eq_false_iff_not] at hB
    obtain ⟨m, rfl⟩ : ∃ m : Nat, s = m := ⟨s.toNat, by omega⟩
    have hm : m < rs.length := by omega
    obtain ⟨b3, cs3, rfl, hs3, hI3⟩ := hrat m rs[m] (by simp [hm])
    cases hI3
    have hc3 := knR.see1 hs3
    have hB' : decide ((rs.length : Int) ≤ (m : Int)) = false := by simpa using hB
    simp only [W_skip, W_ops, W_sops, W_seq, W_block, W_exit, W_ret, W_cond, U_seq, U_seq_exit, U_seq_ret, U_blk, U_blk_ret, U_blk_exit, again_exit', again_ret', again_normal', U_ret1, S_nil, S_gd, S_ld, S_lda, S_fld, S_len, S_ix, S_call, S_callv, S_func, S_move, S_assign, S_pick, S_bin, S_not, gdo_tt, gdo_ff, gdo_tf, gdo_ft, br_true, br_false, fin_val, ldV_ptr, ldaV_ptr, fldV_ptr, lenV_slice, not_bool, pick_true, pick_false, b_lss, b_leq, b_gtr, b_geq, b_eql, b_neq, b_add, b_sub, lift1_some, ev_tmp, ev_const, eput_app, eput_none, List.map_cons, List.map_nil, Nat.reduceEqDiff, Nat.succ_ne_self, Nat.reduceBEq, ↓reduceIte, reduceIte, decide_true, decide_false, Bool.not_true, Bool.not_false, if_true_left, Nat.one_ne_zero, Nat.zero_ne_one, not_true_eq_false, not_false_eq_true, S_nilc, nilc_ptr, S_ext, ext0, ext1, hB', q0, q1, own_add, f2_0, ixV_at hm, hc3]
    refine br_of ?_ ?_ <;> intro hD
    · simp only [W_skip, W_ops, W_sops, W_seq, W_block, W_exit, W_ret, W_cond, U_seq, U_seq_exit, U_seq_ret, U_blk, U_blk_ret, U_blk_exit, again_exit', again_ret', again_normal', U_ret1, S_nil, S_gd, S_ld, S_lda, S_fld, S_len, S_ix, S_call, S_callv, S_func, S_move, S_assign, S_pick, S_bin, S_not, gdo_tt, gdo_ff, gdo_tf, gdo_ft, br_true, br_false, fin_val, ldV_ptr, ldaV_ptr, fldV_ptr, lenV_slice, not_bool, pick_true, pick_false, b_lss, b_leq, b_gtr, b_geq, b_eql, b_neq, b_add, b_sub, lift1_some, ev_tmp, ev_const, eput_app, eput_none, List.map_cons, List.map_nil, Nat.reduceEqDiff, Nat.succ_ne_self, Nat.reduceBEq, ↓reduceIte, reduceIte, decide_true, decide_false, Bool.not_true, Bool.not_false, if_true_left, Nat.one_ne_zero, Nat.zero_ne_one, not_true_eq_false, not_false_eq_true, S_nilc, nilc_ptr, S_ext, ext0, ext1]
      refine ⟨not_bool_of fun h => ?_, frR⟩
      simp at hD
      rcases (over_iff.1 h).1 with ⟨h1, h2⟩ | ⟨m', h1, r, h2, h3⟩
      · omega
      · have : m' = m := by omega
        subst this
        rw [List.getElem?_eq_getElem hm] at h2
        cases h2; omega
    · simp at hD
      refine loop _ ?_ ?_ (.inr ⟨m, rfl, rs[m], by simp [hm], hD⟩) <;> simp only [W_skip, W_ops, W_sops, W_seq, W_block, W_exit, W_ret, W_cond, U_seq, U_seq_exit, U_seq_ret, U_blk, U_blk_ret, U_blk_exit, again_exit', again_ret', again_normal', U_ret1, S_nil, S_gd, S_ld, S_lda, S_fld, S_len, S_ix, S_call, S_callv, S_func, S_move, S_assign, S_pick, S_bin, S_not, gdo_tt, gdo_ff, gdo_tf, gdo_ft, br_true, br_false, fin_val, ldV_ptr, ldaV_ptr, fldV_ptr, lenV_slice, not_bool, pick_true, pick_false, b_lss, b_leq, b_gtr, b_geq, b_eql, b_neq, b_add, b_sub, lift1_some, ev_tmp, ev_const, eput_app, eput_none, List.map_cons, List.map_nil, Nat.reduceEqDiff, Nat.succ_ne_self, Nat.reduceBEq, ↓reduceIte, reduceIte, decide_true, decide_false, Bool.not_true, Bool.not_false, if_true_left, Nat.one_ne_zero, Nat.zero_ne_one, not_true_eq_false, not_false_eq_true, S_nilc, nilc_ptr, S_ext, ext0, ext1, f2_0]

end Go.Proofs.YtcfjimhbachmlaaGreatDoor.E
