/- Contracts: the program's measure of a tree; its check. -/
import Derived.Test.YtcfjimhbachmlaaGreatDoorM6
set_option linter.unusedVariables false
set_option linter.unusedSimpArgs false

namespace Go.Proofs.YtcfjimhbachmlaaGreatDoor.E
open Go Go.Proofs
open Go.Proofs.YtcfjimhbachmlaaGreatDoor.L

theorem IsT.kn {G : Nat → Option Blk} {m : Nat} {H : Heap} {cs : List Value} {t : T} (h : IsT G cs t) (k : Kn G m H) : IsT H.get cs t := h.mono k.sub

/-- what was there is as it was, but for one block -/
structure Fq (q : Nat) (H H' : Heap) : Prop where
  nxt : H.nxt ≤ H'.nxt
  old : ∀ i, i < H.nxt → i ≠ q → H'.get i = H.get i

theorem Fq.trans {q : Nat} {H H' H'' : Heap} (h : Fq q H H') (g : Fq q H' H'') : Fq q H H'' := ⟨Nat.le_trans h.nxt g.nxt, fun i hi hq => by rw [g.old i (Nat.lt_of_lt_of_le hi h.nxt) hq, h.old i hi hq]⟩
theorem Fr.q {q : Nat} {H H' : Heap} (h : Fr H H') : Fq q H H' := ⟨h.nxt, fun i hi _ => h.old i hi⟩
theorem Kn.fq {G : Nat → Option Blk} {m q : Nat} {H H' : Heap} (h : Kn G m H) (hq : m ≤ q) (g : Fq q H H') : Kn G m H' :=
  ⟨Nat.le_trans h.le g.nxt, h.lt, fun i b hi => by rw [g.old i (Nat.lt_of_lt_of_le (h.lt i b hi) h.le) (by have := h.lt i b hi; omega)]; exact h.get i b hi⟩
theorem Fq.upd {q : Nat} {H H2 H3 : Heap} (h : Fq q H H2) (hn : H3.nxt = H2.nxt) (ho : ∀ j, j ≠ q → H3.get j = H2.get j) : Fq q H H3 :=
  ⟨by rw [hn]; exact h.nxt, fun j hj hq => by rw [ho j hq]; exact h.old j hj hq⟩
theorem Fq.upd2 {q i : Nat} {H H2 H3 : Heap} (h : Fq q H H2) (hi : H.nxt ≤ i) (hn : H3.nxt = H2.nxt) (ho : ∀ j, j ≠ i → H3.get j = H2.get j) : Fq q H H3 :=
  ⟨by rw [hn]; exact h.nxt, fun j hj hq => by rw [ho j (by omega)]; exact h.old j hj hq⟩

theorem measure235 : ∀ (n : Nat) (t : T) (G : Nat → Option Blk) (m : Nat) (H : Heap) (cs : List Value) (q : Nat) (left : Int) (f : Bool), t.size ≤ n → n < 4294967296 → IsT G cs t → Kn G m H → m ≤ q → q < H.nxt →
    H.get q = some (.cells [.int .i64 left] 3 true f) → 0 ≤ left → left < 4294967296 →
    SC Tryz.prog 235 #[.agg cs.toArray, .pointer (some ⟨q, 0, none⟩)] H (fun v H' => (∃ d, v = .int .i64 d ∧ ((t.size : Int) ≤ left → d = t.depth)) ∧ Fq q H H' ∧ ∃ f', H'.get q = some (.cells [.int .i64 (max (left - t.size) (-1))] 3 true f')) := by
  intro n
  induction n with
  | zero => intro t G m H cs q left f hn; have := size_pos t; omega
  | succ n ih =>
    intro t G m H cs q left f hn hn1 ht kn hmq hq hleft hl0 hl1
    have hdep := depth_le t
    obtain ⟨s, ks⟩ := t
    refine SC_of_W fc235 (by simp) fun hwf => ?_
    obtain ⟨kv, rfl, hk⟩ := ht.inv
    obtain ⟨p, c, rfl, hlen, hat⟩ := hk
    rw [size_mk] at hn hdep ⊢
    rw [depth_mk] at hdep ⊢
    unfold c235
    simp only [W_skip, W_ops, W_sops, W_seq, W_block, W_exit, W_ret, W_cond, U_seq, U_seq_exit, U_seq_ret, U_blk, U_blk_ret, U_blk_exit, again_exit', again_ret', again_normal', U_ret1, S_nil, S_gd, S_ld, S_lda, S_fld, S_len, S_ix, S_call, S_callv, S_func, S_move, S_assign, S_pick, S_bin, S_not, gdo_tt, gdo_ff, gdo_tf, gdo_ft, br_true, br_false, fin_val, ldV_ptr, ldaV_ptr, fldV_ptr, lenV_slice, not_bool, pick_true, pick_false, b_lss, b_leq, b_gtr, b_geq, b_eql, b_neq, b_add, b_sub, lift1_some, ev_tmp, ev_const, eput_app, eput_none, List.map_cons, List.map_nil, Nat.reduceEqDiff, Nat.succ_ne_self, Nat.reduceBEq, ↓reduceIte, reduceIte, decide_true, decide_false, Bool.not_true, Bool.not_false, if_true_left, Nat.one_ne_zero, Nat.zero_ne_one, not_true_eq_false, not_false_eq_true, S_nilc, nilc_ptr, S_ext, ext0, ext1]
    refine S_box fun HB fB nB gB => ?_
    simp only [W_skip, W_ops, W_sops, W_seq, W_block, W_exit, W_ret, W_cond, U_seq, U_seq_exit, U_seq_ret, U_blk, U_blk_ret, U_blk_exit, again_exit', again_ret', again_normal', U_ret1, S_nil, S_gd, S_ld, S_lda, S_fld, S_len, S_ix, S_call, S_callv, S_func, S_move, S_assign, S_pick, S_bin, S_not, gdo_tt, gdo_ff, gdo_tf, gdo_ft, br_true, br_false, fin_val, ldV_ptr, ldaV_ptr, fldV_ptr, lenV_slice, not_bool, pick_true, pick_false, b_lss, b_leq, b_gtr, b_geq, b_eql, b_neq, b_add, b_sub, lift1_some, ev_tmp, ev_const, eput_app, eput_none, List.map_cons, List.map_nil, Nat.reduceEqDiff, Nat.succ_ne_self, Nat.reduceBEq, ↓reduceIte, reduceIte, decide_true, decide_false, Bool.not_true, Bool.not_false, if_true_left, Nat.one_ne_zero, Nat.zero_ne_one, not_true_eq_false, not_false_eq_true, S_nilc, nilc_ptr, S_ext, ext0, ext1, f2_0, f2_1, box_agg] at gB ⊢
    have hleftB : HB.get q = _ := (fB.old q hq).trans hleft
    simp only [W_skip, W_ops, W_sops, W_seq, W_block, W_exit, W_ret, W_cond, U_seq, U_seq_exit, U_seq_ret, U_blk, U_blk_ret, U_blk_exit, again_exit', again_ret', again_normal', U_ret1, S_nil, S_gd, S_ld, S_lda, S_fld, S_len, S_ix, S_call, S_callv, S_func, S_move, S_assign, S_pick, S_bin, S_not, gdo_tt, gdo_ff, gdo_tf, gdo_ft, br_true, br_false, fin_val, ldV_ptr, ldaV_ptr, fldV_ptr, lenV_slice, not_bool, pick_true, pick_false, b_lss, b_leq, b_gtr, b_geq, b_eql, b_neq, b_add, b_sub, lift1_some, ev_tmp, ev_const, eput_app, eput_none, List.map_cons, List.map_nil, Nat.reduceEqDiff, Nat.succ_ne_self, Nat.reduceBEq, ↓reduceIte, reduceIte, decide_true, decide_false, Bool.not_true, Bool.not_false, if_true_left, Nat.one_ne_zero, Nat.zero_ne_one, not_true_eq_false, not_false_eq_true, S_nilc, nilc_ptr, S_ext, ext0, ext1, own_cell 0 hleftB rfl rfl]
    refine S_store (id := q) (off := 0) (by simp only [W_skip, W_ops, W_sops, W_seq, W_block, W_exit, W_ret, W_cond, U_seq, U_seq_exit, U_seq_ret, U_blk, U_blk_ret, U_blk_exit, again_exit', again_ret', again_normal', U_ret1, S_nil, S_gd, S_ld, S_lda, S_fld, S_len, S_ix, S_call, S_callv, S_func, S_move, S_assign, S_pick, S_bin, S_not, gdo_tt, gdo_ff, gdo_tf, gdo_ft, br_true, br_false, fin_val, ldV_ptr, ldaV_ptr, fldV_ptr, lenV_slice, not_bool, pick_true, pick_false, b_lss, b_leq, b_gtr, b_geq, b_eql, b_neq, b_add, b_sub, lift1_some, ev_tmp, ev_const, eput_app, eput_none, List.map_cons, List.map_nil, Nat.reduceEqDiff, Nat.succ_ne_self, Nat.reduceBEq, ↓reduceIte, reduceIte, decide_true, decide_false, Bool.not_true, Bool.not_false, if_true_left, Nat.one_ne_zero, Nat.zero_ne_one, not_true_eq_false, not_false_eq_true, S_nilc, nilc_ptr, S_ext, ext0, ext1]) (by simp only [W_skip, W_ops, W_sops, W_seq, W_block, W_exit, W_ret, W_cond, U_seq, U_seq_exit, U_seq_ret, U_blk, U_blk_ret, U_blk_exit, again_exit', again_ret', again_normal', U_ret1, S_nil, S_gd, S_ld, S_lda, S_fld, S_len, S_ix, S_call, S_callv, S_func, S_move, S_assign, S_pick, S_bin, S_not, gdo_tt, gdo_ff, gdo_tf, gdo_ft, br_true, br_false, fin_val, ldV_ptr, ldaV_ptr, fldV_ptr, lenV_slice, not_bool, pick_true, pick_false, b_lss, b_leq, b_gtr, b_geq, b_eql, b_neq, b_add, b_sub, lift1_some, ev_tmp, ev_const, eput_app, eput_none, List.map_cons, List.map_nil, Nat.reduceEqDiff, Nat.succ_ne_self, Nat.reduceBEq, ↓reduceIte, reduceIte, decide_true, decide_false, Bool.not_true, Bool.not_false, if_true_left, Nat.one_ne_zero, Nat.zero_ne_one, not_true_eq_false, not_false_eq_true, S_nilc, nilc_ptr, S_ext, ext0, ext1]; rfl) (by omega) hleftB (by simp) (by simp) (by simp only [W_skip, W_ops, W_sops, W_seq, W_block, W_exit, W_ret, W_cond, U_seq, U_seq_exit, U_seq_ret, U_blk, U_blk_ret, U_blk_exit, again_exit', again_ret', again_normal', U_ret1, S_nil, S_gd, S_ld, S_lda, S_fld, S_len, S_ix, S_call, S_callv, S_func, S_move, S_assign, S_pick, S_bin, S_not, gdo_tt, gdo_ff, gdo_tf, gdo_ft, br_true, br_false, fin_val, ldV_ptr, ldaV_ptr, fldV_ptr, lenV_slice, not_bool, pick_true, pick_false, b_lss, b_leq, b_gtr, b_geq, b_eql, b_neq, b_add, b_sub, lift1_some, ev_tmp, ev_const, eput_app, eput_none, List.map_cons, List.map_nil, Nat.reduceEqDiff, Nat.succ_ne_self, Nat.reduceBEq, ↓reduceIte, reduceIte, decide_true, decide_false, Bool.not_true, Bool.not_false, if_true_left, Nat.one_ne_zero, Nat.zero_ne_one, not_true_eq_false, not_false_eq_true, S_nilc, nilc_ptr, S_ext, ext0, ext1]; simp [Value.cells, Value.oneCell']) fun H1 n1 o1 g1 => ?_
    simp only [W_skip, W_ops, W_sops, W_seq, W_block, W_exit, W_ret, W_cond, U_seq, U_seq_exit, U_seq_ret, U_blk, U_blk_ret, U_blk_exit, again_exit', again_ret', again_normal', U_ret1, S_nil, S_gd, S_ld, S_lda, S_fld, S_len, S_ix, S_call, S_callv, S_func, S_move, S_assign, S_pick, S_bin, S_not, gdo_tt, gdo_ff, gdo_tf, gdo_ft, br_true, br_false, fin_val, ldV_ptr, ldaV_ptr, fldV_ptr, lenV_slice, not_bool, pick_true, pick_false, b_lss, b_leq, b_gtr, b_geq, b_eql, b_neq, b_add, b_sub, lift1_some, ev_tmp, ev_const, eput_app, eput_none, List.map_cons, List.map_nil, Nat.reduceEqDiff, Nat.succ_ne_self, Nat.reduceBEq, ↓reduceIte, reduceIte, decide_true, decide_false, Bool.not_true, Bool.not_false, if_true_left, Nat.one_ne_zero, Nat.zero_ne_one, not_true_eq_false, not_false_eq_true, S_nilc, nilc_ptr, S_ext, ext0, ext1, Value.cells, putL] at g1 ⊢
    rw [wrap64 (by omega) (by omega)] at g1 ⊢
    have fq1 : Fq q H H1 := (fB.q).upd n1 o1
    have gB1 : H1.get H.nxt = _ := (o1 H.nxt (by omega)).trans gB
    simp only [W_skip, W_ops, W_sops, W_seq, W_block, W_exit, W_ret, W_cond, U_seq, U_seq_exit, U_seq_ret, U_blk, U_blk_ret, U_blk_exit, again_exit', again_ret', again_normal', U_ret1, S_nil, S_gd, S_ld, S_lda, S_fld, S_len, S_ix, S_call, S_callv, S_func, S_move, S_assign, S_pick, S_bin, S_not, gdo_tt, gdo_ff, gdo_tf, gdo_ft, br_true, br_false, fin_val, ldV_ptr, ldaV_ptr, fldV_ptr, lenV_slice, not_bool, pick_true, pick_false, b_lss, b_leq, b_gtr, b_geq, b_eql, b_neq, b_add, b_sub, lift1_some, ev_tmp, ev_const, eput_app, eput_none, List.map_cons, List.map_nil, Nat.reduceEqDiff, Nat.succ_ne_self, Nat.reduceBEq, ↓reduceIte, reduceIte, decide_true, decide_false, Bool.not_true, Bool.not_false, if_true_left, Nat.one_ne_zero, Nat.zero_ne_one, not_true_eq_false, not_false_eq_true, S_nilc, nilc_ptr, S_ext, ext0, ext1, own_add, own_cell 1 gB1 rfl rfl]
    refine W_loop (fun k g H2 => ∃ i d f, k = ks.length - i ∧ i ≤ ks.length ∧ g 1 = .pointer (some ⟨q, 0, none⟩) ∧ g 5 = .int .i64 d ∧ (1 + (sizes (ks.take i) : Int) ≤ left → d = (depths (ks.take i) : Nat)) ∧ g 14 = .slice p ks.length c ∧ g 15 = .int .i64 ks.length ∧ g 16 = .int .i64 (i : Nat) ∧
      Fq q H H2 ∧ H2.get q = some (.cells [.int .i64 (max (left - 1 - sizes (ks.take i)) (-1))] 3 true f)) ?_ ks.length ⟨0, 0, false, ?_⟩
    · rintro k g H2 ⟨i, d, f2, rfl, hi, h1, h5, hd, h14, h15, h16, fq, gq⟩
      have kn1 := kn.fq hmq fq
      have hqn : q < H2.nxt := Nat.lt_of_lt_of_le hq fq.nxt
      simp only [W_skip, W_ops, W_sops, W_seq, W_block, W_exit, W_ret, W_cond, U_seq, U_seq_exit, U_seq_ret, U_blk, U_blk_ret, U_blk_exit, again_exit', again_ret', again_normal', U_ret1, S_nil, S_gd, S_ld, S_lda, S_fld, S_len, S_ix, S_call, S_callv, S_func, S_move, S_assign, S_pick, S_bin, S_not, gdo_tt, gdo_ff, gdo_tf, gdo_ft, br_true, br_false, fin_val, ldV_ptr, ldaV_ptr, fldV_ptr, lenV_slice, not_bool, pick_true, pick_false, b_lss, b_leq, b_gtr, b_geq, b_eql, b_neq, b_add, b_sub, lift1_some, ev_tmp, ev_const, eput_app, eput_none, List.map_cons, List.map_nil, Nat.reduceEqDiff, Nat.succ_ne_self, Nat.reduceBEq, ↓reduceIte, reduceIte, decide_true, decide_false, Bool.not_true, Bool.not_false, if_true_left, Nat.one_ne_zero, Nat.zero_ne_one, not_true_eq_false, not_false_eq_true, S_nilc, nilc_ptr, S_ext, ext0, ext1, h1, h5, h14, h15, h16]
      refine br_of ?_ ?_ <;> intro hA
      · have hi' : i < ks.length := by simpa using hA
        obtain ⟨b, cs2, rfl, hs, hI⟩ := hat i ks[i] (by simp [hi'])
        have hsz := size_kid hi'
        have hst := sizes_take hi'
        have hst2 := sizes_take_le ks (i + 1)
        generalize hx : ks[i] = x at hI
        rw [hx] at hsz hst
        obtain ⟨s2, ks2⟩ := x
        obtain ⟨kv2, rfl, hk2⟩ := hI.inv
        obtain ⟨p2, c2, rfl, hlen2, hat2⟩ := hk2
        have hc := kn1.see2 hs
        simp only [W_skip, W_ops, W_sops, W_seq, W_block, W_exit, W_ret, W_cond, U_seq, U_seq_exit, U_seq_ret, U_blk, U_blk_ret, U_blk_exit, again_exit', again_ret', again_normal', U_ret1, S_nil, S_gd, S_ld, S_lda, S_fld, S_len, S_ix, S_call, S_callv, S_func, S_move, S_assign, S_pick, S_bin, S_not, gdo_tt, gdo_ff, gdo_tf, gdo_ft, br_true, br_false, fin_val, ldV_ptr, ldaV_ptr, fldV_ptr, lenV_slice, not_bool, pick_true, pick_false, b_lss, b_leq, b_gtr, b_geq, b_eql, b_neq, b_add, b_sub, lift1_some, ev_tmp, ev_const, eput_app, eput_none, List.map_cons, List.map_nil, Nat.reduceEqDiff, Nat.succ_ne_self, Nat.reduceBEq, ↓reduceIte, reduceIte, decide_true, decide_false, Bool.not_true, Bool.not_false, if_true_left, Nat.one_ne_zero, Nat.zero_ne_one, not_true_eq_false, not_false_eq_true, S_nilc, nilc_ptr, S_ext, ext0, ext1, h1, h5, h14, h15, h16, ixV_at hi', hc]
        refine S_alloc fun H3 f3 n3 g3 => ?_
        refine S_store (id := H2.nxt) (off := 0) (by simp only [W_skip, W_ops, W_sops, W_seq, W_block, W_exit, W_ret, W_cond, U_seq, U_seq_exit, U_seq_ret, U_blk, U_blk_ret, U_blk_exit, again_exit', again_ret', again_normal', U_ret1, S_nil, S_gd, S_ld, S_lda, S_fld, S_len, S_ix, S_call, S_callv, S_func, S_move, S_assign, S_pick, S_bin, S_not, gdo_tt, gdo_ff, gdo_tf, gdo_ft, br_true, br_false, fin_val, ldV_ptr, ldaV_ptr, fldV_ptr, lenV_slice, not_bool, pick_true, pick_false, b_lss, b_leq, b_gtr, b_geq, b_eql, b_neq, b_add, b_sub, lift1_some, ev_tmp, ev_const, eput_app, eput_none, List.map_cons, List.map_nil, Nat.reduceEqDiff, Nat.succ_ne_self, Nat.reduceBEq, ↓reduceIte, reduceIte, decide_true, decide_false, Bool.not_true, Bool.not_false, if_true_left, Nat.one_ne_zero, Nat.zero_ne_one, not_true_eq_false, not_false_eq_true, S_nilc, nilc_ptr, S_ext, ext0, ext1]) (by simp only [W_skip, W_ops, W_sops, W_seq, W_block, W_exit, W_ret, W_cond, U_seq, U_seq_exit, U_seq_ret, U_blk, U_blk_ret, U_blk_exit, again_exit', again_ret', again_normal', U_ret1, S_nil, S_gd, S_ld, S_lda, S_fld, S_len, S_ix, S_call, S_callv, S_func, S_move, S_assign, S_pick, S_bin, S_not, gdo_tt, gdo_ff, gdo_tf, gdo_ft, br_true, br_false, fin_val, ldV_ptr, ldaV_ptr, fldV_ptr, lenV_slice, not_bool, pick_true, pick_false, b_lss, b_leq, b_gtr, b_geq, b_eql, b_neq, b_add, b_sub, lift1_some, ev_tmp, ev_const, eput_app, eput_none, List.map_cons, List.map_nil, Nat.reduceEqDiff, Nat.succ_ne_self, Nat.reduceBEq, ↓reduceIte, reduceIte, decide_true, decide_false, Bool.not_true, Bool.not_false, if_true_left, Nat.one_ne_zero, Nat.zero_ne_one, not_true_eq_false, not_false_eq_true, S_nilc, nilc_ptr, S_ext, ext0, ext1]; rfl) (by omega) g3 (by simp) (by simp) (by simp only [W_skip, W_ops, W_sops, W_seq, W_block, W_exit, W_ret, W_cond, U_seq, U_seq_exit, U_seq_ret, U_blk, U_blk_ret, U_blk_exit, again_exit', again_ret', again_normal', U_ret1, S_nil, S_gd, S_ld, S_lda, S_fld, S_len, S_ix, S_call, S_callv, S_func, S_move, S_assign, S_pick, S_bin, S_not, gdo_tt, gdo_ff, gdo_tf, gdo_ft, br_true, br_false, fin_val, ldV_ptr, ldaV_ptr, fldV_ptr, lenV_slice, not_bool, pick_true, pick_false, b_lss, b_leq, b_gtr, b_geq, b_eql, b_neq, b_add, b_sub, lift1_some, ev_tmp, ev_const, eput_app, eput_none, List.map_cons, List.map_nil, Nat.reduceEqDiff, Nat.succ_ne_self, Nat.reduceBEq, ↓reduceIte, reduceIte, decide_true, decide_false, Bool.not_true, Bool.not_false, if_true_left, Nat.one_ne_zero, Nat.zero_ne_one, not_true_eq_false, not_false_eq_true, S_nilc, nilc_ptr, S_ext, ext0, ext1]; simp [Value.cells, Value.oneCell']) fun H4 n4 o4 g4 => ?_
        simp only [W_skip, W_ops, W_sops, W_seq, W_block, W_exit, W_ret, W_cond, U_seq, U_seq_exit, U_seq_ret, U_blk, U_blk_ret, U_blk_exit, again_exit', again_ret', again_normal', U_ret1, S_nil, S_gd, S_ld, S_lda, S_fld, S_len, S_ix, S_call, S_callv, S_func, S_move, S_assign, S_pick, S_bin, S_not, gdo_tt, gdo_ff, gdo_tf, gdo_ft, br_true, br_false, fin_val, ldV_ptr, ldaV_ptr, fldV_ptr, lenV_slice, not_bool, pick_true, pick_false, b_lss, b_leq, b_gtr, b_geq, b_eql, b_neq, b_add, b_sub, lift1_some, ev_tmp, ev_const, eput_app, eput_none, List.map_cons, List.map_nil, Nat.reduceEqDiff, Nat.succ_ne_self, Nat.reduceBEq, ↓reduceIte, reduceIte, decide_true, decide_false, Bool.not_true, Bool.not_false, if_true_left, Nat.one_ne_zero, Nat.zero_ne_one, not_true_eq_false, not_false_eq_true, S_nilc, nilc_ptr, S_ext, ext0, ext1, Value.cells, putL] at g4 ⊢
        have fq4 : Fq q H H4 := (fq.trans f3.q).upd2 fq.nxt n4 o4
        have gq4 : H4.get q = _ := (o4 q (by omega)).trans ((f3.old q hqn).trans gq)
        have kn4 := kn.fq hmq fq4
        have pp := own_cells2 g4 rfl rfl
        simp only [W_skip, W_ops, W_sops, W_seq, W_block, W_exit, W_ret, W_cond, U_seq, U_seq_exit, U_seq_ret, U_blk, U_blk_ret, U_blk_exit, again_exit', again_ret', again_normal', U_ret1, S_nil, S_gd, S_ld, S_lda, S_fld, S_len, S_ix, S_call, S_callv, S_func, S_move, S_assign, S_pick, S_bin, S_not, gdo_tt, gdo_ff, gdo_tf, gdo_ft, br_true, br_false, fin_val, ldV_ptr, ldaV_ptr, fldV_ptr, lenV_slice, not_bool, pick_true, pick_false, b_lss, b_leq, b_gtr, b_geq, b_eql, b_neq, b_add, b_sub, lift1_some, ev_tmp, ev_const, eput_app, eput_none, List.map_cons, List.map_nil, Nat.reduceEqDiff, Nat.succ_ne_self, Nat.reduceBEq, ↓reduceIte, reduceIte, decide_true, decide_false, Bool.not_true, Bool.not_false, if_true_left, Nat.one_ne_zero, Nat.zero_ne_one, not_true_eq_false, not_false_eq_true, S_nilc, nilc_ptr, S_ext, ext0, ext1, h1, own_cell 0 gq4 rfl rfl]
        refine br_of ?_ ?_ <;> intro hB
        · simp only [W_skip, W_ops, W_sops, W_seq, W_block, W_exit, W_ret, W_cond, U_seq, U_seq_exit, U_seq_ret, U_blk, U_blk_ret, U_blk_exit, again_exit', again_ret', again_normal', U_ret1, S_nil, S_gd, S_ld, S_lda, S_fld, S_len, S_ix, S_call, S_callv, S_func, S_move, S_assign, S_pick, S_bin, S_not, gdo_tt, gdo_ff, gdo_tf, gdo_ft, br_true, br_false, fin_val, ldV_ptr, ldaV_ptr, fldV_ptr, lenV_slice, not_bool, pick_true, pick_false, b_lss, b_leq, b_gtr, b_geq, b_eql, b_neq, b_add, b_sub, lift1_some, ev_tmp, ev_const, eput_app, eput_none, List.map_cons, List.map_nil, Nat.reduceEqDiff, Nat.succ_ne_self, Nat.reduceBEq, ↓reduceIte, reduceIte, decide_true, decide_false, Bool.not_true, Bool.not_false, if_true_left, Nat.one_ne_zero, Nat.zero_ne_one, not_true_eq_false, not_false_eq_true, S_nilc, nilc_ptr, S_ext, ext0, ext1]
          simp only [decide_eq_true_eq] at hB
          refine ⟨⟨0, rfl, fun h => ?_⟩, fq4, f2, ?_⟩
          · omega
          · rw [gq4]; congr 4; omega
        · simp only [W_skip, W_ops, W_sops, W_seq, W_block, W_exit, W_ret, W_cond, U_seq, U_seq_exit, U_seq_ret, U_blk, U_blk_ret, U_blk_exit, again_exit', again_ret', again_normal', U_ret1, S_nil, S_gd, S_ld, S_lda, S_fld, S_len, S_ix, S_call, S_callv, S_func, S_move, S_assign, S_pick, S_bin, S_not, gdo_tt, gdo_ff, gdo_tf, gdo_ft, br_true, br_false, fin_val, ldV_ptr, ldaV_ptr, fldV_ptr, lenV_slice, not_bool, pick_true, pick_false, b_lss, b_leq, b_gtr, b_geq, b_eql, b_neq, b_add, b_sub, lift1_some, ev_tmp, ev_const, eput_app, eput_none, List.map_cons, List.map_nil, Nat.reduceEqDiff, Nat.succ_ne_self, Nat.reduceBEq, ↓reduceIte, reduceIte, decide_true, decide_false, Bool.not_true, Bool.not_false, if_true_left, Nat.one_ne_zero, Nat.zero_ne_one, not_true_eq_false, not_false_eq_true, S_nilc, nilc_ptr, S_ext, ext0, ext1, h1, h5, pp]
          simp only [decide_eq_false_iff_not] at hB
          have e1 : max (left - 1 - (sizes (ks.take i) : Int)) (-1) = left - 1 - sizes (ks.take i) := by omega
          rw [e1] at gq4
          refine call_then (ih (.mk s2 ks2) G m H4 _ q _ f2 (by omega) (by omega) hI kn4 hmq (Nat.lt_of_lt_of_le hq fq4.nxt) gq4 (by omega) (by omega)) ?_
          rintro _ H5 ⟨⟨d2, rfl, hd2⟩, fq5, f5, gq5⟩ wf5
          rw [cont_app]
          rw [S_max (k := .i64) (k2 := .i64) (a := d) (b := d2) (by simp only [W_skip, W_ops, W_sops, W_seq, W_block, W_exit, W_ret, W_cond, U_seq, U_seq_exit, U_seq_ret, U_blk, U_blk_ret, U_blk_exit, again_exit', again_ret', again_normal', U_ret1, S_nil, S_gd, S_ld, S_lda, S_fld, S_len, S_ix, S_call, S_callv, S_func, S_move, S_assign, S_pick, S_bin, S_not, gdo_tt, gdo_ff, gdo_tf, gdo_ft, br_true, br_false, fin_val, ldV_ptr, ldaV_ptr, fldV_ptr, lenV_slice, not_bool, pick_true, pick_false, b_lss, b_leq, b_gtr, b_geq, b_eql, b_neq, b_add, b_sub, lift1_some, ev_tmp, ev_const, eput_app, eput_none, List.map_cons, List.map_nil, Nat.reduceEqDiff, Nat.succ_ne_self, Nat.reduceBEq, ↓reduceIte, reduceIte, decide_true, decide_false, Bool.not_true, Bool.not_false, if_true_left, Nat.one_ne_zero, Nat.zero_ne_one, not_true_eq_false, not_false_eq_true, S_nilc, nilc_ptr, S_ext, ext0, ext1, h5]) (by simp only [W_skip, W_ops, W_sops, W_seq, W_block, W_exit, W_ret, W_cond, U_seq, U_seq_exit, U_seq_ret, U_blk, U_blk_ret, U_blk_exit, again_exit', again_ret', again_normal', U_ret1, S_nil, S_gd, S_ld, S_lda, S_fld, S_len, S_ix, S_call, S_callv, S_func, S_move, S_assign, S_pick, S_bin, S_not, gdo_tt, gdo_ff, gdo_tf, gdo_ft, br_true, br_false, fin_val, ldV_ptr, ldaV_ptr, fldV_ptr, lenV_slice, not_bool, pick_true, pick_false, b_lss, b_leq, b_gtr, b_geq, b_eql, b_neq, b_add, b_sub, lift1_some, ev_tmp, ev_const, eput_app, eput_none, List.map_cons, List.map_nil, Nat.reduceEqDiff, Nat.succ_ne_self, Nat.reduceBEq, ↓reduceIte, reduceIte, decide_true, decide_false, Bool.not_true, Bool.not_false, if_true_left, Nat.one_ne_zero, Nat.zero_ne_one, not_true_eq_false, not_false_eq_true, S_nilc, nilc_ptr, S_ext, ext0, ext1])]
          simp only [W_skip, W_ops, W_sops, W_seq, W_block, W_exit, W_ret, W_cond, U_seq, U_seq_exit, U_seq_ret, U_blk, U_blk_ret, U_blk_exit, again_exit', again_ret', again_normal', U_ret1, S_nil, S_gd, S_ld, S_lda, S_fld, S_len, S_ix, S_call, S_callv, S_func, S_move, S_assign, S_pick, S_bin, S_not, gdo_tt, gdo_ff, gdo_tf, gdo_ft, br_true, br_false, fin_val, ldV_ptr, ldaV_ptr, fldV_ptr, lenV_slice, not_bool, pick_true, pick_false, b_lss, b_leq, b_gtr, b_geq, b_eql, b_neq, b_add, b_sub, lift1_some, ev_tmp, ev_const, eput_app, eput_none, List.map_cons, List.map_nil, Nat.reduceEqDiff, Nat.succ_ne_self, Nat.reduceBEq, ↓reduceIte, reduceIte, decide_true, decide_false, Bool.not_true, Bool.not_false, if_true_left, Nat.one_ne_zero, Nat.zero_ne_one, not_true_eq_false, not_false_eq_true, S_nilc, nilc_ptr, S_ext, ext0, ext1, h1, h14, h15, h16]
          rw [wrap_succ (by omega)]
          refine ⟨ks.length - (i + 1), by omega, i + 1, (if d2 > d then d2 else d), f5, rfl, hi', trivial, rfl, fun h => ?_, trivial, trivial, rfl, fq4.trans fq5, ?_⟩
          · have h1 := hd (by omega)
            have h2 := hd2 (by omega)
            have h3 := depths_take hi'
            rw [hx] at h3
            split <;> omega
          · rw [gq5]; congr 4; omega
      · have hi' : i = ks.length := by simp at hA; omega
        subst hi'
        rw [List.take_length] at hd gq
        simp only [W_skip, W_ops, W_sops, W_seq, W_block, W_exit, W_ret, W_cond, U_seq, U_seq_exit, U_seq_ret, U_blk, U_blk_ret, U_blk_exit, again_exit', again_ret', again_normal', U_ret1, S_nil, S_gd, S_ld, S_lda, S_fld, S_len, S_ix, S_call, S_callv, S_func, S_move, S_assign, S_pick, S_bin, S_not, gdo_tt, gdo_ff, gdo_tf, gdo_ft, br_true, br_false, fin_val, ldV_ptr, ldaV_ptr, fldV_ptr, lenV_slice, not_bool, pick_true, pick_false, b_lss, b_leq, b_gtr, b_geq, b_eql, b_neq, b_add, b_sub, lift1_some, ev_tmp, ev_const, eput_app, eput_none, List.map_cons, List.map_nil, Nat.reduceEqDiff, Nat.succ_ne_self, Nat.reduceBEq, ↓reduceIte, reduceIte, decide_true, decide_false, Bool.not_true, Bool.not_false, if_true_left, Nat.one_ne_zero, Nat.zero_ne_one, not_true_eq_false, not_false_eq_true, S_nilc, nilc_ptr, S_ext, ext0, ext1, h5]
        refine ⟨⟨_, rfl, fun h => ?_⟩, fq, f2, ?_⟩
        · rw [hd (by omega), wrap64 (by omega) (by omega)]; omega
        · rw [gq]; congr 4; omega
    · simp only [W_skip, W_ops, W_sops, W_seq, W_block, W_exit, W_ret, W_cond, U_seq, U_seq_exit, U_seq_ret, U_blk, U_blk_ret, U_blk_exit, again_exit', again_ret', again_normal', U_ret1, S_nil, S_gd, S_ld, S_lda, S_fld, S_len, S_ix, S_call, S_callv, S_func, S_move, S_assign, S_pick, S_bin, S_not, gdo_tt, gdo_ff, gdo_tf, gdo_ft, br_true, br_false, fin_val, ldV_ptr, ldaV_ptr, fldV_ptr, lenV_slice, not_bool, pick_true, pick_false, b_lss, b_leq, b_gtr, b_geq, b_eql, b_neq, b_add, b_sub, lift1_some, ev_tmp, ev_const, eput_app, eput_none, List.map_cons, List.map_nil, Nat.reduceEqDiff, Nat.succ_ne_self, Nat.reduceBEq, ↓reduceIte, reduceIte, decide_true, decide_false, Bool.not_true, Bool.not_false, if_true_left, Nat.one_ne_zero, Nat.zero_ne_one, not_true_eq_false, not_false_eq_true, S_nilc, nilc_ptr, S_ext, ext0, ext1, f2_1]
      refine ⟨rfl, Nat.zero_le _, trivial, trivial, fun _ => rfl, trivial, trivial, rfl, fq1, ?_⟩
      rw [g1]
      congr 4
      simp [sizes]; omega

theorem size199 {H : Heap} {cs : List Value} {t : T} (ht : IsT H.get cs t) (hsz : t.size < 4294967296) :
    SC Tryz.prog 199 #[.agg cs.toArray] H (fun v H' => (∃ a b : Int, v = .tuple #[.int .i64 a, .int .i64 b] ∧ ((a ≤ 20000 ∧ b ≤ 200) ↔ (t.size ≤ 20000 ∧ t.depth ≤ 200))) ∧ Fr H H') := by
  refine SC_of_W fc199 (by simp) fun hwf => ?_
  have kn := Kn.self hwf
  have ht0 := ht
  obtain ⟨s, ks⟩ := t
  obtain ⟨kv, rfl, hk⟩ := ht.inv
  obtain ⟨p, c, rfl, hlen, hat⟩ := hk
  unfold c199
  simp only [W_skip, W_ops, W_sops, W_seq, W_block, W_exit, W_ret, W_cond, U_seq, U_seq_exit, U_seq_ret, U_blk, U_blk_ret, U_blk_exit, again_exit', again_ret', again_normal', U_ret1, S_nil, S_gd, S_ld, S_lda, S_fld, S_len, S_ix, S_call, S_callv, S_func, S_move, S_assign, S_pick, S_bin, S_not, gdo_tt, gdo_ff, gdo_tf, gdo_ft, br_true, br_false, fin_val, ldV_ptr, ldaV_ptr, fldV_ptr, lenV_slice, not_bool, pick_true, pick_false, b_lss, b_leq, b_gtr, b_geq, b_eql, b_neq, b_add, b_sub, lift1_some, ev_tmp, ev_const, eput_app, eput_none, List.map_cons, List.map_nil, Nat.reduceEqDiff, Nat.succ_ne_self, Nat.reduceBEq, ↓reduceIte, reduceIte, decide_true, decide_false, Bool.not_true, Bool.not_false, if_true_left, Nat.one_ne_zero, Nat.zero_ne_one, not_true_eq_false, not_false_eq_true, S_nilc, nilc_ptr, S_ext, ext0, ext1]
  refine S_box fun HB fB nB gB => ?_
  simp only [W_skip, W_ops, W_sops, W_seq, W_block, W_exit, W_ret, W_cond, U_seq, U_seq_exit, U_seq_ret, U_blk, U_blk_ret, U_blk_exit, again_exit', again_ret', again_normal', U_ret1, S_nil, S_gd, S_ld, S_lda, S_fld, S_len, S_ix, S_call, S_callv, S_func, S_move, S_assign, S_pick, S_bin, S_not, gdo_tt, gdo_ff, gdo_tf, gdo_ft, br_true, br_false, fin_val, ldV_ptr, ldaV_ptr, fldV_ptr, lenV_slice, not_bool, pick_true, pick_false, b_lss, b_leq, b_gtr, b_geq, b_eql, b_neq, b_add, b_sub, lift1_some, ev_tmp, ev_const, eput_app, eput_none, List.map_cons, List.map_nil, Nat.reduceEqDiff, Nat.succ_ne_self, Nat.reduceBEq, ↓reduceIte, reduceIte, decide_true, decide_false, Bool.not_true, Bool.not_false, if_true_left, Nat.one_ne_zero, Nat.zero_ne_one, not_true_eq_false, not_false_eq_true, S_nilc, nilc_ptr, S_ext, ext0, ext1, f1_0, box_agg] at gB ⊢
  refine S_alloc fun H1 f1 n1 g1 => ?_
  refine S_store (id := HB.nxt) (off := 0) (by simp only [W_skip, W_ops, W_sops, W_seq, W_block, W_exit, W_ret, W_cond, U_seq, U_seq_exit, U_seq_ret, U_blk, U_blk_ret, U_blk_exit, again_exit', again_ret', again_normal', U_ret1, S_nil, S_gd, S_ld, S_lda, S_fld, S_len, S_ix, S_call, S_callv, S_func, S_move, S_assign, S_pick, S_bin, S_not, gdo_tt, gdo_ff, gdo_tf, gdo_ft, br_true, br_false, fin_val, ldV_ptr, ldaV_ptr, fldV_ptr, lenV_slice, not_bool, pick_true, pick_false, b_lss, b_leq, b_gtr, b_geq, b_eql, b_neq, b_add, b_sub, lift1_some, ev_tmp, ev_const, eput_app, eput_none, List.map_cons, List.map_nil, Nat.reduceEqDiff, Nat.succ_ne_self, Nat.reduceBEq, ↓reduceIte, reduceIte, decide_true, decide_false, Bool.not_true, Bool.not_false, if_true_left, Nat.one_ne_zero, Nat.zero_ne_one, not_true_eq_false, not_false_eq_true, S_nilc, nilc_ptr, S_ext, ext0, ext1]) (by simp only [W_skip, W_ops, W_sops, W_seq, W_block, W_exit, W_ret, W_cond, U_seq, U_seq_exit, U_seq_ret, U_blk, U_blk_ret, U_blk_exit, again_exit', again_ret', again_normal', U_ret1, S_nil, S_gd, S_ld, S_lda, S_fld, S_len, S_ix, S_call, S_callv, S_func, S_move, S_assign, S_pick, S_bin, S_not, gdo_tt, gdo_ff, gdo_tf, gdo_ft, br_true, br_false, fin_val, ldV_ptr, ldaV_ptr, fldV_ptr, lenV_slice, not_bool, pick_true, pick_false, b_lss, b_leq, b_gtr, b_geq, b_eql, b_neq, b_add, b_sub, lift1_some, ev_tmp, ev_const, eput_app, eput_none, List.map_cons, List.map_nil, Nat.reduceEqDiff, Nat.succ_ne_self, Nat.reduceBEq, ↓reduceIte, reduceIte, decide_true, decide_false, Bool.not_true, Bool.not_false, if_true_left, Nat.one_ne_zero, Nat.zero_ne_one, not_true_eq_false, not_false_eq_true, S_nilc, nilc_ptr, S_ext, ext0, ext1]; rfl) (by omega) g1 (by simp) (by simp) (by simp only [W_skip, W_ops, W_sops, W_seq, W_block, W_exit, W_ret, W_cond, U_seq, U_seq_exit, U_seq_ret, U_blk, U_blk_ret, U_blk_exit, again_exit', again_ret', again_normal', U_ret1, S_nil, S_gd, S_ld, S_lda, S_fld, S_len, S_ix, S_call, S_callv, S_func, S_move, S_assign, S_pick, S_bin, S_not, gdo_tt, gdo_ff, gdo_tf, gdo_ft, br_true, br_false, fin_val, ldV_ptr, ldaV_ptr, fldV_ptr, lenV_slice, not_bool, pick_true, pick_false, b_lss, b_leq, b_gtr, b_geq, b_eql, b_neq, b_add, b_sub, lift1_some, ev_tmp, ev_const, eput_app, eput_none, List.map_cons, List.map_nil, Nat.reduceEqDiff, Nat.succ_ne_self, Nat.reduceBEq, ↓reduceIte, reduceIte, decide_true, decide_false, Bool.not_true, Bool.not_false, if_true_left, Nat.one_ne_zero, Nat.zero_ne_one, not_true_eq_false, not_false_eq_true, S_nilc, nilc_ptr, S_ext, ext0, ext1]; simp [Value.cells, Value.oneCell']) fun H2 n2 o2 g2 => ?_
  simp only [W_skip, W_ops, W_sops, W_seq, W_block, W_exit, W_ret, W_cond, U_seq, U_seq_exit, U_seq_ret, U_blk, U_blk_ret, U_blk_exit, again_exit', again_ret', again_normal', U_ret1, S_nil, S_gd, S_ld, S_lda, S_fld, S_len, S_ix, S_call, S_callv, S_func, S_move, S_assign, S_pick, S_bin, S_not, gdo_tt, gdo_ff, gdo_tf, gdo_ft, br_true, br_false, fin_val, ldV_ptr, ldaV_ptr, fldV_ptr, lenV_slice, not_bool, pick_true, pick_false, b_lss, b_leq, b_gtr, b_geq, b_eql, b_neq, b_add, b_sub, lift1_some, ev_tmp, ev_const, eput_app, eput_none, List.map_cons, List.map_nil, Nat.reduceEqDiff, Nat.succ_ne_self, Nat.reduceBEq, ↓reduceIte, reduceIte, decide_true, decide_false, Bool.not_true, Bool.not_false, if_true_left, Nat.one_ne_zero, Nat.zero_ne_one, not_true_eq_false, not_false_eq_true, S_nilc, nilc_ptr, S_ext, ext0, ext1, Value.cells, putL] at g2 ⊢
  have fr2 : Fr H H2 := (fB.trans f1).upd fB.nxt n2 o2
  have gB2 : H2.get H.nxt = _ := (o2 H.nxt (by omega)).trans ((f1.old _ (by omega)).trans gB)
  simp only [W_skip, W_ops, W_sops, W_seq, W_block, W_exit, W_ret, W_cond, U_seq, U_seq_exit, U_seq_ret, U_blk, U_blk_ret, U_blk_exit, again_exit', again_ret', again_normal', U_ret1, S_nil, S_gd, S_ld, S_lda, S_fld, S_len, S_ix, S_call, S_callv, S_func, S_move, S_assign, S_pick, S_bin, S_not, gdo_tt, gdo_ff, gdo_tf, gdo_ft, br_true, br_false, fin_val, ldV_ptr, ldaV_ptr, fldV_ptr, lenV_slice, not_bool, pick_true, pick_false, b_lss, b_leq, b_gtr, b_geq, b_eql, b_neq, b_add, b_sub, lift1_some, ev_tmp, ev_const, eput_app, eput_none, List.map_cons, List.map_nil, Nat.reduceEqDiff, Nat.succ_ne_self, Nat.reduceBEq, ↓reduceIte, reduceIte, decide_true, decide_false, Bool.not_true, Bool.not_false, if_true_left, Nat.one_ne_zero, Nat.zero_ne_one, not_true_eq_false, not_false_eq_true, S_nilc, nilc_ptr, S_ext, ext0, ext1, own_cells2 gB2 rfl rfl]
  have hm := measure235 (T.mk s ks).size (T.mk s ks) H.get H.nxt H2 _ HB.nxt 20000 false (Nat.le_refl _) hsz ht0 (kn.fr fr2) fB.nxt (by omega) g2 (by omega) (by omega)
  refine call_then hm ?_
  clear hm
  rintro v2 H3 ⟨⟨d, hv2, hd⟩, fq, f3, g3⟩ wf3
  subst hv2
  have fr3 : Fr H H3 := ⟨Nat.le_trans fr2.nxt fq.nxt, fun i hi => by rw [fq.old i (by have := fr2.nxt; omega) (by have := fB.nxt; omega)]; exact fr2.old i hi⟩
  rw [cont_app]
  simp only [W_skip, W_ops, W_sops, W_seq, W_block, W_exit, W_ret, W_cond, U_seq, U_seq_exit, U_seq_ret, U_blk, U_blk_ret, U_blk_exit, again_exit', again_ret', again_normal', U_ret1, S_nil, S_gd, S_ld, S_lda, S_fld, S_len, S_ix, S_call, S_callv, S_func, S_move, S_assign, S_pick, S_bin, S_not, gdo_tt, gdo_ff, gdo_tf, gdo_ft, br_true, br_false, fin_val, ldV_ptr, ldaV_ptr, fldV_ptr, lenV_slice, not_bool, pick_true, pick_false, b_lss, b_leq, b_gtr, b_geq, b_eql, b_neq, b_add, b_sub, lift1_some, ev_tmp, ev_const, eput_app, eput_none, List.map_cons, List.map_nil, Nat.reduceEqDiff, Nat.succ_ne_self, Nat.reduceBEq, ↓reduceIte, reduceIte, decide_true, decide_false, Bool.not_true, Bool.not_false, if_true_left, Nat.one_ne_zero, Nat.zero_ne_one, not_true_eq_false, not_false_eq_true, S_nilc, nilc_ptr, S_ext, ext0, ext1, own_cell 0 g3 rfl rfl]
  refine br_of ?_ ?_ <;> intro hA
  · simp only [decide_eq_true_eq] at hA
    simp only [W_skip, W_ops, W_sops, W_seq, W_block, W_exit, W_ret, W_cond, U_seq, U_seq_exit, U_seq_ret, U_blk, U_blk_ret, U_blk_exit, again_exit', again_ret', again_normal', U_ret1, S_nil, S_gd, S_ld, S_lda, S_fld, S_len, S_ix, S_call, S_callv, S_func, S_move, S_assign, S_pick, S_bin, S_not, gdo_tt, gdo_ff, gdo_tf, gdo_ft, br_true, br_false, fin_val, ldV_ptr, ldaV_ptr, fldV_ptr, lenV_slice, not_bool, pick_true, pick_false, b_lss, b_leq, b_gtr, b_geq, b_eql, b_neq, b_add, b_sub, lift1_some, ev_tmp, ev_const, eput_app, eput_none, List.map_cons, List.map_nil, Nat.reduceEqDiff, Nat.succ_ne_self, Nat.reduceBEq, ↓reduceIte, reduceIte, decide_true, decide_false, Bool.not_true, Bool.not_false, if_true_left, Nat.one_ne_zero, Nat.zero_ne_one, not_true_eq_false, not_false_eq_true, S_nilc, nilc_ptr, S_ext, ext0, ext1, U_ret2]
    exact ⟨⟨20001, 0, rfl, by constructor <;> rintro ⟨h1, h2⟩ <;> omega⟩, fr3⟩
  · simp only [decide_eq_false_iff_not] at hA
    have e1 : max (20000 - ((T.mk s ks).size : Int)) (-1) = 20000 - (T.mk s ks).size := by omega
    rw [e1] at g3
    have hd := hd (by omega)
    subst hd
    simp only [W_skip, W_ops, W_sops, W_seq, W_block, W_exit, W_ret, W_cond, U_seq, U_seq_exit, U_seq_ret, U_blk, U_blk_ret, U_blk_exit, again_exit', again_ret', again_normal', U_ret1, S_nil, S_gd, S_ld, S_lda, S_fld, S_len, S_ix, S_call, S_callv, S_func, S_move, S_assign, S_pick, S_bin, S_not, gdo_tt, gdo_ff, gdo_tf, gdo_ft, br_true, br_false, fin_val, ldV_ptr, ldaV_ptr, fldV_ptr, lenV_slice, not_bool, pick_true, pick_false, b_lss, b_leq, b_gtr, b_geq, b_eql, b_neq, b_add, b_sub, lift1_some, ev_tmp, ev_const, eput_app, eput_none, List.map_cons, List.map_nil, Nat.reduceEqDiff, Nat.succ_ne_self, Nat.reduceBEq, ↓reduceIte, reduceIte, decide_true, decide_false, Bool.not_true, Bool.not_false, if_true_left, Nat.one_ne_zero, Nat.zero_ne_one, not_true_eq_false, not_false_eq_true, S_nilc, nilc_ptr, S_ext, ext0, ext1, U_ret2, own_cell 0 g3 rfl rfl]
    rw [wrap64 (by omega) (by omega)]
    exact ⟨⟨_, _, rfl, by constructor <;> rintro ⟨h1, h2⟩ <;> omega⟩, fr3⟩

theorem fits139 {H : Heap} {cs : List Value} {t : T} (ht : IsT H.get cs t) (hsz : t.size < 4294967296) :
    SC Tryz.prog 139 #[.agg cs.toArray] H (fun v H' => v = .bool (decide (t.size ≤ 20000) && decide (t.depth ≤ 200)) ∧ Fr H H') := by
  refine SC_of_W fc139 (by simp) fun hwf => ?_
  have ht0 := ht
  obtain ⟨s, ks⟩ := t
  obtain ⟨kv, rfl, hk⟩ := ht.inv
  obtain ⟨p, c, rfl, hlen, hat⟩ := hk
  unfold c139
  simp only [W_skip, W_ops, W_sops, W_seq, W_block, W_exit, W_ret, W_cond, U_seq, U_seq_exit, U_seq_ret, U_blk, U_blk_ret, U_blk_exit, again_exit', again_ret', again_normal', U_ret1, S_nil, S_gd, S_ld, S_lda, S_fld, S_len, S_ix, S_call, S_callv, S_func, S_move, S_assign, S_pick, S_bin, S_not, gdo_tt, gdo_ff, gdo_tf, gdo_ft, br_true, br_false, fin_val, ldV_ptr, ldaV_ptr, fldV_ptr, lenV_slice, not_bool, pick_true, pick_false, b_lss, b_leq, b_gtr, b_geq, b_eql, b_neq, b_add, b_sub, lift1_some, ev_tmp, ev_const, eput_app, eput_none, List.map_cons, List.map_nil, Nat.reduceEqDiff, Nat.succ_ne_self, Nat.reduceBEq, ↓reduceIte, reduceIte, decide_true, decide_false, Bool.not_true, Bool.not_false, if_true_left, Nat.one_ne_zero, Nat.zero_ne_one, not_true_eq_false, not_false_eq_true, S_nilc, nilc_ptr, S_ext, ext0, ext1]
  refine S_box fun HB fB nB gB => ?_
  simp only [W_skip, W_ops, W_sops, W_seq, W_block, W_exit, W_ret, W_cond, U_seq, U_seq_exit, U_seq_ret, U_blk, U_blk_ret, U_blk_exit, again_exit', again_ret', again_normal', U_ret1, S_nil, S_gd, S_ld, S_lda, S_fld, S_len, S_ix, S_call, S_callv, S_func, S_move, S_assign, S_pick, S_bin, S_not, gdo_tt, gdo_ff, gdo_tf, gdo_ft, br_true, br_false, fin_val, ldV_ptr, ldaV_ptr, fldV_ptr, lenV_slice, not_bool, pick_true, pick_false, b_lss, b_leq, b_gtr, b_geq, b_eql, b_neq, b_add, b_sub, lift1_some, ev_tmp, ev_const, eput_app, eput_none, List.map_cons, List.map_nil, Nat.reduceEqDiff, Nat.succ_ne_self, Nat.reduceBEq, ↓reduceIte, reduceIte, decide_true, decide_false, Bool.not_true, Bool.not_false, if_true_left, Nat.one_ne_zero, Nat.zero_ne_one, not_true_eq_false, not_false_eq_true, S_nilc, nilc_ptr, S_ext, ext0, ext1, f1_0, box_agg] at gB ⊢
  simp only [W_skip, W_ops, W_sops, W_seq, W_block, W_exit, W_ret, W_cond, U_seq, U_seq_exit, U_seq_ret, U_blk, U_blk_ret, U_blk_exit, again_exit', again_ret', again_normal', U_ret1, S_nil, S_gd, S_ld, S_lda, S_fld, S_len, S_ix, S_call, S_callv, S_func, S_move, S_assign, S_pick, S_bin, S_not, gdo_tt, gdo_ff, gdo_tf, gdo_ft, br_true, br_false, fin_val, ldV_ptr, ldaV_ptr, fldV_ptr, lenV_slice, not_bool, pick_true, pick_false, b_lss, b_leq, b_gtr, b_geq, b_eql, b_neq, b_add, b_sub, lift1_some, ev_tmp, ev_const, eput_app, eput_none, List.map_cons, List.map_nil, Nat.reduceEqDiff, Nat.succ_ne_self, Nat.reduceBEq, ↓reduceIte, reduceIte, decide_true, decide_false, Bool.not_true, Bool.not_false, if_true_left, Nat.one_ne_zero, Nat.zero_ne_one, not_true_eq_false, not_false_eq_true, S_nilc, nilc_ptr, S_ext, ext0, ext1, own_cells2 gB rfl rfl]
  refine call_then (size199 (ht0.mono (fB.sub hwf)) hsz) ?_
  rintro v2 H2 ⟨⟨a, b, hv2, hab⟩, f2⟩ wf2
  subst hv2
  have fr2 := fB.trans f2
  rw [cont_app]
  simp only [W_skip, W_ops, W_sops, W_seq, W_block, W_exit, W_ret, W_cond, U_seq, U_seq_exit, U_seq_ret, U_blk, U_blk_ret, U_blk_exit, again_exit', again_ret', again_normal', U_ret1, S_nil, S_gd, S_ld, S_lda, S_fld, S_len, S_ix, S_call, S_callv, S_func, S_move, S_assign, S_pick, S_bin, S_not, gdo_tt, gdo_ff, gdo_tf, gdo_ft, br_true, br_false, fin_val, ldV_ptr, ldaV_ptr, fldV_ptr, lenV_slice, not_bool, pick_true, pick_false, b_lss, b_leq, b_gtr, b_geq, b_eql, b_neq, b_add, b_sub, lift1_some, ev_tmp, ev_const, eput_app, eput_none, List.map_cons, List.map_nil, Nat.reduceEqDiff, Nat.succ_ne_self, Nat.reduceBEq, ↓reduceIte, reduceIte, decide_true, decide_false, Bool.not_true, Bool.not_false, if_true_left, Nat.one_ne_zero, Nat.zero_ne_one, not_true_eq_false, not_false_eq_true, S_nilc, nilc_ptr, S_ext, ext0, ext1]
  have fin : ∀ x : Bool, (x = true ↔ (a ≤ 20000 ∧ b ≤ 200)) → Value.bool x = .bool (decide ((T.mk s ks).size ≤ 20000) && decide ((T.mk s ks).depth ≤ 200)) := by
    intro x hx
    congr 1
    rw [Bool.eq_iff_iff, hx, hab]
    simp
  refine gdo_of ?_ ?_ <;> intro hA
  · simp only [W_skip, W_ops, W_sops, W_seq, W_block, W_exit, W_ret, W_cond, U_seq, U_seq_exit, U_seq_ret, U_blk, U_blk_ret, U_blk_exit, again_exit', again_ret', again_normal', U_ret1, S_nil, S_gd, S_ld, S_lda, S_fld, S_len, S_ix, S_call, S_callv, S_func, S_move, S_assign, S_pick, S_bin, S_not, gdo_tt, gdo_ff, gdo_tf, gdo_ft, br_true, br_false, fin_val, ldV_ptr, ldaV_ptr, fldV_ptr, lenV_slice, not_bool, pick_true, pick_false, b_lss, b_leq, b_gtr, b_geq, b_eql, b_neq, b_add, b_sub, lift1_some, ev_tmp, ev_const, eput_app, eput_none, List.map_cons, List.map_nil, Nat.reduceEqDiff, Nat.succ_ne_self, Nat.reduceBEq, ↓reduceIte, reduceIte, decide_true, decide_false, Bool.not_true, Bool.not_false, if_true_left, Nat.one_ne_zero, Nat.zero_ne_one, not_true_eq_false, not_false_eq_true, S_nilc, nilc_ptr, S_ext, ext0, ext1, hA]
    refine ⟨fin _ ?_, fr2⟩
    simp only [decide_eq_true_eq] at hA ⊢
    exact ⟨fun h => ⟨hA, h⟩, fun h => h.2⟩
  · simp only [W_skip, W_ops, W_sops, W_seq, W_block, W_exit, W_ret, W_cond, U_seq, U_seq_exit, U_seq_ret, U_blk, U_blk_ret, U_blk_exit, again_exit', again_ret', again_normal', U_ret1, S_nil, S_gd, S_ld, S_lda, S_fld, S_len, S_ix, S_call, S_callv, S_func, S_move, S_assign, S_pick, S_bin, S_not, gdo_tt, gdo_ff, gdo_tf, gdo_ft, br_true, br_false, fin_val, ldV_ptr, ldaV_ptr, fldV_ptr, lenV_slice, not_bool, pick_true, pick_false, b_lss, b_leq, b_gtr, b_geq, b_eql, b_neq, b_add, b_sub, lift1_some, ev_tmp, ev_const, eput_app, eput_none, List.map_cons, List.map_nil, Nat.reduceEqDiff, Nat.succ_ne_self, Nat.reduceBEq, ↓reduceIte, reduceIte, decide_true, decide_false, Bool.not_true, Bool.not_false, if_true_left, Nat.one_ne_zero, Nat.zero_ne_one, not_true_eq_false, not_false_eq_true, S_nilc, nilc_ptr, S_ext, ext0, ext1, hA]
    refine ⟨fin _ ?_, fr2⟩
    simp only [decide_eq_false_iff_not] at hA
    exact ⟨fun h => (by cases h), fun h => absurd h.1 hA⟩

def err76 (rs : List Int) (t : T) : Int := if ranksOK rs = true then (if treeOK rs t = true then 0 else 9) else 2

theorem check76 {H : Heap} {v : Value} {cs : List Value} {rs : List Int} {t : T} (hv : IsInts H.get v rs) (ht : IsT H.get cs t) (hsz : t.size < 4294967296) :
    SC Tryz.prog 76 #[v, .agg cs.toArray] H (fun r H' => r = .int .i64 (err76 rs t) ∧ Fr H H') := by
  refine SC_of_W fc76 (by simp) fun hwf => ?_
  have ht0 := ht
  obtain ⟨s, ks⟩ := t
  obtain ⟨kv, rfl, hk⟩ := ht.inv
  obtain ⟨p, c, rfl, hlen, hat⟩ := hk
  unfold c76
  simp only [W_skip, W_ops, W_sops, W_seq, W_block, W_exit, W_ret, W_cond, U_seq, U_seq_exit, U_seq_ret, U_blk, U_blk_ret, U_blk_exit, again_exit', again_ret', again_normal', U_ret1, S_nil, S_gd, S_ld, S_lda, S_fld, S_len, S_ix, S_call, S_callv, S_func, S_move, S_assign, S_pick, S_bin, S_not, gdo_tt, gdo_ff, gdo_tf, gdo_ft, br_true, br_false, fin_val, ldV_ptr, ldaV_ptr, fldV_ptr, lenV_slice, not_bool, pick_true, pick_false, b_lss, b_leq, b_gtr, b_geq, b_eql, b_neq, b_add, b_sub, lift1_some, ev_tmp, ev_const, eput_app, eput_none, List.map_cons, List.map_nil, Nat.reduceEqDiff, Nat.succ_ne_self, Nat.reduceBEq, ↓reduceIte, reduceIte, decide_true, decide_false, Bool.not_true, Bool.not_false, if_true_left, Nat.one_ne_zero, Nat.zero_ne_one, not_true_eq_false, not_false_eq_true, S_nilc, nilc_ptr, S_ext, ext0, ext1]
  refine S_box fun HB fB nB gB => ?_
  simp only [W_skip, W_ops, W_sops, W_seq, W_block, W_exit, W_ret, W_cond, U_seq, U_seq_exit, U_seq_ret, U_blk, U_blk_ret, U_blk_exit, again_exit', again_ret', again_normal', U_ret1, S_nil, S_gd, S_ld, S_lda, S_fld, S_len, S_ix, S_call, S_callv, S_func, S_move, S_assign, S_pick, S_bin, S_not, gdo_tt, gdo_ff, gdo_tf, gdo_ft, br_true, br_false, fin_val, ldV_ptr, ldaV_ptr, fldV_ptr, lenV_slice, not_bool, pick_true, pick_false, b_lss, b_leq, b_gtr, b_geq, b_eql, b_neq, b_add, b_sub, lift1_some, ev_tmp, ev_const, eput_app, eput_none, List.map_cons, List.map_nil, Nat.reduceEqDiff, Nat.succ_ne_self, Nat.reduceBEq, ↓reduceIte, reduceIte, decide_true, decide_false, Bool.not_true, Bool.not_false, if_true_left, Nat.one_ne_zero, Nat.zero_ne_one, not_true_eq_false, not_false_eq_true, S_nilc, nilc_ptr, S_ext, ext0, ext1, f2_0, f2_1, box_agg] at gB ⊢
  have pp : ∀ H1, Fr HB H1 → H1.cellsFrom ⟨H.nxt, 0, none⟩ 0 2 = some [.int .i64 s, .slice p ks.length c] := fun H1 f1 => own_cells2 ((f1.old _ (by omega)).trans gB) rfl rfl
  refine call_then (ranks132 (hv.mono (fB.sub hwf))) ?_
  rintro _ H2 ⟨rfl, f2⟩ wf2
  have fr2 := fB.trans f2
  rw [cont_app]
  cases hk : ranksOK rs with
  | false =>
    simp only [W_skip, W_ops, W_sops, W_seq, W_block, W_exit, W_ret, W_cond, U_seq, U_seq_exit, U_seq_ret, U_blk, U_blk_ret, U_blk_exit, again_exit', again_ret', again_normal', U_ret1, S_nil, S_gd, S_ld, S_lda, S_fld, S_len, S_ix, S_call, S_callv, S_func, S_move, S_assign, S_pick, S_bin, S_not, gdo_tt, gdo_ff, gdo_tf, gdo_ft, br_true, br_false, fin_val, ldV_ptr, ldaV_ptr, fldV_ptr, lenV_slice, not_bool, pick_true, pick_false, b_lss, b_leq, b_gtr, b_geq, b_eql, b_neq, b_add, b_sub, lift1_some, ev_tmp, ev_const, eput_app, eput_none, List.map_cons, List.map_nil, Nat.reduceEqDiff, Nat.succ_ne_self, Nat.reduceBEq, ↓reduceIte, reduceIte, decide_true, decide_false, Bool.not_true, Bool.not_false, if_true_left, Nat.one_ne_zero, Nat.zero_ne_one, not_true_eq_false, not_false_eq_true, S_nilc, nilc_ptr, S_ext, ext0, ext1]
    exact ⟨by simp [err76, hk], fr2⟩
  | true =>
    simp only [W_skip, W_ops, W_sops, W_seq, W_block, W_exit, W_ret, W_cond, U_seq, U_seq_exit, U_seq_ret, U_blk, U_blk_ret, U_blk_exit, again_exit', again_ret', again_normal', U_ret1, S_nil, S_gd, S_ld, S_lda, S_fld, S_len, S_ix, S_call, S_callv, S_func, S_move, S_assign, S_pick, S_bin, S_not, gdo_tt, gdo_ff, gdo_tf, gdo_ft, br_true, br_false, fin_val, ldV_ptr, ldaV_ptr, fldV_ptr, lenV_slice, not_bool, pick_true, pick_false, b_lss, b_leq, b_gtr, b_geq, b_eql, b_neq, b_add, b_sub, lift1_some, ev_tmp, ev_const, eput_app, eput_none, List.map_cons, List.map_nil, Nat.reduceEqDiff, Nat.succ_ne_self, Nat.reduceBEq, ↓reduceIte, reduceIte, decide_true, decide_false, Bool.not_true, Bool.not_false, if_true_left, Nat.one_ne_zero, Nat.zero_ne_one, not_true_eq_false, not_false_eq_true, S_nilc, nilc_ptr, S_ext, ext0, ext1, pp H2 f2]
    refine call_then (fits139 (ht0.mono (fr2.sub hwf)) hsz) ?_
    rintro _ H3 ⟨rfl, f3⟩ wf3
    have fr3 := fr2.trans f3
    rw [cont_app]
    have etree : treeOK rs (T.mk s ks) = ((decide ((T.mk s ks).size ≤ 20000) && decide ((T.mk s ks).depth ≤ 200)) && (T.mk s ks).over rs) := rfl
    cases hf : (decide ((T.mk s ks).size ≤ 20000) && decide ((T.mk s ks).depth ≤ 200)) with
    | false =>
      simp only [W_skip, W_ops, W_sops, W_seq, W_block, W_exit, W_ret, W_cond, U_seq, U_seq_exit, U_seq_ret, U_blk, U_blk_ret, U_blk_exit, again_exit', again_ret', again_normal', U_ret1, S_nil, S_gd, S_ld, S_lda, S_fld, S_len, S_ix, S_call, S_callv, S_func, S_move, S_assign, S_pick, S_bin, S_not, gdo_tt, gdo_ff, gdo_tf, gdo_ft, br_true, br_false, fin_val, ldV_ptr, ldaV_ptr, fldV_ptr, lenV_slice, not_bool, pick_true, pick_false, b_lss, b_leq, b_gtr, b_geq, b_eql, b_neq, b_add, b_sub, lift1_some, ev_tmp, ev_const, eput_app, eput_none, List.map_cons, List.map_nil, Nat.reduceEqDiff, Nat.succ_ne_self, Nat.reduceBEq, ↓reduceIte, reduceIte, decide_true, decide_false, Bool.not_true, Bool.not_false, if_true_left, Nat.one_ne_zero, Nat.zero_ne_one, not_true_eq_false, not_false_eq_true, S_nilc, nilc_ptr, S_ext, ext0, ext1]
      exact ⟨by simp [err76, hk, etree, hf], fr3⟩
    | true =>
      simp only [W_skip, W_ops, W_sops, W_seq, W_block, W_exit, W_ret, W_cond, U_seq, U_seq_exit, U_seq_ret, U_blk, U_blk_ret, U_blk_exit, again_exit', again_ret', again_normal', U_ret1, S_nil, S_gd, S_ld, S_lda, S_fld, S_len, S_ix, S_call, S_callv, S_func, S_move, S_assign, S_pick, S_bin, S_not, gdo_tt, gdo_ff, gdo_tf, gdo_ft, br_true, br_false, fin_val, ldV_ptr, ldaV_ptr, fldV_ptr, lenV_slice, not_bool, pick_true, pick_false, b_lss, b_leq, b_gtr, b_geq, b_eql, b_neq, b_add, b_sub, lift1_some, ev_tmp, ev_const, eput_app, eput_none, List.map_cons, List.map_nil, Nat.reduceEqDiff, Nat.succ_ne_self, Nat.reduceBEq, ↓reduceIte, reduceIte, decide_true, decide_false, Bool.not_true, Bool.not_false, if_true_left, Nat.one_ne_zero, Nat.zero_ne_one, not_true_eq_false, not_false_eq_true, S_nilc, nilc_ptr, S_ext, ext0, ext1, f2_0, pp H3 (f2.trans f3)]
      refine call_then (over140 (T.mk s ks).size (T.mk s ks) H3 _ _ _ (Nat.le_refl _) (ht0.mono (fr3.sub hwf)) (hv.mono (fr3.sub hwf))) ?_
      rintro _ H4 ⟨rfl, f4⟩ wf4
      rw [cont_app]
      cases ho : (T.mk s ks).over rs with
      | false =>
        simp only [W_skip, W_ops, W_sops, W_seq, W_block, W_exit, W_ret, W_cond, U_seq, U_seq_exit, U_seq_ret, U_blk, U_blk_ret, U_blk_exit, again_exit', again_ret', again_normal', U_ret1, S_nil, S_gd, S_ld, S_lda, S_fld, S_len, S_ix, S_call, S_callv, S_func, S_move, S_assign, S_pick, S_bin, S_not, gdo_tt, gdo_ff, gdo_tf, gdo_ft, br_true, br_false, fin_val, ldV_ptr, ldaV_ptr, fldV_ptr, lenV_slice, not_bool, pick_true, pick_false, b_lss, b_leq, b_gtr, b_geq, b_eql, b_neq, b_add, b_sub, lift1_some, ev_tmp, ev_const, eput_app, eput_none, List.map_cons, List.map_nil, Nat.reduceEqDiff, Nat.succ_ne_self, Nat.reduceBEq, ↓reduceIte, reduceIte, decide_true, decide_false, Bool.not_true, Bool.not_false, if_true_left, Nat.one_ne_zero, Nat.zero_ne_one, not_true_eq_false, not_false_eq_true, S_nilc, nilc_ptr, S_ext, ext0, ext1]
        exact ⟨by simp [err76, hk, etree, hf, ho], fr3.trans f4⟩
      | true =>
        simp only [W_skip, W_ops, W_sops, W_seq, W_block, W_exit, W_ret, W_cond, U_seq, U_seq_exit, U_seq_ret, U_blk, U_blk_ret, U_blk_exit, again_exit', again_ret', again_normal', U_ret1, S_nil, S_gd, S_ld, S_lda, S_fld, S_len, S_ix, S_call, S_callv, S_func, S_move, S_assign, S_pick, S_bin, S_not, gdo_tt, gdo_ff, gdo_tf, gdo_ft, br_true, br_false, fin_val, ldV_ptr, ldaV_ptr, fldV_ptr, lenV_slice, not_bool, pick_true, pick_false, b_lss, b_leq, b_gtr, b_geq, b_eql, b_neq, b_add, b_sub, lift1_some, ev_tmp, ev_const, eput_app, eput_none, List.map_cons, List.map_nil, Nat.reduceEqDiff, Nat.succ_ne_self, Nat.reduceBEq, ↓reduceIte, reduceIte, decide_true, decide_false, Bool.not_true, Bool.not_false, if_true_left, Nat.one_ne_zero, Nat.zero_ne_one, not_true_eq_false, not_false_eq_true, S_nilc, nilc_ptr, S_ext, ext0, ext1]
        exact ⟨by simp [err76, hk, etree, hf, ho], fr3.trans f4⟩

end Go.Proofs.YtcfjimhbachmlaaGreatDoor.E

/- Contracts: the program's comparisons, handed on as functions. -/
namespace Go.Proofs.YtcfjimhbachmlaaGreatDoor.E
open Go Go.Proofs
open Go.Proofs.YtcfjimhbachmlaaGreatDoor.L

theorem same133 : TY.same 133 = false := by kernel_rfl
theorem same136 : TY.same 136 = false := by kernel_rfl
theorem same138 : TY.same 138 = false := by kernel_rfl

section
variable {Y : Env} {P : Program} {K : List KF} {Q : EPost} {g : Fm} {H : Heap}
theorem callW0 {d a l f} (h : Y.same f = false) : callW Y P d a l K Q g H (.func (.func f) #[] #[]) = SC P f (a.map (ev g)).toArray H (cont Y P d l K Q g) := by
  rw [callW_func h]; simp
theorem callW3 {d a l f x y z} (h : Y.same f = false) : callW Y P d a l K Q g H (.func (.func f) #[] #[x, y, z]) = SC P f (a.map (ev g) ++ [x, y, z]).toArray H (cont Y P d l K Q g) := by
  rw [callW_func h]; simp
end

def Bd (x : Nd) : Prop := 0 ≤ x.1 ∧ x.1 < 4294967296 ∧ 0 ≤ x.2 ∧ x.2 < 4294967296

/-- auto.Check$1 -/
def c133 : C2 :=
  .seq (.ops [(some 4, none, .raw (.box 182 (.tmp 0))),
    (some 5, none, .raw (.assign (.const (.bool false))))]) (
  .seq (.sops 25 [(some 6, none, .fld 0 (.tmp 4)),
    (some 7, none, .ld (.tmp 6)),
    (some 8, none, .raw (.binOp .lss 3 (.tmp 7) (.const (.int .i64 0)) 3)),
    (some 9, none, .raw (.move (.tmp 8))),
    (some 10, some (9, false), .fld 0 (.tmp 4)),
    (some 11, some (9, false), .ld (.tmp 10)),
    (some 12, some (9, false), .fld 0 (.tmp 1)),
    (some 13, some (9, false), .ld (.tmp 12)),
    (some 14, some (9, false), .ld (.tmp 2)),
    (some 15, some (9, false), .ix 1 (.tmp 13) (.tmp 14)),
    (some 16, some (9, false), .ld (.tmp 15)),
    (some 17, some (9, false), .raw (.binOp .geq 3 (.tmp 11) (.tmp 16) 3)),
    (some 18, none, .raw (.pick (.tmp 9) (.const (.bool true)) (.tmp 17))),
    (some 19, none, .raw (.move (.tmp 18))),
    (some 20, some (19, false), .fld 1 (.tmp 4)),
    (some 21, some (19, false), .ld (.tmp 20)),
    (some 22, some (19, false), .raw (.binOp .lss 3 (.tmp 21) (.const (.int .i64 0)) 3)),
    (some 23, none, .raw (.pick (.tmp 19) (.const (.bool true)) (.tmp 22))),
    (some 24, none, .raw (.move (.tmp 23))),
    (some 25, some (24, false), .fld 1 (.tmp 4)),
    (some 26, some (24, false), .ld (.tmp 25)),
    (some 27, some (24, false), .ld (.tmp 3)),
    (some 28, some (24, false), .raw (.binOp .geq 3 (.tmp 26) (.tmp 27) 3)),
    (some 29, none, .raw (.pick (.tmp 24) (.const (.bool true)) (.tmp 28))),
    (some 5, none, .raw (.assign (.tmp 29)))]) (
  .ret))
theorem fc133 : facts 133 = some (c133, [.tmp 5], 30) := by kernel_rfl

/-- api.Need] -/
def c197 : C2 :=
  .seq (.ops [(some 4, none, .raw (.assign (.const (.int .i64 0))))]) (
  .seq (.seq (.ops [(some 6, none, .raw (.move (.tmp 0))),
    (some 7, none, .len (.tmp 6)),
    (some 8, none, .raw (.move (.const (.int .i64 0))))]) (
  .block 0 (
    .loop (
      .seq (.ops [(some 9, none, .raw (.binOp .lss 3 (.tmp 8) (.tmp 7) 3))]) (
      .seq (.cond (.tmp 9) (
        .skip) (
        .exit 0)) (
      .seq (.block 1 (
        .seq (.ops [(some 10, none, .raw (.move (.tmp 8))),
          (some 5, none, .raw (.assign (.tmp 10)))]) (
        .seq (.ops [(some 11, none, .raw (.move (.tmp 1))),
          (some 12, none, .raw (.move (.tmp 0))),
          (some 13, none, .raw (.move (.tmp 5))),
          (some 14, none, .ix 2 (.tmp 12) (.tmp 13)),
          (some 15, none, .lda 2 (.tmp 14)),
          (some 16, none, .callv (.tmp 11) [(.tmp 15)])]) (
        .cond (.tmp 16) (
          .seq (.ops [(some 17, none, .raw (.move (.tmp 5))),
            (some 4, none, .raw (.assign (.tmp 17)))]) (
          .ret)) (
          .skip))))) (
      .ops [(some 18, none, .raw (.binOp .add 3 (.tmp 8) (.const (.int .i64 1)) 3)),
        (some 8, none, .raw (.move (.tmp 18)))]))))))) (
  .seq (.ops [(some 4, none, .raw (.assign (.const (.int .i64 (-1)))))]) (
  .ret)))
theorem fc197 : facts 197 = some (c197, [.tmp 4], 19) := by kernel_rfl

/-- api.Need] -/
def c134 : C2 :=
  .seq (.ops [(some 4, none, .raw (.assign (.const (.bool false))))]) (
  .seq (.ops [(some 5, none, .raw (.move (.tmp 0))),
    (some 6, none, .raw (.move (.tmp 1))),
    (some 7, none, .call 197 [(.tmp 5), (.tmp 6)]),
    (some 8, none, .raw (.binOp .geq 3 (.tmp 7) (.const (.int .i64 0)) 3)),
    (some 4, none, .raw (.assign (.tmp 8)))]) (
  .ret))
theorem fc134 : facts 134 = some (c134, [.tmp 4], 9) := by kernel_rfl

/-- api.Need] -/
def c198 : C2 :=
  .seq (.ops [(some 6, none, .raw (.assign (.const (.int .i64 0))))]) (
  .seq (.seq (.ops [(some 11, none, .raw (.move (.tmp 0))),
    (some 12, none, .len (.tmp 11)),
    (some 13, none, .raw (.move (.const (.int .i64 0))))]) (
  .block 0 (
    .loop (
      .seq (.ops [(some 14, none, .raw (.binOp .lss 3 (.tmp 13) (.tmp 12) 3))]) (
      .seq (.cond (.tmp 14) (
        .skip) (
        .exit 0)) (
      .seq (.block 1 (
        .seq (.ops [(some 15, none, .raw (.move (.tmp 13))),
          (some 16, none, .ix 2 (.tmp 11) (.tmp 13)),
          (some 17, none, .lda 2 (.tmp 16)),
          (some 8, none, .alloc 182 [.int .i64 0, .int .i64 0]),
          (some 7, none, .raw (.assign (.tmp 15))),
          (none, none, .st 2 (.tmp 8) (.tmp 17))]) (
        .seq (.seq (.ops [(some 18, none, .raw (.move (.tmp 7))),
          (some 19, none, .raw (.move (.tmp 1))),
          (some 20, none, .len (.tmp 19)),
          (some 21, none, .raw (.binOp .geq 3 (.tmp 18) (.tmp 20) 3))]) (
        .cond (.tmp 21) (
          .seq (.ops [(some 6, none, .raw (.assign (.const (.int .i64 1))))]) (
          .ret)) (
          .skip))) (
        .seq (.ops [(some 22, none, .raw (.move (.tmp 1))),
          (some 23, none, .raw (.move (.tmp 7))),
          (some 24, none, .ix 2 (.tmp 22) (.tmp 23)),
          (some 25, none, .lda 2 (.tmp 24)),
          (some 9, none, .alloc 182 [.int .i64 0, .int .i64 0]),
          (none, none, .st 2 (.tmp 9) (.tmp 25))]) (
        .seq (.ops [(some 26, none, .raw (.move (.tmp 2))),
          (some 27, none, .lda 2 (.tmp 8)),
          (some 28, none, .lda 2 (.tmp 9)),
          (some 29, none, .callv (.tmp 26) [(.tmp 27), (.tmp 28)]),
          (some 10, none, .raw (.assign (.tmp 29)))]) (
        .seq (.ops [(some 30, none, .raw (.move (.tmp 10))),
          (some 31, none, .raw (.binOp .neq 3 (.tmp 30) (.const (.int .i64 0)) 3))]) (
        .cond (.tmp 31) (
          .seq (.ops [(some 32, none, .raw (.move (.tmp 10))),
            (some 6, none, .raw (.assign (.tmp 32)))]) (
          .ret)) (
          .skip)))))))) (
      .ops [(some 33, none, .raw (.binOp .add 3 (.tmp 13) (.const (.int .i64 1)) 3)),
        (some 13, none, .raw (.move (.tmp 33)))]))))))) (
  .seq (.seq (.ops [(some 34, none, .raw (.move (.tmp 0))),
    (some 35, none, .len (.tmp 34)),
    (some 36, none, .raw (.move (.tmp 1))),
    (some 37, none, .len (.tmp 36)),
    (some 38, none, .raw (.binOp .lss 3 (.tmp 35) (.tmp 37) 3))]) (
  .cond (.tmp 38) (
    .seq (.ops [(some 6, none, .raw (.assign (.const (.int .i64 (-1)))))]) (
    .ret)) (
    .skip))) (
  .seq (.ops [(some 6, none, .raw (.assign (.const (.int .i64 0))))]) (
  .ret))))
theorem fc198 : facts 198 = some (c198, [.tmp 6], 39) := by kernel_rfl

/-- auto.Lists -/
def c138 : C2 :=
  .seq (.ops [(some 4, none, .raw (.assign (.const (.int .i64 0))))]) (
  .seq (.ops [(some 5, none, .raw (.move (.tmp 0))),
    (some 6, none, .raw (.move (.tmp 1))),
    (some 7, none, .call 198 [(.tmp 5), (.tmp 6), (.func 136)]),
    (some 4, none, .raw (.assign (.tmp 7)))]) (
  .ret))
theorem fc138 : facts 138 = some (c138, [.tmp 4], 8) := by kernel_rfl

/-- api.Need] -/
def c135 : C2 :=
  .seq (.ops [(some 4, none, .raw (.assign (.const (.bool false))))]) (
  .seq (.seq (.ops [(some 5, none, .raw (.assign (.const (.int .i64 1))))]) (
  .block 0 (
    .loop (
      .seq (.seq (.ops [(some 6, none, .raw (.move (.tmp 5))),
        (some 7, none, .raw (.move (.tmp 0))),
        (some 8, none, .len (.tmp 7)),
        (some 9, none, .raw (.binOp .lss 3 (.tmp 6) (.tmp 8) 3))]) (
      .cond (.tmp 9) (
        .skip) (
        .exit 0))) (
      .seq (.block 1 (
        .seq (.sops 12 [(some 12, none, .raw (.move (.tmp 1))),
          (some 13, none, .raw (.move (.tmp 0))),
          (some 14, none, .raw (.move (.tmp 5))),
          (some 15, none, .raw (.binOp .sub 3 (.tmp 14) (.const (.int .i64 1)) 3)),
          (some 16, none, .ix 2 (.tmp 13) (.tmp 15)),
          (some 17, none, .lda 2 (.tmp 16)),
          (some 18, none, .raw (.move (.tmp 0))),
          (some 19, none, .raw (.move (.tmp 5))),
          (some 20, none, .ix 2 (.tmp 18) (.tmp 19)),
          (some 21, none, .lda 2 (.tmp 20)),
          (some 22, none, .callv (.tmp 12) [(.tmp 17), (.tmp 21)]),
          (some 23, none, .raw (.binOp .geq 3 (.tmp 22) (.const (.int .i64 0)) 3))]) (
        .cond (.tmp 23) (
          .seq (.ops [(some 4, none, .raw (.assign (.const (.bool false))))]) (
          .ret)) (
          .skip)))) (
      .ops [(some 10, none, .raw (.move (.tmp 5))),
        (some 11, none, .raw (.binOp .add 3 (.tmp 10) (.const (.int .i64 1)) 3)),
        (some 5, none, .raw (.assign (.tmp 11)))])))))) (
  .seq (.ops [(some 4, none, .raw (.assign (.const (.bool true))))]) (
  .ret)))
theorem fc135 : facts 135 = some (c135, [.tmp 4], 24) := by kernel_rfl

/-- api.Need] -/
def c137 : C2 :=
  .seq (.ops [(some 4, none, .raw (.assign (.const (.bool false))))]) (
  .seq (.seq (.ops [(some 5, none, .raw (.assign (.const (.int .i64 1))))]) (
  .block 0 (
    .loop (
      .seq (.seq (.ops [(some 6, none, .raw (.move (.tmp 5))),
        (some 7, none, .raw (.move (.tmp 0))),
        (some 8, none, .len (.tmp 7)),
        (some 9, none, .raw (.binOp .lss 3 (.tmp 6) (.tmp 8) 3))]) (
      .cond (.tmp 9) (
        .skip) (
        .exit 0))) (
      .seq (.block 1 (
        .seq (.sops 12 [(some 12, none, .raw (.move (.tmp 1))),
          (some 13, none, .raw (.move (.tmp 0))),
          (some 14, none, .raw (.move (.tmp 5))),
          (some 15, none, .raw (.binOp .sub 3 (.tmp 14) (.const (.int .i64 1)) 3)),
          (some 16, none, .ix 1 (.tmp 13) (.tmp 15)),
          (some 17, none, .ld (.tmp 16)),
          (some 18, none, .raw (.move (.tmp 0))),
          (some 19, none, .raw (.move (.tmp 5))),
          (some 20, none, .ix 1 (.tmp 18) (.tmp 19)),
          (some 21, none, .ld (.tmp 20)),
          (some 22, none, .callv (.tmp 12) [(.tmp 17), (.tmp 21)]),
          (some 23, none, .raw (.binOp .geq 3 (.tmp 22) (.const (.int .i64 0)) 3))]) (
        .cond (.tmp 23) (
          .seq (.ops [(some 4, none, .raw (.assign (.const (.bool false))))]) (
          .ret)) (
          .skip)))) (
      .ops [(some 10, none, .raw (.move (.tmp 5))),
        (some 11, none, .raw (.binOp .add 3 (.tmp 10) (.const (.int .i64 1)) 3)),
        (some 5, none, .raw (.assign (.tmp 11)))])))))) (
  .seq (.ops [(some 4, none, .raw (.assign (.const (.bool true))))]) (
  .ret)))
theorem fc137 : facts 137 = some (c137, [.tmp 4], 24) := by kernel_rfl

theorem f4_0 {a b c d : Value} : frame0 #[a, b, c, d] 0 = a := (rfl)
theorem f4_1 {a b c d : Value} : frame0 #[a, b, c, d] 1 = b := (rfl)
theorem f4_2 {a b c d : Value} : frame0 #[a, b, c, d] 2 = c := (rfl)
theorem f4_3 {a b c d : Value} : frame0 #[a, b, c, d] 3 = d := (rfl)

theorem bad133 {G : Nat → Option Blk} {m : Nat} {H : Heap} {x : Nd} {b1 b2 b3 j : Nat} {n : Int} {rs : List Int} {rv sv mv : Value} {f1 f2 f3 : Bool} (kn : Kn G m H) (hr : IsInts G rv rs) (hj : j < rs.length)
    (g1 : H.get b1 = some (.cells [rv, sv, mv] 29 true f1)) (g2 : H.get b2 = some (.cells [.int .i64 (j : Nat)] 3 true f2)) (g3 : H.get b3 = some (.cells [.int .i64 n] 3 true f3)) :
    SC Tryz.prog 133 #[ndV x, .pointer (some ⟨b1, 0, none⟩), .pointer (some ⟨b2, 0, none⟩), .pointer (some ⟨b3, 0, none⟩)] H (fun v H' => v = .bool (!(inR rs[j] n x)) ∧ Fr H H') := by
  refine SC_of_W fc133 (by simp) fun hwf => ?_
  obtain ⟨x1, x2⟩ := x
  obtain ⟨pr, cr, rfl, hrlen, hrat⟩ := hr
  obtain ⟨b, cs, rfl, hs, hI⟩ := hrat j rs[j] (by simp [hj])
  cases hI
  unfold c133
  simp only [W_skip, W_ops, W_sops, W_seq, W_block, W_exit, W_ret, W_cond, U_seq, U_seq_exit, U_seq_ret, U_blk, U_blk_ret, U_blk_exit, again_exit', again_ret', again_normal', U_ret1, S_nil, S_gd, S_ld, S_lda, S_fld, S_len, S_ix, S_call, S_callv, S_func, S_move, S_assign, S_pick, S_bin, S_not, gdo_tt, gdo_ff, gdo_tf, gdo_ft, br_true, br_false, fin_val, ldV_ptr, ldaV_ptr, fldV_ptr, lenV_slice, not_bool, pick_true, pick_false, b_lss, b_leq, b_gtr, b_geq, b_eql, b_neq, b_add, b_sub, lift1_some, ev_tmp, ev_const, eput_app, eput_none, List.map_cons, List.map_nil, Nat.reduceEqDiff, Nat.succ_ne_self, Nat.reduceBEq, ↓reduceIte, reduceIte, decide_true, decide_false, Bool.not_true, Bool.not_false, if_true_left, Nat.one_ne_zero, Nat.zero_ne_one, not_true_eq_false, not_false_eq_true, S_nilc, nilc_ptr, S_ext, ext0, ext1]
  refine S_box fun HB fB nB gB => ?_
  simp only [W_skip, W_ops, W_sops, W_seq, W_block, W_exit, W_ret, W_cond, U_seq, U_seq_exit, U_seq_ret, U_blk, U_blk_ret, U_blk_exit, again_exit', again_ret', again_normal', U_ret1, S_nil, S_gd, S_ld, S_lda, S_fld, S_len, S_ix, S_call, S_callv, S_func, S_move, S_assign, S_pick, S_bin, S_not, gdo_tt, gdo_ff, gdo_tf, gdo_ft, br_true, br_false, fin_val, ldV_ptr, ldaV_ptr, fldV_ptr, lenV_slice, not_bool, pick_true, pick_false, b_lss, b_leq, b_gtr, b_geq, b_eql, b_neq, b_add, b_sub, lift1_some, ev_tmp, ev_const, eput_app, eput_none, List.map_cons, List.map_nil, Nat.reduceEqDiff, Nat.succ_ne_self, Nat.reduceBEq, ↓reduceIte, reduceIte, decide_true, decide_false, Bool.not_true, Bool.not_false, if_true_left, Nat.one_ne_zero, Nat.zero_ne_one, not_true_eq_false, not_false_eq_true, S_nilc, nilc_ptr, S_ext, ext0, ext1, f4_0, f4_1, f4_2, f4_3, ndV, Value.cells] at gB ⊢
  have frR : Fr H (HB.reserve 25) := fB.reserve 25
  have a1 : (HB.reserve 25).get b1 = _ := (frR.old b1 (hwf _ _ g1)).trans g1
  have a2 : (HB.reserve 25).get b2 = _ := (frR.old b2 (hwf _ _ g2)).trans g2
  have a3 : (HB.reserve 25).get b3 = _ := (frR.old b3 (hwf _ _ g3)).trans g3
  have p0 := own_cell (H := HB.reserve 25) 0 gB rfl rfl
  have p1 := own_cell (H := HB.reserve 25) 1 gB rfl rfl
  have q1 := own_cell 0 a1 rfl rfl
  have q2 := own_cell 0 a2 rfl rfl
  have q3 := own_cell 0 a3 rfl rfl
  have hc := (kn.fr frR).see1 hs
  have fin : ∀ t : Bool, (t = true ↔ ¬ (0 ≤ x1 ∧ x1 < rs[j] ∧ 0 ≤ x2 ∧ x2 < n)) → Value.bool t = .bool (!(inR rs[j] n (x1, x2))) ∧ Fr H (HB.reserve 25) := by
    intro t ht
    refine ⟨?_, frR⟩
    congr 1
    rw [Bool.eq_iff_iff, ht]
    simp [inR, and_assoc]
    omega
  simp only [W_skip, W_ops, W_sops, W_seq, W_block, W_exit, W_ret, W_cond, U_seq, U_seq_exit, U_seq_ret, U_blk, U_blk_ret, U_blk_exit, again_exit', again_ret', again_normal', U_ret1, S_nil, S_gd, S_ld, S_lda, S_fld, S_len, S_ix, S_call, S_callv, S_func, S_move, S_assign, S_pick, S_bin, S_not, gdo_tt, gdo_ff, gdo_tf, gdo_ft, br_true, br_false, fin_val, ldV_ptr, ldaV_ptr, fldV_ptr, lenV_slice, not_bool, pick_true, pick_false, b_lss, b_leq, b_gtr, b_geq, b_eql, b_neq, b_add, b_sub, lift1_some, ev_tmp, ev_const, eput_app, eput_none, List.map_cons, List.map_nil, Nat.reduceEqDiff, Nat.succ_ne_self, Nat.reduceBEq, ↓reduceIte, reduceIte, decide_true, decide_false, Bool.not_true, Bool.not_false, if_true_left, Nat.one_ne_zero, Nat.zero_ne_one, not_true_eq_false, not_false_eq_true, S_nilc, nilc_ptr, S_ext, ext0, ext1, p0, own_add]
  refine gdo_of ?_ ?_ <;> intro hA
  · simp only [W_skip, W_ops, W_sops, W_seq, W_block, W_exit, W_ret, W_cond, U_seq, U_seq_exit, U_seq_ret, U_blk, U_blk_ret, U_blk_exit, again_exit', again_ret', again_normal', U_ret1, S_nil, S_gd, S_ld, S_lda, S_fld, S_len, S_ix, S_call, S_callv, S_func, S_move, S_assign, S_pick, S_bin, S_not, gdo_tt, gdo_ff, gdo_tf, gdo_ft, br_true, br_false, fin_val, ldV_ptr, ldaV_ptr, fldV_ptr, lenV_slice, not_bool, pick_true, pick_false, b_lss, b_leq, b_gtr, b_geq, b_eql, b_neq, b_add, b_sub, lift1_some, ev_tmp, ev_const, eput_app, eput_none, List.map_cons, List.map_nil, Nat.reduceEqDiff, Nat.succ_ne_self, Nat.reduceBEq, ↓reduceIte, reduceIte, decide_true, decide_false, Bool.not_true, Bool.not_false, if_true_left, Nat.one_ne_zero, Nat.zero_ne_one, not_true_eq_false, not_false_eq_true, S_nilc, nilc_ptr, S_ext, ext0, ext1, hA]
    refine fin _ ?_
    simp only [decide_eq_true_eq] at hA
    simp; omega
  simp only [W_skip, W_ops, W_sops, W_seq, W_block, W_exit, W_ret, W_cond, U_seq, U_seq_exit, U_seq_ret, U_blk, U_blk_ret, U_blk_exit, again_exit', again_ret', again_normal', U_ret1, S_nil, S_gd, S_ld, S_lda, S_fld, S_len, S_ix, S_call, S_callv, S_func, S_move, S_assign, S_pick, S_bin, S_not, gdo_tt, gdo_ff, gdo_tf, gdo_ft, br_true, br_false, fin_val, ldV_ptr, ldaV_ptr, fldV_ptr, lenV_slice, not_bool, pick_true, pick_false, b_lss, b_leq, b_gtr, b_geq, b_eql, b_neq, b_add, b_sub, lift1_some, ev_tmp, ev_const, eput_app, eput_none, List.map_cons, List.map_nil, Nat.reduceEqDiff, Nat.succ_ne_self, Nat.reduceBEq, ↓reduceIte, reduceIte, decide_true, decide_false, Bool.not_true, Bool.not_false, if_true_left, Nat.one_ne_zero, Nat.zero_ne_one, not_true_eq_false, not_false_eq_true, S_nilc, nilc_ptr, S_ext, ext0, ext1, hA, p0, q1, q2, own_add, f4_1, f4_2, ixV_at hj, hc]
  simp only [decide_eq_false_iff_not] at hA
  refine gdo_of ?_ ?_ <;> intro hB
  · simp only [W_skip, W_ops, W_sops, W_seq, W_block, W_exit, W_ret, W_cond, U_seq, U_seq_exit, U_seq_ret, U_blk, U_blk_ret, U_blk_exit, again_exit', again_ret', again_normal', U_ret1, S_nil, S_gd, S_ld, S_lda, S_fld, S_len, S_ix, S_call, S_callv, S_func, S_move, S_assign, S_pick, S_bin, S_not, gdo_tt, gdo_ff, gdo_tf, gdo_ft, br_true, br_false, fin_val, ldV_ptr, ldaV_ptr, fldV_ptr, lenV_slice, not_bool, pick_true, pick_false, b_lss, b_leq, b_gtr, b_geq, b_eql, b_neq, b_add, b_sub, lift1_some, ev_tmp, ev_const, eput_app, eput_none, List.map_cons, List.map_nil, Nat.reduceEqDiff, Nat.succ_ne_self, Nat.reduceBEq, ↓reduceIte, reduceIte, decide_true, decide_false, Bool.not_true, Bool.not_false, if_true_left, Nat.one_ne_zero, Nat.zero_ne_one, not_true_eq_false, not_false_eq_true, S_nilc, nilc_ptr, S_ext, ext0, ext1, hB]
    refine fin _ ?_
    simp only [decide_eq_true_eq] at hB
    simp; omega
  simp only [W_skip, W_ops, W_sops, W_seq, W_block, W_exit, W_ret, W_cond, U_seq, U_seq_exit, U_seq_ret, U_blk, U_blk_ret, U_blk_exit, again_exit', again_ret', again_normal', U_ret1, S_nil, S_gd, S_ld, S_lda, S_fld, S_len, S_ix, S_call, S_callv, S_func, S_move, S_assign, S_pick, S_bin, S_not, gdo_tt, gdo_ff, gdo_tf, gdo_ft, br_true, br_false, fin_val, ldV_ptr, ldaV_ptr, fldV_ptr, lenV_slice, not_bool, pick_true, pick_false, b_lss, b_leq, b_gtr, b_geq, b_eql, b_neq, b_add, b_sub, lift1_some, ev_tmp, ev_const, eput_app, eput_none, List.map_cons, List.map_nil, Nat.reduceEqDiff, Nat.succ_ne_self, Nat.reduceBEq, ↓reduceIte, reduceIte, decide_true, decide_false, Bool.not_true, Bool.not_false, if_true_left, Nat.one_ne_zero, Nat.zero_ne_one, not_true_eq_false, not_false_eq_true, S_nilc, nilc_ptr, S_ext, ext0, ext1, hB, p1, own_add]
  simp only [decide_eq_false_iff_not] at hB
  refine gdo_of ?_ ?_ <;> intro hC
  · simp only [W_skip, W_ops, W_sops, W_seq, W_block, W_exit, W_ret, W_cond, U_seq, U_seq_exit, U_seq_ret, U_blk, U_blk_ret, U_blk_exit, again_exit', again_ret', again_normal', U_ret1, S_nil, S_gd, S_ld, S_lda, S_fld, S_len, S_ix, S_call, S_callv, S_func, S_move, S_assign, S_pick, S_bin, S_not, gdo_tt, gdo_ff, gdo_tf, gdo_ft, br_true, br_false, fin_val, ldV_ptr, ldaV_ptr, fldV_ptr, lenV_slice, not_bool, pick_true, pick_false, b_lss, b_leq, b_gtr, b_geq, b_eql, b_neq, b_add, b_sub, lift1_some, ev_tmp, ev_const, eput_app, eput_none, List.map_cons, List.map_nil, Nat.reduceEqDiff, Nat.succ_ne_self, Nat.reduceBEq, ↓reduceIte, reduceIte, decide_true, decide_false, Bool.not_true, Bool.not_false, if_true_left, Nat.one_ne_zero, Nat.zero_ne_one, not_true_eq_false, not_false_eq_true, S_nilc, nilc_ptr, S_ext, ext0, ext1, hC]
    refine fin _ ?_
    simp only [decide_eq_true_eq] at hC
    simp; omega
  simp only [W_skip, W_ops, W_sops, W_seq, W_block, W_exit, W_ret, W_cond, U_seq, U_seq_exit, U_seq_ret, U_blk, U_blk_ret, U_blk_exit, again_exit', again_ret', again_normal', U_ret1, S_nil, S_gd, S_ld, S_lda, S_fld, S_len, S_ix, S_call, S_callv, S_func, S_move, S_assign, S_pick, S_bin, S_not, gdo_tt, gdo_ff, gdo_tf, gdo_ft, br_true, br_false, fin_val, ldV_ptr, ldaV_ptr, fldV_ptr, lenV_slice, not_bool, pick_true, pick_false, b_lss, b_leq, b_gtr, b_geq, b_eql, b_neq, b_add, b_sub, lift1_some, ev_tmp, ev_const, eput_app, eput_none, List.map_cons, List.map_nil, Nat.reduceEqDiff, Nat.succ_ne_self, Nat.reduceBEq, ↓reduceIte, reduceIte, decide_true, decide_false, Bool.not_true, Bool.not_false, if_true_left, Nat.one_ne_zero, Nat.zero_ne_one, not_true_eq_false, not_false_eq_true, S_nilc, nilc_ptr, S_ext, ext0, ext1, hC, p1, q3, own_add, f4_3]
  simp only [decide_eq_false_iff_not] at hC
  refine fin _ ?_
  simp only [decide_eq_true_eq]
  omega

theorem index197 {H : Heap} {v : Value} {l : List Nd} {fn : FuncId} {x y z : Value} {p : Nd → Bool} (hv : IsAlt H.get v l) (hs : TY.same fn = false)
    (hf : ∀ u ∈ l, ∀ H', Fr H H' → SC Tryz.prog fn #[ndV u, x, y, z] H' (fun r H'' => r = .bool (p u) ∧ Fr H' H'')) :
    SC Tryz.prog 197 #[v, .func (.func fn) #[] #[x, y, z]] H (fun r H' => (∃ i : Int, r = .int .i64 i ∧ (0 ≤ i ↔ l.any p = true)) ∧ Fr H H') := by
  refine SC_of_W fc197 (by simp) fun hwf => ?_
  obtain ⟨a, c, rfl, hlen, hat⟩ := hv
  have kn := Kn.self hwf
  unfold c197
  simp only [W_skip, W_ops, W_sops, W_seq, W_block, W_exit, W_ret, W_cond, U_seq, U_seq_exit, U_seq_ret, U_blk, U_blk_ret, U_blk_exit, again_exit', again_ret', again_normal', U_ret1, S_nil, S_gd, S_ld, S_lda, S_fld, S_len, S_ix, S_call, S_callv, S_func, S_move, S_assign, S_pick, S_bin, S_not, gdo_tt, gdo_ff, gdo_tf, gdo_ft, br_true, br_false, fin_val, ldV_ptr, ldaV_ptr, fldV_ptr, lenV_slice, not_bool, pick_true, pick_false, b_lss, b_leq, b_gtr, b_geq, b_eql, b_neq, b_add, b_sub, lift1_some, ev_tmp, ev_const, eput_app, eput_none, List.map_cons, List.map_nil, Nat.reduceEqDiff, Nat.succ_ne_self, Nat.reduceBEq, ↓reduceIte, reduceIte, decide_true, decide_false, Bool.not_true, Bool.not_false, if_true_left, Nat.one_ne_zero, Nat.zero_ne_one, not_true_eq_false, not_false_eq_true, S_nilc, nilc_ptr, S_ext, ext0, ext1, f2_0, f2_1]
  refine W_loop (fun k g H1 => ∃ j, k = l.length - j ∧ j ≤ l.length ∧ g 0 = .slice a l.length c ∧ g 1 = .func (.func fn) #[] #[x, y, z] ∧ g 7 = .int .i64 l.length ∧ g 8 = .int .i64 (j : Nat) ∧ Fr H H1 ∧ (l.take j).any p = false) ?_ l.length ⟨0, ?_⟩
  · rintro k g H1 ⟨j, rfl, hj, h0, h1, h7, h8, fr, ok⟩
    have kn1 := kn.fr fr
    simp only [W_skip, W_ops, W_sops, W_seq, W_block, W_exit, W_ret, W_cond, U_seq, U_seq_exit, U_seq_ret, U_blk, U_blk_ret, U_blk_exit, again_exit', again_ret', again_normal', U_ret1, S_nil, S_gd, S_ld, S_lda, S_fld, S_len, S_ix, S_call, S_callv, S_func, S_move, S_assign, S_pick, S_bin, S_not, gdo_tt, gdo_ff, gdo_tf, gdo_ft, br_true, br_false, fin_val, ldV_ptr, ldaV_ptr, fldV_ptr, lenV_slice, not_bool, pick_true, pick_false, b_lss, b_leq, b_gtr, b_geq, b_eql, b_neq, b_add, b_sub, lift1_some, ev_tmp, ev_const, eput_app, eput_none, List.map_cons, List.map_nil, Nat.reduceEqDiff, Nat.succ_ne_self, Nat.reduceBEq, ↓reduceIte, reduceIte, decide_true, decide_false, Bool.not_true, Bool.not_false, if_true_left, Nat.one_ne_zero, Nat.zero_ne_one, not_true_eq_false, not_false_eq_true, S_nilc, nilc_ptr, S_ext, ext0, ext1, h0, h1, h7, h8]
    refine br_of ?_ ?_ <;> intro hA
    · have hj' : j < l.length := by simpa using hA
      obtain ⟨b, cs, rfl, hs', hI⟩ := hat j l[j] (by simp [hj'])
      cases hI
      have hc := kn1.see2 hs'
      simp only [W_skip, W_ops, W_sops, W_seq, W_block, W_exit, W_ret, W_cond, U_seq, U_seq_exit, U_seq_ret, U_blk, U_blk_ret, U_blk_exit, again_exit', again_ret', again_normal', U_ret1, S_nil, S_gd, S_ld, S_lda, S_fld, S_len, S_ix, S_call, S_callv, S_func, S_move, S_assign, S_pick, S_bin, S_not, gdo_tt, gdo_ff, gdo_tf, gdo_ft, br_true, br_false, fin_val, ldV_ptr, ldaV_ptr, fldV_ptr, lenV_slice, not_bool, pick_true, pick_false, b_lss, b_leq, b_gtr, b_geq, b_eql, b_neq, b_add, b_sub, lift1_some, ev_tmp, ev_const, eput_app, eput_none, List.map_cons, List.map_nil, Nat.reduceEqDiff, Nat.succ_ne_self, Nat.reduceBEq, ↓reduceIte, reduceIte, decide_true, decide_false, Bool.not_true, Bool.not_false, if_true_left, Nat.one_ne_zero, Nat.zero_ne_one, not_true_eq_false, not_false_eq_true, S_nilc, nilc_ptr, S_ext, ext0, ext1, h0, h1, h7, h8, ixV_at hj', hc]
      rw [callW3 hs]
      simp only [W_skip, W_ops, W_sops, W_seq, W_block, W_exit, W_ret, W_cond, U_seq, U_seq_exit, U_seq_ret, U_blk, U_blk_ret, U_blk_exit, again_exit', again_ret', again_normal', U_ret1, S_nil, S_gd, S_ld, S_lda, S_fld, S_len, S_ix, S_call, S_callv, S_func, S_move, S_assign, S_pick, S_bin, S_not, gdo_tt, gdo_ff, gdo_tf, gdo_ft, br_true, br_false, fin_val, ldV_ptr, ldaV_ptr, fldV_ptr, lenV_slice, not_bool, pick_true, pick_false, b_lss, b_leq, b_gtr, b_geq, b_eql, b_neq, b_add, b_sub, lift1_some, ev_tmp, ev_const, eput_app, eput_none, List.map_cons, List.map_nil, Nat.reduceEqDiff, Nat.succ_ne_self, Nat.reduceBEq, ↓reduceIte, reduceIte, decide_true, decide_false, Bool.not_true, Bool.not_false, if_true_left, Nat.one_ne_zero, Nat.zero_ne_one, not_true_eq_false, not_false_eq_true, S_nilc, nilc_ptr, S_ext, ext0, ext1, List.cons_append, List.nil_append]
      refine call_then (hf l[j] (List.getElem_mem hj') H1 fr) ?_
      rintro _ H2 ⟨rfl, f2⟩ wf2
      have fr2 := fr.trans f2
      rw [cont_app]
      have etake : (l.take (j + 1)).any p = p l[j] := by
        rw [List.take_add_one, List.any_append, ok, List.getElem?_eq_getElem hj']
        simp
      cases hp : p l[j] with
      | true =>
        simp only [W_skip, W_ops, W_sops, W_seq, W_block, W_exit, W_ret, W_cond, U_seq, U_seq_exit, U_seq_ret, U_blk, U_blk_ret, U_blk_exit, again_exit', again_ret', again_normal', U_ret1, S_nil, S_gd, S_ld, S_lda, S_fld, S_len, S_ix, S_call, S_callv, S_func, S_move, S_assign, S_pick, S_bin, S_not, gdo_tt, gdo_ff, gdo_tf, gdo_ft, br_true, br_false, fin_val, ldV_ptr, ldaV_ptr, fldV_ptr, lenV_slice, not_bool, pick_true, pick_false, b_lss, b_leq, b_gtr, b_geq, b_eql, b_neq, b_add, b_sub, lift1_some, ev_tmp, ev_const, eput_app, eput_none, List.map_cons, List.map_nil, Nat.reduceEqDiff, Nat.succ_ne_self, Nat.reduceBEq, ↓reduceIte, reduceIte, decide_true, decide_false, Bool.not_true, Bool.not_false, if_true_left, Nat.one_ne_zero, Nat.zero_ne_one, not_true_eq_false, not_false_eq_true, S_nilc, nilc_ptr, S_ext, ext0, ext1]
        refine ⟨⟨_, rfl, ?_⟩, fr2⟩
        refine ⟨fun _ => ?_, fun _ => by omega⟩
        rw [List.any_eq_true]
        exact ⟨l[j], List.getElem_mem hj', hp⟩
      | false =>
        simp only [W_skip, W_ops, W_sops, W_seq, W_block, W_exit, W_ret, W_cond, U_seq, U_seq_exit, U_seq_ret, U_blk, U_blk_ret, U_blk_exit, again_exit', again_ret', again_normal', U_ret1, S_nil, S_gd, S_ld, S_lda, S_fld, S_len, S_ix, S_call, S_callv, S_func, S_move, S_assign, S_pick, S_bin, S_not, gdo_tt, gdo_ff, gdo_tf, gdo_ft, br_true, br_false, fin_val, ldV_ptr, ldaV_ptr, fldV_ptr, lenV_slice, not_bool, pick_true, pick_false, b_lss, b_leq, b_gtr, b_geq, b_eql, b_neq, b_add, b_sub, lift1_some, ev_tmp, ev_const, eput_app, eput_none, List.map_cons, List.map_nil, Nat.reduceEqDiff, Nat.succ_ne_self, Nat.reduceBEq, ↓reduceIte, reduceIte, decide_true, decide_false, Bool.not_true, Bool.not_false, if_true_left, Nat.one_ne_zero, Nat.zero_ne_one, not_true_eq_false, not_false_eq_true, S_nilc, nilc_ptr, S_ext, ext0, ext1, h0, h1, h7, h8]
        refine ⟨l.length - (j + 1), by omega, j + 1, rfl, hj', trivial, trivial, trivial, by rw [wrap_succ (by omega)], fr2, ?_⟩
        rw [etake, hp]
    · have hj' : j = l.length := by simp at hA; omega
      subst hj'
      rw [List.take_length] at ok
      simp only [W_skip, W_ops, W_sops, W_seq, W_block, W_exit, W_ret, W_cond, U_seq, U_seq_exit, U_seq_ret, U_blk, U_blk_ret, U_blk_exit, again_exit', again_ret', again_normal', U_ret1, S_nil, S_gd, S_ld, S_lda, S_fld, S_len, S_ix, S_call, S_callv, S_func, S_move, S_assign, S_pick, S_bin, S_not, gdo_tt, gdo_ff, gdo_tf, gdo_ft, br_true, br_false, fin_val, ldV_ptr, ldaV_ptr, fldV_ptr, lenV_slice, not_bool, pick_true, pick_false, b_lss, b_leq, b_gtr, b_geq, b_eql, b_neq, b_add, b_sub, lift1_some, ev_tmp, ev_const, eput_app, eput_none, List.map_cons, List.map_nil, Nat.reduceEqDiff, Nat.succ_ne_self, Nat.reduceBEq, ↓reduceIte, reduceIte, decide_true, decide_false, Bool.not_true, Bool.not_false, if_true_left, Nat.one_ne_zero, Nat.zero_ne_one, not_true_eq_false, not_false_eq_true, S_nilc, nilc_ptr, S_ext, ext0, ext1]
      exact ⟨⟨_, rfl, by simp [ok]⟩, fr⟩
  · simp only [W_skip, W_ops, W_sops, W_seq, W_block, W_exit, W_ret, W_cond, U_seq, U_seq_exit, U_seq_ret, U_blk, U_blk_ret, U_blk_exit, again_exit', again_ret', again_normal', U_ret1, S_nil, S_gd, S_ld, S_lda, S_fld, S_len, S_ix, S_call, S_callv, S_func, S_move, S_assign, S_pick, S_bin, S_not, gdo_tt, gdo_ff, gdo_tf, gdo_ft, br_true, br_false, fin_val, ldV_ptr, ldaV_ptr, fldV_ptr, lenV_slice, not_bool, pick_true, pick_false, b_lss, b_leq, b_gtr, b_geq, b_eql, b_neq, b_add, b_sub, lift1_some, ev_tmp, ev_const, eput_app, eput_none, List.map_cons, List.map_nil, Nat.reduceEqDiff, Nat.succ_ne_self, Nat.reduceBEq, ↓reduceIte, reduceIte, decide_true, decide_false, Bool.not_true, Bool.not_false, if_true_left, Nat.one_ne_zero, Nat.zero_ne_one, not_true_eq_false, not_false_eq_true, S_nilc, nilc_ptr, S_ext, ext0, ext1, f2_0, f2_1]
    simp [Fr.refl]

theorem contains134 {H : Heap} {v : Value} {l : List Nd} {fn : FuncId} {x y z : Value} {p : Nd → Bool} (hv : IsAlt H.get v l) (hs : TY.same fn = false)
    (hf : ∀ u ∈ l, ∀ H', Fr H H' → SC Tryz.prog fn #[ndV u, x, y, z] H' (fun r H'' => r = .bool (p u) ∧ Fr H' H'')) :
    SC Tryz.prog 134 #[v, .func (.func fn) #[] #[x, y, z]] H (fun r H' => r = .bool (l.any p) ∧ Fr H H') := by
  refine SC_of_W fc134 (by simp) fun hwf => ?_
  unfold c134
  simp only [W_skip, W_ops, W_sops, W_seq, W_block, W_exit, W_ret, W_cond, U_seq, U_seq_exit, U_seq_ret, U_blk, U_blk_ret, U_blk_exit, again_exit', again_ret', again_normal', U_ret1, S_nil, S_gd, S_ld, S_lda, S_fld, S_len, S_ix, S_call, S_callv, S_func, S_move, S_assign, S_pick, S_bin, S_not, gdo_tt, gdo_ff, gdo_tf, gdo_ft, br_true, br_false, fin_val, ldV_ptr, ldaV_ptr, fldV_ptr, lenV_slice, not_bool, pick_true, pick_false, b_lss, b_leq, b_gtr, b_geq, b_eql, b_neq, b_add, b_sub, lift1_some, ev_tmp, ev_const, eput_app, eput_none, List.map_cons, List.map_nil, Nat.reduceEqDiff, Nat.succ_ne_self, Nat.reduceBEq, ↓reduceIte, reduceIte, decide_true, decide_false, Bool.not_true, Bool.not_false, if_true_left, Nat.one_ne_zero, Nat.zero_ne_one, not_true_eq_false, not_false_eq_true, S_nilc, nilc_ptr, S_ext, ext0, ext1, f2_0, f2_1]
  refine call_then (index197 hv hs hf) ?_
  rintro _ H2 ⟨⟨i, rfl, hi⟩, f2⟩ wf2
  rw [cont_app]
  simp only [W_skip, W_ops, W_sops, W_seq, W_block, W_exit, W_ret, W_cond, U_seq, U_seq_exit, U_seq_ret, U_blk, U_blk_ret, U_blk_exit, again_exit', again_ret', again_normal', U_ret1, S_nil, S_gd, S_ld, S_lda, S_fld, S_len, S_ix, S_call, S_callv, S_func, S_move, S_assign, S_pick, S_bin, S_not, gdo_tt, gdo_ff, gdo_tf, gdo_ft, br_true, br_false, fin_val, ldV_ptr, ldaV_ptr, fldV_ptr, lenV_slice, not_bool, pick_true, pick_false, b_lss, b_leq, b_gtr, b_geq, b_eql, b_neq, b_add, b_sub, lift1_some, ev_tmp, ev_const, eput_app, eput_none, List.map_cons, List.map_nil, Nat.reduceEqDiff, Nat.succ_ne_self, Nat.reduceBEq, ↓reduceIte, reduceIte, decide_true, decide_false, Bool.not_true, Bool.not_false, if_true_left, Nat.one_ne_zero, Nat.zero_ne_one, not_true_eq_false, not_false_eq_true, S_nilc, nilc_ptr, S_ext, ext0, ext1]
  refine ⟨?_, f2⟩
  congr 1
  rw [Bool.eq_iff_iff, ← hi]; simp

theorem compare198 {H : Heap} {v w : Value} {a b : List Nd} (hv : IsAlt H.get v a) (hw : IsAlt H.get w b) (ha : ∀ x ∈ a, Bd x) (hb : ∀ x ∈ b, Bd x) :
    SC Tryz.prog 198 #[v, w, .func (.func 136) #[] #[]] H (fun v H' => (∃ r, v = .int .i64 r ∧ Cmp r (ltL a b = true) (a = b)) ∧ Fr H H') := by
  refine SC_of_W fc198 (by simp) fun hwf => ?_
  obtain ⟨p, c, rfl, hlen, hat⟩ := hv
  obtain ⟨q, d, rfl, hlen2, hat2⟩ := hw
  have kn := Kn.self hwf
  unfold c198
  simp only [W_skip, W_ops, W_sops, W_seq, W_block, W_exit, W_ret, W_cond, U_seq, U_seq_exit, U_seq_ret, U_blk, U_blk_ret, U_blk_exit, again_exit', again_ret', again_normal', U_ret1, S_nil, S_gd, S_ld, S_lda, S_fld, S_len, S_ix, S_call, S_callv, S_func, S_move, S_assign, S_pick, S_bin, S_not, gdo_tt, gdo_ff, gdo_tf, gdo_ft, br_true, br_false, fin_val, ldV_ptr, ldaV_ptr, fldV_ptr, lenV_slice, not_bool, pick_true, pick_false, b_lss, b_leq, b_gtr, b_geq, b_eql, b_neq, b_add, b_sub, lift1_some, ev_tmp, ev_const, eput_app, eput_none, List.map_cons, List.map_nil, Nat.reduceEqDiff, Nat.succ_ne_self, Nat.reduceBEq, ↓reduceIte, reduceIte, decide_true, decide_false, Bool.not_true, Bool.not_false, if_true_left, Nat.one_ne_zero, Nat.zero_ne_one, not_true_eq_false, not_false_eq_true, S_nilc, nilc_ptr, S_ext, ext0, ext1, f3_0, f3_1]
  refine W_loop (fun k g H1 => ∃ j, k = a.length - j ∧ j ≤ a.length ∧ j ≤ b.length ∧ g 0 = .slice p a.length c ∧ g 1 = .slice q b.length d ∧ g 2 = .func (.func 136) #[] #[] ∧ g 11 = .slice p a.length c ∧ g 12 = .int .i64 a.length ∧ g 13 = .int .i64 (j : Nat) ∧ Fr H H1 ∧ ltL a b = ltL (a.drop j) (b.drop j) ∧ (a = b ↔ a.drop j = b.drop j)) ?_ a.length ⟨0, ?_⟩
  · rintro k g H1 ⟨j, rfl, hj, hj2, h0, h1, h2, h11, h12, h13, fr, e1, e2⟩
    have kn1 := kn.fr fr
    simp only [W_skip, W_ops, W_sops, W_seq, W_block, W_exit, W_ret, W_cond, U_seq, U_seq_exit, U_seq_ret, U_blk, U_blk_ret, U_blk_exit, again_exit', again_ret', again_normal', U_ret1, S_nil, S_gd, S_ld, S_lda, S_fld, S_len, S_ix, S_call, S_callv, S_func, S_move, S_assign, S_pick, S_bin, S_not, gdo_tt, gdo_ff, gdo_tf, gdo_ft, br_true, br_false, fin_val, ldV_ptr, ldaV_ptr, fldV_ptr, lenV_slice, not_bool, pick_true, pick_false, b_lss, b_leq, b_gtr, b_geq, b_eql, b_neq, b_add, b_sub, lift1_some, ev_tmp, ev_const, eput_app, eput_none, List.map_cons, List.map_nil, Nat.reduceEqDiff, Nat.succ_ne_self, Nat.reduceBEq, ↓reduceIte, reduceIte, decide_true, decide_false, Bool.not_true, Bool.not_false, if_true_left, Nat.one_ne_zero, Nat.zero_ne_one, not_true_eq_false, not_false_eq_true, S_nilc, nilc_ptr, S_ext, ext0, ext1, h0, h1, h2, h11, h12, h13]
    refine br_of ?_ ?_ <;> intro hA
    · have hj' : j < a.length := by simpa using hA
      obtain ⟨x1, cs, rfl, hs, hI⟩ := hat j a[j] (by simp [hj'])
      cases hI
      have hc := kn1.see2 hs
      simp only [W_skip, W_ops, W_sops, W_seq, W_block, W_exit, W_ret, W_cond, U_seq, U_seq_exit, U_seq_ret, U_blk, U_blk_ret, U_blk_exit, again_exit', again_ret', again_normal', U_ret1, S_nil, S_gd, S_ld, S_lda, S_fld, S_len, S_ix, S_call, S_callv, S_func, S_move, S_assign, S_pick, S_bin, S_not, gdo_tt, gdo_ff, gdo_tf, gdo_ft, br_true, br_false, fin_val, ldV_ptr, ldaV_ptr, fldV_ptr, lenV_slice, not_bool, pick_true, pick_false, b_lss, b_leq, b_gtr, b_geq, b_eql, b_neq, b_add, b_sub, lift1_some, ev_tmp, ev_const, eput_app, eput_none, List.map_cons, List.map_nil, Nat.reduceEqDiff, Nat.succ_ne_self, Nat.reduceBEq, ↓reduceIte, reduceIte, decide_true, decide_false, Bool.not_true, Bool.not_false, if_true_left, Nat.one_ne_zero, Nat.zero_ne_one, not_true_eq_false, not_false_eq_true, S_nilc, nilc_ptr, S_ext, ext0, ext1, h0, h1, h2, h11, h12, h13, ixV_at hj', hc]
      refine S_alloc fun H2 f2 n2 g2 => ?_
      simp only [W_skip, W_ops, W_sops, W_seq, W_block, W_exit, W_ret, W_cond, U_seq, U_seq_exit, U_seq_ret, U_blk, U_blk_ret, U_blk_exit, again_exit', again_ret', again_normal', U_ret1, S_nil, S_gd, S_ld, S_lda, S_fld, S_len, S_ix, S_call, S_callv, S_func, S_move, S_assign, S_pick, S_bin, S_not, gdo_tt, gdo_ff, gdo_tf, gdo_ft, br_true, br_false, fin_val, ldV_ptr, ldaV_ptr, fldV_ptr, lenV_slice, not_bool, pick_true, pick_false, b_lss, b_leq, b_gtr, b_geq, b_eql, b_neq, b_add, b_sub, lift1_some, ev_tmp, ev_const, eput_app, eput_none, List.map_cons, List.map_nil, Nat.reduceEqDiff, Nat.succ_ne_self, Nat.reduceBEq, ↓reduceIte, reduceIte, decide_true, decide_false, Bool.not_true, Bool.not_false, if_true_left, Nat.one_ne_zero, Nat.zero_ne_one, not_true_eq_false, not_false_eq_true, S_nilc, nilc_ptr, S_ext, ext0, ext1]
      refine S_store (id := H1.nxt) (off := 0) (by simp only [W_skip, W_ops, W_sops, W_seq, W_block, W_exit, W_ret, W_cond, U_seq, U_seq_exit, U_seq_ret, U_blk, U_blk_ret, U_blk_exit, again_exit', again_ret', again_normal', U_ret1, S_nil, S_gd, S_ld, S_lda, S_fld, S_len, S_ix, S_call, S_callv, S_func, S_move, S_assign, S_pick, S_bin, S_not, gdo_tt, gdo_ff, gdo_tf, gdo_ft, br_true, br_false, fin_val, ldV_ptr, ldaV_ptr, fldV_ptr, lenV_slice, not_bool, pick_true, pick_false, b_lss, b_leq, b_gtr, b_geq, b_eql, b_neq, b_add, b_sub, lift1_some, ev_tmp, ev_const, eput_app, eput_none, List.map_cons, List.map_nil, Nat.reduceEqDiff, Nat.succ_ne_self, Nat.reduceBEq, ↓reduceIte, reduceIte, decide_true, decide_false, Bool.not_true, Bool.not_false, if_true_left, Nat.one_ne_zero, Nat.zero_ne_one, not_true_eq_false, not_false_eq_true, S_nilc, nilc_ptr, S_ext, ext0, ext1]) (by simp only [W_skip, W_ops, W_sops, W_seq, W_block, W_exit, W_ret, W_cond, U_seq, U_seq_exit, U_seq_ret, U_blk, U_blk_ret, U_blk_exit, again_exit', again_ret', again_normal', U_ret1, S_nil, S_gd, S_ld, S_lda, S_fld, S_len, S_ix, S_call, S_callv, S_func, S_move, S_assign, S_pick, S_bin, S_not, gdo_tt, gdo_ff, gdo_tf, gdo_ft, br_true, br_false, fin_val, ldV_ptr, ldaV_ptr, fldV_ptr, lenV_slice, not_bool, pick_true, pick_false, b_lss, b_leq, b_gtr, b_geq, b_eql, b_neq, b_add, b_sub, lift1_some, ev_tmp, ev_const, eput_app, eput_none, List.map_cons, List.map_nil, Nat.reduceEqDiff, Nat.succ_ne_self, Nat.reduceBEq, ↓reduceIte, reduceIte, decide_true, decide_false, Bool.not_true, Bool.not_false, if_true_left, Nat.one_ne_zero, Nat.zero_ne_one, not_true_eq_false, not_false_eq_true, S_nilc, nilc_ptr, S_ext, ext0, ext1]; rfl) (by omega) g2 (by simp) (by simp) (by simp only [W_skip, W_ops, W_sops, W_seq, W_block, W_exit, W_ret, W_cond, U_seq, U_seq_exit, U_seq_ret, U_blk, U_blk_ret, U_blk_exit, again_exit', again_ret', again_normal', U_ret1, S_nil, S_gd, S_ld, S_lda, S_fld, S_len, S_ix, S_call, S_callv, S_func, S_move, S_assign, S_pick, S_bin, S_not, gdo_tt, gdo_ff, gdo_tf, gdo_ft, br_true, br_false, fin_val, ldV_ptr, ldaV_ptr, fldV_ptr, lenV_slice, not_bool, pick_true, pick_false, b_lss, b_leq, b_gtr, b_geq, b_eql, b_neq, b_add, b_sub, lift1_some, ev_tmp, ev_const, eput_app, eput_none, List.map_cons, List.map_nil, Nat.reduceEqDiff, Nat.succ_ne_self, Nat.reduceBEq, ↓reduceIte, reduceIte, decide_true, decide_false, Bool.not_true, Bool.not_false, if_true_left, Nat.one_ne_zero, Nat.zero_ne_one, not_true_eq_false, not_false_eq_true, S_nilc, nilc_ptr, S_ext, ext0, ext1]; simp [Value.cells, Value.oneCell']) fun H3 n3 o3 g3 => ?_
      simp only [W_skip, W_ops, W_sops, W_seq, W_block, W_exit, W_ret, W_cond, U_seq, U_seq_exit, U_seq_ret, U_blk, U_blk_ret, U_blk_exit, again_exit', again_ret', again_normal', U_ret1, S_nil, S_gd, S_ld, S_lda, S_fld, S_len, S_ix, S_call, S_callv, S_func, S_move, S_assign, S_pick, S_bin, S_not, gdo_tt, gdo_ff, gdo_tf, gdo_ft, br_true, br_false, fin_val, ldV_ptr, ldaV_ptr, fldV_ptr, lenV_slice, not_bool, pick_true, pick_false, b_lss, b_leq, b_gtr, b_geq, b_eql, b_neq, b_add, b_sub, lift1_some, ev_tmp, ev_const, eput_app, eput_none, List.map_cons, List.map_nil, Nat.reduceEqDiff, Nat.succ_ne_self, Nat.reduceBEq, ↓reduceIte, reduceIte, decide_true, decide_false, Bool.not_true, Bool.not_false, if_true_left, Nat.one_ne_zero, Nat.zero_ne_one, not_true_eq_false, not_false_eq_true, S_nilc, nilc_ptr, S_ext, ext0, ext1, Value.cells, putL] at g3 ⊢
      have fr3 : Fr H H3 := (fr.trans f2).upd fr.nxt n3 o3
      simp only [W_skip, W_ops, W_sops, W_seq, W_block, W_exit, W_ret, W_cond, U_seq, U_seq_exit, U_seq_ret, U_blk, U_blk_ret, U_blk_exit, again_exit', again_ret', again_normal', U_ret1, S_nil, S_gd, S_ld, S_lda, S_fld, S_len, S_ix, S_call, S_callv, S_func, S_move, S_assign, S_pick, S_bin, S_not, gdo_tt, gdo_ff, gdo_tf, gdo_ft, br_true, br_false, fin_val, ldV_ptr, ldaV_ptr, fldV_ptr, lenV_slice, not_bool, pick_true, pick_false, b_lss, b_leq, b_gtr, b_geq, b_eql, b_neq, b_add, b_sub, lift1_some, ev_tmp, ev_const, eput_app, eput_none, List.map_cons, List.map_nil, Nat.reduceEqDiff, Nat.succ_ne_self, Nat.reduceBEq, ↓reduceIte, reduceIte, decide_true, decide_false, Bool.not_true, Bool.not_false, if_true_left, Nat.one_ne_zero, Nat.zero_ne_one, not_true_eq_false, not_false_eq_true, S_nilc, nilc_ptr, S_ext, ext0, ext1, h1]
      refine br_of ?_ ?_ <;> intro hB
      · have hj2' : j = b.length := by simp at hB; omega
        subst hj2'
        rw [drop_cons hj', List.drop_length] at e1 e2
        simp only [W_skip, W_ops, W_sops, W_seq, W_block, W_exit, W_ret, W_cond, U_seq, U_seq_exit, U_seq_ret, U_blk, U_blk_ret, U_blk_exit, again_exit', again_ret', again_normal', U_ret1, S_nil, S_gd, S_ld, S_lda, S_fld, S_len, S_ix, S_call, S_callv, S_func, S_move, S_assign, S_pick, S_bin, S_not, gdo_tt, gdo_ff, gdo_tf, gdo_ft, br_true, br_false, fin_val, ldV_ptr, ldaV_ptr, fldV_ptr, lenV_slice, not_bool, pick_true, pick_false, b_lss, b_leq, b_gtr, b_geq, b_eql, b_neq, b_add, b_sub, lift1_some, ev_tmp, ev_const, eput_app, eput_none, List.map_cons, List.map_nil, Nat.reduceEqDiff, Nat.succ_ne_self, Nat.reduceBEq, ↓reduceIte, reduceIte, decide_true, decide_false, Bool.not_true, Bool.not_false, if_true_left, Nat.one_ne_zero, Nat.zero_ne_one, not_true_eq_false, not_false_eq_true, S_nilc, nilc_ptr, S_ext, ext0, ext1]
        refine ⟨⟨1, rfl, ?_, ?_⟩, fr3⟩
        · rw [e1]; simp [ltL]
        · rw [e2]; simp; omega
      · have hj2' : j < b.length := by simp at hB; omega
        obtain ⟨x2, cs2, rfl, hs2, hI2⟩ := hat2 j b[j] (by simp [hj2'])
        cases hI2
        have hc2 := (kn.fr fr3).see2 hs2
        simp only [W_skip, W_ops, W_sops, W_seq, W_block, W_exit, W_ret, W_cond, U_seq, U_seq_exit, U_seq_ret, U_blk, U_blk_ret, U_blk_exit, again_exit', again_ret', again_normal', U_ret1, S_nil, S_gd, S_ld, S_lda, S_fld, S_len, S_ix, S_call, S_callv, S_func, S_move, S_assign, S_pick, S_bin, S_not, gdo_tt, gdo_ff, gdo_tf, gdo_ft, br_true, br_false, fin_val, ldV_ptr, ldaV_ptr, fldV_ptr, lenV_slice, not_bool, pick_true, pick_false, b_lss, b_leq, b_gtr, b_geq, b_eql, b_neq, b_add, b_sub, lift1_some, ev_tmp, ev_const, eput_app, eput_none, List.map_cons, List.map_nil, Nat.reduceEqDiff, Nat.succ_ne_self, Nat.reduceBEq, ↓reduceIte, reduceIte, decide_true, decide_false, Bool.not_true, Bool.not_false, if_true_left, Nat.one_ne_zero, Nat.zero_ne_one, not_true_eq_false, not_false_eq_true, S_nilc, nilc_ptr, S_ext, ext0, ext1, h1, ixV_at hj2', hc2]
        refine S_alloc fun H4 f4 n4 g4 => ?_
        refine S_store (id := H3.nxt) (off := 0) (by simp only [W_skip, W_ops, W_sops, W_seq, W_block, W_exit, W_ret, W_cond, U_seq, U_seq_exit, U_seq_ret, U_blk, U_blk_ret, U_blk_exit, again_exit', again_ret', again_normal', U_ret1, S_nil, S_gd, S_ld, S_lda, S_fld, S_len, S_ix, S_call, S_callv, S_func, S_move, S_assign, S_pick, S_bin, S_not, gdo_tt, gdo_ff, gdo_tf, gdo_ft, br_true, br_false, fin_val, ldV_ptr, ldaV_ptr, fldV_ptr, lenV_slice, not_bool, pick_true, pick_false, b_lss, b_leq, b_gtr, b_geq, b_eql, b_neq, b_add, b_sub, lift1_some, ev_tmp, ev_const, eput_app, eput_none, List.map_cons, List.map_nil, Nat.reduceEqDiff, Nat.succ_ne_self, Nat.reduceBEq, ↓reduceIte, reduceIte, decide_true, decide_false, Bool.not_true, Bool.not_false, if_true_left, Nat.one_ne_zero, Nat.zero_ne_one, not_true_eq_false, not_false_eq_true, S_nilc, nilc_ptr, S_ext, ext0, ext1]) (by simp only [W_skip, W_ops, W_sops, W_seq, W_block, W_exit, W_ret, W_cond, U_seq, U_seq_exit, U_seq_ret, U_blk, U_blk_ret, U_blk_exit, again_exit', again_ret', again_normal', U_ret1, S_nil, S_gd, S_ld, S_lda, S_fld, S_len, S_ix, S_call, S_callv, S_func, S_move, S_assign, S_pick, S_bin, S_not, gdo_tt, gdo_ff, gdo_tf, gdo_ft, br_true, br_false, fin_val, ldV_ptr, ldaV_ptr, fldV_ptr, lenV_slice, not_bool, pick_true, pick_false, b_lss, b_leq, b_gtr, b_geq, b_eql, b_neq, b_add, b_sub, lift1_some, ev_tmp, ev_const, eput_app, eput_none, List.map_cons, List.map_nil, Nat.reduceEqDiff, Nat.succ_ne_self, Nat.reduceBEq, ↓reduceIte, reduceIte, decide_true, decide_false, Bool.not_true, Bool.not_false, if_true_left, Nat.one_ne_zero, Nat.zero_ne_one, not_true_eq_false, not_false_eq_true, S_nilc, nilc_ptr, S_ext, ext0, ext1]; rfl) (by omega) g4 (by simp) (by simp) (by simp only [W_skip, W_ops, W_sops, W_seq, W_block, W_exit, W_ret, W_cond, U_seq, U_seq_exit, U_seq_ret, U_blk, U_blk_ret, U_blk_exit, again_exit', again_ret', again_normal', U_ret1, S_nil, S_gd, S_ld, S_lda, S_fld, S_len, S_ix, S_call, S_callv, S_func, S_move, S_assign, S_pick, S_bin, S_not, gdo_tt, gdo_ff, gdo_tf, gdo_ft, br_true, br_false, fin_val, ldV_ptr, ldaV_ptr, fldV_ptr, lenV_slice, not_bool, pick_true, pick_false, b_lss, b_leq, b_gtr, b_geq, b_eql, b_neq, b_add, b_sub, lift1_some, ev_tmp, ev_const, eput_app, eput_none, List.map_cons, List.map_nil, Nat.reduceEqDiff, Nat.succ_ne_self, Nat.reduceBEq, ↓reduceIte, reduceIte, decide_true, decide_false, Bool.not_true, Bool.not_false, if_true_left, Nat.one_ne_zero, Nat.zero_ne_one, not_true_eq_false, not_false_eq_true, S_nilc, nilc_ptr, S_ext, ext0, ext1]; simp [Value.cells, Value.oneCell']) fun H5 n5 o5 g5 => ?_
        simp only [W_skip, W_ops, W_sops, W_seq, W_block, W_exit, W_ret, W_cond, U_seq, U_seq_exit, U_seq_ret, U_blk, U_blk_ret, U_blk_exit, again_exit', again_ret', again_normal', U_ret1, S_nil, S_gd, S_ld, S_lda, S_fld, S_len, S_ix, S_call, S_callv, S_func, S_move, S_assign, S_pick, S_bin, S_not, gdo_tt, gdo_ff, gdo_tf, gdo_ft, br_true, br_false, fin_val, ldV_ptr, ldaV_ptr, fldV_ptr, lenV_slice, not_bool, pick_true, pick_false, b_lss, b_leq, b_gtr, b_geq, b_eql, b_neq, b_add, b_sub, lift1_some, ev_tmp, ev_const, eput_app, eput_none, List.map_cons, List.map_nil, Nat.reduceEqDiff, Nat.succ_ne_self, Nat.reduceBEq, ↓reduceIte, reduceIte, decide_true, decide_false, Bool.not_true, Bool.not_false, if_true_left, Nat.one_ne_zero, Nat.zero_ne_one, not_true_eq_false, not_false_eq_true, S_nilc, nilc_ptr, S_ext, ext0, ext1, Value.cells, putL] at g5 ⊢
        have fr5 : Fr H H5 := (fr3.trans f4).upd fr3.nxt n5 o5
        have g3' : H5.get H1.nxt = _ := (o5 H1.nxt (by omega)).trans ((f4.old _ (by omega)).trans g3)
        simp only [W_skip, W_ops, W_sops, W_seq, W_block, W_exit, W_ret, W_cond, U_seq, U_seq_exit, U_seq_ret, U_blk, U_blk_ret, U_blk_exit, again_exit', again_ret', again_normal', U_ret1, S_nil, S_gd, S_ld, S_lda, S_fld, S_len, S_ix, S_call, S_callv, S_func, S_move, S_assign, S_pick, S_bin, S_not, gdo_tt, gdo_ff, gdo_tf, gdo_ft, br_true, br_false, fin_val, ldV_ptr, ldaV_ptr, fldV_ptr, lenV_slice, not_bool, pick_true, pick_false, b_lss, b_leq, b_gtr, b_geq, b_eql, b_neq, b_add, b_sub, lift1_some, ev_tmp, ev_const, eput_app, eput_none, List.map_cons, List.map_nil, Nat.reduceEqDiff, Nat.succ_ne_self, Nat.reduceBEq, ↓reduceIte, reduceIte, decide_true, decide_false, Bool.not_true, Bool.not_false, if_true_left, Nat.one_ne_zero, Nat.zero_ne_one, not_true_eq_false, not_false_eq_true, S_nilc, nilc_ptr, S_ext, ext0, ext1, h2, own_cells2 g3' rfl rfl, own_cells2 g5 rfl rfl]
        rw [callW0 same136]
        simp only [W_skip, W_ops, W_sops, W_seq, W_block, W_exit, W_ret, W_cond, U_seq, U_seq_exit, U_seq_ret, U_blk, U_blk_ret, U_blk_exit, again_exit', again_ret', again_normal', U_ret1, S_nil, S_gd, S_ld, S_lda, S_fld, S_len, S_ix, S_call, S_callv, S_func, S_move, S_assign, S_pick, S_bin, S_not, gdo_tt, gdo_ff, gdo_tf, gdo_ft, br_true, br_false, fin_val, ldV_ptr, ldaV_ptr, fldV_ptr, lenV_slice, not_bool, pick_true, pick_false, b_lss, b_leq, b_gtr, b_geq, b_eql, b_neq, b_add, b_sub, lift1_some, ev_tmp, ev_const, eput_app, eput_none, List.map_cons, List.map_nil, Nat.reduceEqDiff, Nat.succ_ne_self, Nat.reduceBEq, ↓reduceIte, reduceIte, decide_true, decide_false, Bool.not_true, Bool.not_false, if_true_left, Nat.one_ne_zero, Nat.zero_ne_one, not_true_eq_false, not_false_eq_true, S_nilc, nilc_ptr, S_ext, ext0, ext1]
        refine call_then (before136 (a := a[j]) (b := b[j]) (ha _ (List.getElem_mem hj')) (hb _ (List.getElem_mem hj2'))) ?_
        rintro _ H6 ⟨⟨r, rfl, hr⟩, f6⟩ wf6
        have fr6 := fr5.trans f6
        rw [cont_app]
        simp only [W_skip, W_ops, W_sops, W_seq, W_block, W_exit, W_ret, W_cond, U_seq, U_seq_exit, U_seq_ret, U_blk, U_blk_ret, U_blk_exit, again_exit', again_ret', again_normal', U_ret1, S_nil, S_gd, S_ld, S_lda, S_fld, S_len, S_ix, S_call, S_callv, S_func, S_move, S_assign, S_pick, S_bin, S_not, gdo_tt, gdo_ff, gdo_tf, gdo_ft, br_true, br_false, fin_val, ldV_ptr, ldaV_ptr, fldV_ptr, lenV_slice, not_bool, pick_true, pick_false, b_lss, b_leq, b_gtr, b_geq, b_eql, b_neq, b_add, b_sub, lift1_some, ev_tmp, ev_const, eput_app, eput_none, List.map_cons, List.map_nil, Nat.reduceEqDiff, Nat.succ_ne_self, Nat.reduceBEq, ↓reduceIte, reduceIte, decide_true, decide_false, Bool.not_true, Bool.not_false, if_true_left, Nat.one_ne_zero, Nat.zero_ne_one, not_true_eq_false, not_false_eq_true, S_nilc, nilc_ptr, S_ext, ext0, ext1]
        refine br_of ?_ ?_ <;> intro hC
        · simp only [W_skip, W_ops, W_sops, W_seq, W_block, W_exit, W_ret, W_cond, U_seq, U_seq_exit, U_seq_ret, U_blk, U_blk_ret, U_blk_exit, again_exit', again_ret', again_normal', U_ret1, S_nil, S_gd, S_ld, S_lda, S_fld, S_len, S_ix, S_call, S_callv, S_func, S_move, S_assign, S_pick, S_bin, S_not, gdo_tt, gdo_ff, gdo_tf, gdo_ft, br_true, br_false, fin_val, ldV_ptr, ldaV_ptr, fldV_ptr, lenV_slice, not_bool, pick_true, pick_false, b_lss, b_leq, b_gtr, b_geq, b_eql, b_neq, b_add, b_sub, lift1_some, ev_tmp, ev_const, eput_app, eput_none, List.map_cons, List.map_nil, Nat.reduceEqDiff, Nat.succ_ne_self, Nat.reduceBEq, ↓reduceIte, reduceIte, decide_true, decide_false, Bool.not_true, Bool.not_false, if_true_left, Nat.one_ne_zero, Nat.zero_ne_one, not_true_eq_false, not_false_eq_true, S_nilc, nilc_ptr, S_ext, ext0, ext1]
          have hr0 : r ≠ 0 := by simpa using hC
          refine ⟨⟨r, rfl, ?_⟩, fr6⟩
          rw [e1, e2, drop_cons hj', drop_cons hj2']
          exact cmp_found hr hr0
        · simp only [W_skip, W_ops, W_sops, W_seq, W_block, W_exit, W_ret, W_cond, U_seq, U_seq_exit, U_seq_ret, U_blk, U_blk_ret, U_blk_exit, again_exit', again_ret', again_normal', U_ret1, S_nil, S_gd, S_ld, S_lda, S_fld, S_len, S_ix, S_call, S_callv, S_func, S_move, S_assign, S_pick, S_bin, S_not, gdo_tt, gdo_ff, gdo_tf, gdo_ft, br_true, br_false, fin_val, ldV_ptr, ldaV_ptr, fldV_ptr, lenV_slice, not_bool, pick_true, pick_false, b_lss, b_leq, b_gtr, b_geq, b_eql, b_neq, b_add, b_sub, lift1_some, ev_tmp, ev_const, eput_app, eput_none, List.map_cons, List.map_nil, Nat.reduceEqDiff, Nat.succ_ne_self, Nat.reduceBEq, ↓reduceIte, reduceIte, decide_true, decide_false, Bool.not_true, Bool.not_false, if_true_left, Nat.one_ne_zero, Nat.zero_ne_one, not_true_eq_false, not_false_eq_true, S_nilc, nilc_ptr, S_ext, ext0, ext1, h0, h1, h2, h11, h12, h13]
          have hr0 : r = 0 := by simpa using hC
          obtain ⟨s1, s2⟩ := cmp_step (l := a.drop (j + 1)) (m := b.drop (j + 1)) hr hr0
          refine ⟨a.length - (j + 1), by omega, j + 1, rfl, hj', hj2', trivial, trivial, trivial, trivial, trivial, by rw [wrap_succ (by omega)], fr6, ?_, ?_⟩
          · rw [e1, drop_cons hj', drop_cons hj2', s1]
          · rw [e2, drop_cons hj', drop_cons hj2', s2]
    · have hj' : j = a.length := by simp at hA; omega
      subst hj'
      rw [List.drop_length] at e1 e2
      simp only [W_skip, W_ops, W_sops, W_seq, W_block, W_exit, W_ret, W_cond, U_seq, U_seq_exit, U_seq_ret, U_blk, U_blk_ret, U_blk_exit, again_exit', again_ret', again_normal', U_ret1, S_nil, S_gd, S_ld, S_lda, S_fld, S_len, S_ix, S_call, S_callv, S_func, S_move, S_assign, S_pick, S_bin, S_not, gdo_tt, gdo_ff, gdo_tf, gdo_ft, br_true, br_false, fin_val, ldV_ptr, ldaV_ptr, fldV_ptr, lenV_slice, not_bool, pick_true, pick_false, b_lss, b_leq, b_gtr, b_geq, b_eql, b_neq, b_add, b_sub, lift1_some, ev_tmp, ev_const, eput_app, eput_none, List.map_cons, List.map_nil, Nat.reduceEqDiff, Nat.succ_ne_self, Nat.reduceBEq, ↓reduceIte, reduceIte, decide_true, decide_false, Bool.not_true, Bool.not_false, if_true_left, Nat.one_ne_zero, Nat.zero_ne_one, not_true_eq_false, not_false_eq_true, S_nilc, nilc_ptr, S_ext, ext0, ext1, h0, h1]
      refine br_of ?_ ?_ <;> intro hC
      · simp only [W_skip, W_ops, W_sops, W_seq, W_block, W_exit, W_ret, W_cond, U_seq, U_seq_exit, U_seq_ret, U_blk, U_blk_ret, U_blk_exit, again_exit', again_ret', again_normal', U_ret1, S_nil, S_gd, S_ld, S_lda, S_fld, S_len, S_ix, S_call, S_callv, S_func, S_move, S_assign, S_pick, S_bin, S_not, gdo_tt, gdo_ff, gdo_tf, gdo_ft, br_true, br_false, fin_val, ldV_ptr, ldaV_ptr, fldV_ptr, lenV_slice, not_bool, pick_true, pick_false, b_lss, b_leq, b_gtr, b_geq, b_eql, b_neq, b_add, b_sub, lift1_some, ev_tmp, ev_const, eput_app, eput_none, List.map_cons, List.map_nil, Nat.reduceEqDiff, Nat.succ_ne_self, Nat.reduceBEq, ↓reduceIte, reduceIte, decide_true, decide_false, Bool.not_true, Bool.not_false, if_true_left, Nat.one_ne_zero, Nat.zero_ne_one, not_true_eq_false, not_false_eq_true, S_nilc, nilc_ptr, S_ext, ext0, ext1]
        have hlt : a.length < b.length := by simpa using hC
        rw [drop_cons hlt] at e1 e2
        refine ⟨⟨-1, rfl, ?_, ?_⟩, fr⟩
        · rw [e1]; simp [ltL]
        · rw [e2]; simp; omega
      · simp only [W_skip, W_ops, W_sops, W_seq, W_block, W_exit, W_ret, W_cond, U_seq, U_seq_exit, U_seq_ret, U_blk, U_blk_ret, U_blk_exit, again_exit', again_ret', again_normal', U_ret1, S_nil, S_gd, S_ld, S_lda, S_fld, S_len, S_ix, S_call, S_callv, S_func, S_move, S_assign, S_pick, S_bin, S_not, gdo_tt, gdo_ff, gdo_tf, gdo_ft, br_true, br_false, fin_val, ldV_ptr, ldaV_ptr, fldV_ptr, lenV_slice, not_bool, pick_true, pick_false, b_lss, b_leq, b_gtr, b_geq, b_eql, b_neq, b_add, b_sub, lift1_some, ev_tmp, ev_const, eput_app, eput_none, List.map_cons, List.map_nil, Nat.reduceEqDiff, Nat.succ_ne_self, Nat.reduceBEq, ↓reduceIte, reduceIte, decide_true, decide_false, Bool.not_true, Bool.not_false, if_true_left, Nat.one_ne_zero, Nat.zero_ne_one, not_true_eq_false, not_false_eq_true, S_nilc, nilc_ptr, S_ext, ext0, ext1]
        have heq : b.drop a.length = [] := by simp at hC; rw [List.drop_eq_nil_iff]; omega
        rw [heq] at e1 e2
        refine ⟨⟨0, rfl, ?_, ?_⟩, fr⟩
        · rw [e1]; simp [ltL]
        · rw [e2]; simp
  · simp only [W_skip, W_ops, W_sops, W_seq, W_block, W_exit, W_ret, W_cond, U_seq, U_seq_exit, U_seq_ret, U_blk, U_blk_ret, U_blk_exit, again_exit', again_ret', again_normal', U_ret1, S_nil, S_gd, S_ld, S_lda, S_fld, S_len, S_ix, S_call, S_callv, S_func, S_move, S_assign, S_pick, S_bin, S_not, gdo_tt, gdo_ff, gdo_tf, gdo_ft, br_true, br_false, fin_val, ldV_ptr, ldaV_ptr, fldV_ptr, lenV_slice, not_bool, pick_true, pick_false, b_lss, b_leq, b_gtr, b_geq, b_eql, b_neq, b_add, b_sub, lift1_some, ev_tmp, ev_const, eput_app, eput_none, List.map_cons, List.map_nil, Nat.reduceEqDiff, Nat.succ_ne_self, Nat.reduceBEq, ↓reduceIte, reduceIte, decide_true, decide_false, Bool.not_true, Bool.not_false, if_true_left, Nat.one_ne_zero, Nat.zero_ne_one, not_true_eq_false, not_false_eq_true, S_nilc, nilc_ptr, S_ext, ext0, ext1, f3_0, f3_1, f3_2]
    simp [Fr.refl]

theorem lists138 {H : Heap} {v w : Value} {a b : List Nd} (hv : IsAlt H.get v a) (hw : IsAlt H.get w b) (ha : ∀ x ∈ a, Bd x) (hb : ∀ x ∈ b, Bd x) :
    SC Tryz.prog 138 #[v, w] H (fun v H' => (∃ r, v = .int .i64 r ∧ Cmp r (ltL a b = true) (a = b)) ∧ Fr H H') := by
  refine SC_of_W fc138 (by simp) fun hwf => ?_
  unfold c138
  simp only [W_skip, W_ops, W_sops, W_seq, W_block, W_exit, W_ret, W_cond, U_seq, U_seq_exit, U_seq_ret, U_blk, U_blk_ret, U_blk_exit, again_exit', again_ret', again_normal', U_ret1, S_nil, S_gd, S_ld, S_lda, S_fld, S_len, S_ix, S_call, S_callv, S_func, S_move, S_assign, S_pick, S_bin, S_not, gdo_tt, gdo_ff, gdo_tf, gdo_ft, br_true, br_false, fin_val, ldV_ptr, ldaV_ptr, fldV_ptr, lenV_slice, not_bool, pick_true, pick_false, b_lss, b_leq, b_gtr, b_geq, b_eql, b_neq, b_add, b_sub, lift1_some, ev_tmp, ev_const, eput_app, eput_none, List.map_cons, List.map_nil, Nat.reduceEqDiff, Nat.succ_ne_self, Nat.reduceBEq, ↓reduceIte, reduceIte, decide_true, decide_false, Bool.not_true, Bool.not_false, if_true_left, Nat.one_ne_zero, Nat.zero_ne_one, not_true_eq_false, not_false_eq_true, S_nilc, nilc_ptr, S_ext, ext0, ext1, f2_0, f2_1, ev_func]
  refine call_then (compare198 hv hw ha hb) ?_
  rintro _ H2 ⟨⟨r, rfl, hr⟩, f2⟩ wf2
  rw [cont_app]
  simp only [W_skip, W_ops, W_sops, W_seq, W_block, W_exit, W_ret, W_cond, U_seq, U_seq_exit, U_seq_ret, U_blk, U_blk_ret, U_blk_exit, again_exit', again_ret', again_normal', U_ret1, S_nil, S_gd, S_ld, S_lda, S_fld, S_len, S_ix, S_call, S_callv, S_func, S_move, S_assign, S_pick, S_bin, S_not, gdo_tt, gdo_ff, gdo_tf, gdo_ft, br_true, br_false, fin_val, ldV_ptr, ldaV_ptr, fldV_ptr, lenV_slice, not_bool, pick_true, pick_false, b_lss, b_leq, b_gtr, b_geq, b_eql, b_neq, b_add, b_sub, lift1_some, ev_tmp, ev_const, eput_app, eput_none, List.map_cons, List.map_nil, Nat.reduceEqDiff, Nat.succ_ne_self, Nat.reduceBEq, ↓reduceIte, reduceIte, decide_true, decide_false, Bool.not_true, Bool.not_false, if_true_left, Nat.one_ne_zero, Nat.zero_ne_one, not_true_eq_false, not_false_eq_true, S_nilc, nilc_ptr, S_ext, ext0, ext1]
  exact ⟨⟨r, rfl, hr⟩, f2⟩

/-- where a count stands that begins at one -/
theorem sorted_le_one {α : Type} {lt : α → α → Bool} {l : List α} (h : l.length ≤ 1) : sorted lt l = true := by
  match l, h with
  | [], _ => rfl
  | [_], _ => rfl

theorem rising135 {H : Heap} {v : Value} {l : List Nd} (hv : IsAlt H.get v l) (hb : ∀ x ∈ l, Bd x) : SC Tryz.prog 135 #[v, .func (.func 136) #[] #[]] H (fun r H' => r = .bool (sorted ltN l) ∧ Fr H H') := by
  refine SC_of_W fc135 (by simp) fun hwf => ?_
  obtain ⟨p, c, rfl, hlen, hat⟩ := hv
  have kn := Kn.self hwf
  unfold c135
  simp only [W_skip, W_ops, W_sops, W_seq, W_block, W_exit, W_ret, W_cond, U_seq, U_seq_exit, U_seq_ret, U_blk, U_blk_ret, U_blk_exit, again_exit', again_ret', again_normal', U_ret1, S_nil, S_gd, S_ld, S_lda, S_fld, S_len, S_ix, S_call, S_callv, S_func, S_move, S_assign, S_pick, S_bin, S_not, gdo_tt, gdo_ff, gdo_tf, gdo_ft, br_true, br_false, fin_val, ldV_ptr, ldaV_ptr, fldV_ptr, lenV_slice, not_bool, pick_true, pick_false, b_lss, b_leq, b_gtr, b_geq, b_eql, b_neq, b_add, b_sub, lift1_some, ev_tmp, ev_const, eput_app, eput_none, List.map_cons, List.map_nil, Nat.reduceEqDiff, Nat.succ_ne_self, Nat.reduceBEq, ↓reduceIte, reduceIte, decide_true, decide_false, Bool.not_true, Bool.not_false, if_true_left, Nat.one_ne_zero, Nat.zero_ne_one, not_true_eq_false, not_false_eq_true, S_nilc, nilc_ptr, S_ext, ext0, ext1]
  refine W_loop (fun k g H1 => ∃ j : Nat, k = l.length + 1 - j ∧ 1 ≤ j ∧ (j ≤ l.length ∨ j = 1) ∧ g 0 = .slice p l.length c ∧ g 1 = .func (.func 136) #[] #[] ∧ g 5 = .int .i64 (j : Nat) ∧ Fr H H1 ∧ sorted ltN (l.take j) = true) ?_ l.length ⟨1, ?_⟩
  · rintro k g H1 ⟨j, rfl, hj1, hj, h0, h1, h5, fr, ok⟩
    simp only [W_skip, W_ops, W_sops, W_seq, W_block, W_exit, W_ret, W_cond, U_seq, U_seq_exit, U_seq_ret, U_blk, U_blk_ret, U_blk_exit, again_exit', again_ret', again_normal', U_ret1, S_nil, S_gd, S_ld, S_lda, S_fld, S_len, S_ix, S_call, S_callv, S_func, S_move, S_assign, S_pick, S_bin, S_not, gdo_tt, gdo_ff, gdo_tf, gdo_ft, br_true, br_false, fin_val, ldV_ptr, ldaV_ptr, fldV_ptr, lenV_slice, not_bool, pick_true, pick_false, b_lss, b_leq, b_gtr, b_geq, b_eql, b_neq, b_add, b_sub, lift1_some, ev_tmp, ev_const, eput_app, eput_none, List.map_cons, List.map_nil, Nat.reduceEqDiff, Nat.succ_ne_self, Nat.reduceBEq, ↓reduceIte, reduceIte, decide_true, decide_false, Bool.not_true, Bool.not_false, if_true_left, Nat.one_ne_zero, Nat.zero_ne_one, not_true_eq_false, not_false_eq_true, S_nilc, nilc_ptr, S_ext, ext0, ext1, h0, h1, h5]
    refine br_of ?_ ?_ <;> intro hA
    · have hj' : j < l.length := by simpa using hA
      have hjp : j - 1 < l.length := by omega
      have kn1 := (kn.fr fr).reserve 12
      obtain ⟨b, cs, rfl, hs, hI⟩ := hat j l[j] (by simp [hj'])
      obtain ⟨b2, cs2, hb2, hs2, hI2⟩ := hat (j - 1) l[j - 1] (by simp [hjp])
      cases hb2; cases hI; cases hI2
      have hc := kn1.see2 hs
      have hc2 := kn1.see2 hs2
      simp only [W_skip, W_ops, W_sops, W_seq, W_block, W_exit, W_ret, W_cond, U_seq, U_seq_exit, U_seq_ret, U_blk, U_blk_ret, U_blk_exit, again_exit', again_ret', again_normal', U_ret1, S_nil, S_gd, S_ld, S_lda, S_fld, S_len, S_ix, S_call, S_callv, S_func, S_move, S_assign, S_pick, S_bin, S_not, gdo_tt, gdo_ff, gdo_tf, gdo_ft, br_true, br_false, fin_val, ldV_ptr, ldaV_ptr, fldV_ptr, lenV_slice, not_bool, pick_true, pick_false, b_lss, b_leq, b_gtr, b_geq, b_eql, b_neq, b_add, b_sub, lift1_some, ev_tmp, ev_const, eput_app, eput_none, List.map_cons, List.map_nil, Nat.reduceEqDiff, Nat.succ_ne_self, Nat.reduceBEq, ↓reduceIte, reduceIte, decide_true, decide_false, Bool.not_true, Bool.not_false, if_true_left, Nat.one_ne_zero, Nat.zero_ne_one, not_true_eq_false, not_false_eq_true, S_nilc, nilc_ptr, S_ext, ext0, ext1, h0, h1, h5, wrap_pred hj1 (by omega), ixV_at hjp, ixV_at hj', hc, hc2]
      rw [callW0 same136]
      simp only [W_skip, W_ops, W_sops, W_seq, W_block, W_exit, W_ret, W_cond, U_seq, U_seq_exit, U_seq_ret, U_blk, U_blk_ret, U_blk_exit, again_exit', again_ret', again_normal', U_ret1, S_nil, S_gd, S_ld, S_lda, S_fld, S_len, S_ix, S_call, S_callv, S_func, S_move, S_assign, S_pick, S_bin, S_not, gdo_tt, gdo_ff, gdo_tf, gdo_ft, br_true, br_false, fin_val, ldV_ptr, ldaV_ptr, fldV_ptr, lenV_slice, not_bool, pick_true, pick_false, b_lss, b_leq, b_gtr, b_geq, b_eql, b_neq, b_add, b_sub, lift1_some, ev_tmp, ev_const, eput_app, eput_none, List.map_cons, List.map_nil, Nat.reduceEqDiff, Nat.succ_ne_self, Nat.reduceBEq, ↓reduceIte, reduceIte, decide_true, decide_false, Bool.not_true, Bool.not_false, if_true_left, Nat.one_ne_zero, Nat.zero_ne_one, not_true_eq_false, not_false_eq_true, S_nilc, nilc_ptr, S_ext, ext0, ext1]
      refine call_then (before136 (a := l[j - 1]) (b := l[j]) (hb _ (List.getElem_mem hjp)) (hb _ (List.getElem_mem hj'))) ?_
      rintro _ H5 ⟨⟨q, rfl, hq⟩, f5⟩ wf5
      have fr5 : Fr H H5 := (fr.reserve 12).trans f5
      rw [cont_app]
      simp only [W_skip, W_ops, W_sops, W_seq, W_block, W_exit, W_ret, W_cond, U_seq, U_seq_exit, U_seq_ret, U_blk, U_blk_ret, U_blk_exit, again_exit', again_ret', again_normal', U_ret1, S_nil, S_gd, S_ld, S_lda, S_fld, S_len, S_ix, S_call, S_callv, S_func, S_move, S_assign, S_pick, S_bin, S_not, gdo_tt, gdo_ff, gdo_tf, gdo_ft, br_true, br_false, fin_val, ldV_ptr, ldaV_ptr, fldV_ptr, lenV_slice, not_bool, pick_true, pick_false, b_lss, b_leq, b_gtr, b_geq, b_eql, b_neq, b_add, b_sub, lift1_some, ev_tmp, ev_const, eput_app, eput_none, List.map_cons, List.map_nil, Nat.reduceEqDiff, Nat.succ_ne_self, Nat.reduceBEq, ↓reduceIte, reduceIte, decide_true, decide_false, Bool.not_true, Bool.not_false, if_true_left, Nat.one_ne_zero, Nat.zero_ne_one, not_true_eq_false, not_false_eq_true, S_nilc, nilc_ptr, S_ext, ext0, ext1]
      have est := sorted_take (lt := ltN) hj'
      rw [if_neg (by omega), ok, Bool.true_and] at est
      refine br_of ?_ ?_ <;> intro hG
      · simp only [W_skip, W_ops, W_sops, W_seq, W_block, W_exit, W_ret, W_cond, U_seq, U_seq_exit, U_seq_ret, U_blk, U_blk_ret, U_blk_exit, again_exit', again_ret', again_normal', U_ret1, S_nil, S_gd, S_ld, S_lda, S_fld, S_len, S_ix, S_call, S_callv, S_func, S_move, S_assign, S_pick, S_bin, S_not, gdo_tt, gdo_ff, gdo_tf, gdo_ft, br_true, br_false, fin_val, ldV_ptr, ldaV_ptr, fldV_ptr, lenV_slice, not_bool, pick_true, pick_false, b_lss, b_leq, b_gtr, b_geq, b_eql, b_neq, b_add, b_sub, lift1_some, ev_tmp, ev_const, eput_app, eput_none, List.map_cons, List.map_nil, Nat.reduceEqDiff, Nat.succ_ne_self, Nat.reduceBEq, ↓reduceIte, reduceIte, decide_true, decide_false, Bool.not_true, Bool.not_false, if_true_left, Nat.one_ne_zero, Nat.zero_ne_one, not_true_eq_false, not_false_eq_true, S_nilc, nilc_ptr, S_ext, ext0, ext1]
        have : ltN l[j - 1] l[j] = false := by
          cases h : ltN l[j - 1] l[j] with
          | false => rfl
          | true => have := hq.1.2 h; simp at hG; omega
        refine ⟨not_bool_of fun h => ?_, fr5⟩
        have := sorted_prefix h (j + 1)
        simp_all
      · simp only [W_skip, W_ops, W_sops, W_seq, W_block, W_exit, W_ret, W_cond, U_seq, U_seq_exit, U_seq_ret, U_blk, U_blk_ret, U_blk_exit, again_exit', again_ret', again_normal', U_ret1, S_nil, S_gd, S_ld, S_lda, S_fld, S_len, S_ix, S_call, S_callv, S_func, S_move, S_assign, S_pick, S_bin, S_not, gdo_tt, gdo_ff, gdo_tf, gdo_ft, br_true, br_false, fin_val, ldV_ptr, ldaV_ptr, fldV_ptr, lenV_slice, not_bool, pick_true, pick_false, b_lss, b_leq, b_gtr, b_geq, b_eql, b_neq, b_add, b_sub, lift1_some, ev_tmp, ev_const, eput_app, eput_none, List.map_cons, List.map_nil, Nat.reduceEqDiff, Nat.succ_ne_self, Nat.reduceBEq, ↓reduceIte, reduceIte, decide_true, decide_false, Bool.not_true, Bool.not_false, if_true_left, Nat.one_ne_zero, Nat.zero_ne_one, not_true_eq_false, not_false_eq_true, S_nilc, nilc_ptr, S_ext, ext0, ext1, h0, h1, h5]
        refine ⟨l.length + 1 - (j + 1), by omega, j + 1, rfl, by omega, .inl hj', trivial, trivial, by rw [wrap_succ (by omega)], fr5, ?_⟩
        rw [est]
        simp at hG
        exact hq.1.1 hG
    · have hj' : l.length ≤ j := by simp at hA; omega
      rw [List.take_of_length_le hj'] at ok
      simp only [W_skip, W_ops, W_sops, W_seq, W_block, W_exit, W_ret, W_cond, U_seq, U_seq_exit, U_seq_ret, U_blk, U_blk_ret, U_blk_exit, again_exit', again_ret', again_normal', U_ret1, S_nil, S_gd, S_ld, S_lda, S_fld, S_len, S_ix, S_call, S_callv, S_func, S_move, S_assign, S_pick, S_bin, S_not, gdo_tt, gdo_ff, gdo_tf, gdo_ft, br_true, br_false, fin_val, ldV_ptr, ldaV_ptr, fldV_ptr, lenV_slice, not_bool, pick_true, pick_false, b_lss, b_leq, b_gtr, b_geq, b_eql, b_neq, b_add, b_sub, lift1_some, ev_tmp, ev_const, eput_app, eput_none, List.map_cons, List.map_nil, Nat.reduceEqDiff, Nat.succ_ne_self, Nat.reduceBEq, ↓reduceIte, reduceIte, decide_true, decide_false, Bool.not_true, Bool.not_false, if_true_left, Nat.one_ne_zero, Nat.zero_ne_one, not_true_eq_false, not_false_eq_true, S_nilc, nilc_ptr, S_ext, ext0, ext1]
      exact ⟨bool_of ok, fr⟩
  · simp only [W_skip, W_ops, W_sops, W_seq, W_block, W_exit, W_ret, W_cond, U_seq, U_seq_exit, U_seq_ret, U_blk, U_blk_ret, U_blk_exit, again_exit', again_ret', again_normal', U_ret1, S_nil, S_gd, S_ld, S_lda, S_fld, S_len, S_ix, S_call, S_callv, S_func, S_move, S_assign, S_pick, S_bin, S_not, gdo_tt, gdo_ff, gdo_tf, gdo_ft, br_true, br_false, fin_val, ldV_ptr, ldaV_ptr, fldV_ptr, lenV_slice, not_bool, pick_true, pick_false, b_lss, b_leq, b_gtr, b_geq, b_eql, b_neq, b_add, b_sub, lift1_some, ev_tmp, ev_const, eput_app, eput_none, List.map_cons, List.map_nil, Nat.reduceEqDiff, Nat.succ_ne_self, Nat.reduceBEq, ↓reduceIte, reduceIte, decide_true, decide_false, Bool.not_true, Bool.not_false, if_true_left, Nat.one_ne_zero, Nat.zero_ne_one, not_true_eq_false, not_false_eq_true, S_nilc, nilc_ptr, S_ext, ext0, ext1, f2_0, f2_1]
    refine ⟨(by omega : l.length = l.length + 1 - 1), Nat.le_refl _, .inr trivial, ?_, ?_, ?_, Fr.refl _, sorted_le_one (by simp; omega)⟩ <;> first | trivial | rfl

theorem rising137 {H : Heap} {v : Value} {l : List (List Nd)} (hv : IsAlts H.get v l) (hb : ∀ y ∈ l, ∀ x ∈ y, Bd x) : SC Tryz.prog 137 #[v, .func (.func 138) #[] #[]] H (fun r H' => r = .bool (sorted ltL l) ∧ Fr H H') := by
  refine SC_of_W fc137 (by simp) fun hwf => ?_
  obtain ⟨p, c, rfl, hlen, hat⟩ := hv
  have kn := Kn.self hwf
  unfold c137
  simp only [W_skip, W_ops, W_sops, W_seq, W_block, W_exit, W_ret, W_cond, U_seq, U_seq_exit, U_seq_ret, U_blk, U_blk_ret, U_blk_exit, again_exit', again_ret', again_normal', U_ret1, S_nil, S_gd, S_ld, S_lda, S_fld, S_len, S_ix, S_call, S_callv, S_func, S_move, S_assign, S_pick, S_bin, S_not, gdo_tt, gdo_ff, gdo_tf, gdo_ft, br_true, br_false, fin_val, ldV_ptr, ldaV_ptr, fldV_ptr, lenV_slice, not_bool, pick_true, pick_false, b_lss, b_leq, b_gtr, b_geq, b_eql, b_neq, b_add, b_sub, lift1_some, ev_tmp, ev_const, eput_app, eput_none, List.map_cons, List.map_nil, Nat.reduceEqDiff, Nat.succ_ne_self, Nat.reduceBEq, ↓reduceIte, reduceIte, decide_true, decide_false, Bool.not_true, Bool.not_false, if_true_left, Nat.one_ne_zero, Nat.zero_ne_one, not_true_eq_false, not_false_eq_true, S_nilc, nilc_ptr, S_ext, ext0, ext1]
  refine W_loop (fun k g H1 => ∃ j : Nat, k = l.length + 1 - j ∧ 1 ≤ j ∧ (j ≤ l.length ∨ j = 1) ∧ g 0 = .slice p l.length c ∧ g 1 = .func (.func 138) #[] #[] ∧ g 5 = .int .i64 (j : Nat) ∧ Fr H H1 ∧ sorted ltL (l.take j) = true) ?_ l.length ⟨1, ?_⟩
  · rintro k g H1 ⟨j, rfl, hj1, hj, h0, h1, h5, fr, ok⟩
    simp only [W_skip, W_ops, W_sops, W_seq, W_block, W_exit, W_ret, W_cond, U_seq, U_seq_exit, U_seq_ret, U_blk, U_blk_ret, U_blk_exit, again_exit', again_ret', again_normal', U_ret1, S_nil, S_gd, S_ld, S_lda, S_fld, S_len, S_ix, S_call, S_callv, S_func, S_move, S_assign, S_pick, S_bin, S_not, gdo_tt, gdo_ff, gdo_tf, gdo_ft, br_true, br_false, fin_val, ldV_ptr, ldaV_ptr, fldV_ptr, lenV_slice, not_bool, pick_true, pick_false, b_lss, b_leq, b_gtr, b_geq, b_eql, b_neq, b_add, b_sub, lift1_some, ev_tmp, ev_const, eput_app, eput_none, List.map_cons, List.map_nil, Nat.reduceEqDiff, Nat.succ_ne_self, Nat.reduceBEq, ↓reduceIte, reduceIte, decide_true, decide_false, Bool.not_true, Bool.not_false, if_true_left, Nat.one_ne_zero, Nat.zero_ne_one, not_true_eq_false, not_false_eq_true, S_nilc, nilc_ptr, S_ext, ext0, ext1, h0, h1, h5]
    refine br_of ?_ ?_ <;> intro hA
    · have hj' : j < l.length := by simpa using hA
      have hjp : j - 1 < l.length := by omega
      have kn1 := (kn.fr fr).reserve 12
      have fr12 := fr.reserve 12
      obtain ⟨b, cs, rfl, hs, u, rfl, hI⟩ := hat j l[j] (by simp [hj'])
      obtain ⟨b2, cs2, hb2, hs2, u2, rfl, hI2⟩ := hat (j - 1) l[j - 1] (by simp [hjp])
      cases hb2
      have hc := kn1.see1 hs
      have hc2 := kn1.see1 hs2
      simp only [W_skip, W_ops, W_sops, W_seq, W_block, W_exit, W_ret, W_cond, U_seq, U_seq_exit, U_seq_ret, U_blk, U_blk_ret, U_blk_exit, again_exit', again_ret', again_normal', U_ret1, S_nil, S_gd, S_ld, S_lda, S_fld, S_len, S_ix, S_call, S_callv, S_func, S_move, S_assign, S_pick, S_bin, S_not, gdo_tt, gdo_ff, gdo_tf, gdo_ft, br_true, br_false, fin_val, ldV_ptr, ldaV_ptr, fldV_ptr, lenV_slice, not_bool, pick_true, pick_false, b_lss, b_leq, b_gtr, b_geq, b_eql, b_neq, b_add, b_sub, lift1_some, ev_tmp, ev_const, eput_app, eput_none, List.map_cons, List.map_nil, Nat.reduceEqDiff, Nat.succ_ne_self, Nat.reduceBEq, ↓reduceIte, reduceIte, decide_true, decide_false, Bool.not_true, Bool.not_false, if_true_left, Nat.one_ne_zero, Nat.zero_ne_one, not_true_eq_false, not_false_eq_true, S_nilc, nilc_ptr, S_ext, ext0, ext1, h0, h1, h5, wrap_pred hj1 (by omega), ixV_at hjp, ixV_at hj', hc, hc2]
      rw [callW0 same138]
      simp only [W_skip, W_ops, W_sops, W_seq, W_block, W_exit, W_ret, W_cond, U_seq, U_seq_exit, U_seq_ret, U_blk, U_blk_ret, U_blk_exit, again_exit', again_ret', again_normal', U_ret1, S_nil, S_gd, S_ld, S_lda, S_fld, S_len, S_ix, S_call, S_callv, S_func, S_move, S_assign, S_pick, S_bin, S_not, gdo_tt, gdo_ff, gdo_tf, gdo_ft, br_true, br_false, fin_val, ldV_ptr, ldaV_ptr, fldV_ptr, lenV_slice, not_bool, pick_true, pick_false, b_lss, b_leq, b_gtr, b_geq, b_eql, b_neq, b_add, b_sub, lift1_some, ev_tmp, ev_const, eput_app, eput_none, List.map_cons, List.map_nil, Nat.reduceEqDiff, Nat.succ_ne_self, Nat.reduceBEq, ↓reduceIte, reduceIte, decide_true, decide_false, Bool.not_true, Bool.not_false, if_true_left, Nat.one_ne_zero, Nat.zero_ne_one, not_true_eq_false, not_false_eq_true, S_nilc, nilc_ptr, S_ext, ext0, ext1]
      refine call_then (lists138 (a := l[j - 1]) (b := l[j]) (hI2.mono (fr12.sub hwf)) (hI.mono (fr12.sub hwf)) (hb _ (List.getElem_mem hjp)) (hb _ (List.getElem_mem hj'))) ?_
      rintro _ H5 ⟨⟨q, rfl, hq⟩, f5⟩ wf5
      have fr5 : Fr H H5 := fr12.trans f5
      rw [cont_app]
      simp only [W_skip, W_ops, W_sops, W_seq, W_block, W_exit, W_ret, W_cond, U_seq, U_seq_exit, U_seq_ret, U_blk, U_blk_ret, U_blk_exit, again_exit', again_ret', again_normal', U_ret1, S_nil, S_gd, S_ld, S_lda, S_fld, S_len, S_ix, S_call, S_callv, S_func, S_move, S_assign, S_pick, S_bin, S_not, gdo_tt, gdo_ff, gdo_tf, gdo_ft, br_true, br_false, fin_val, ldV_ptr, ldaV_ptr, fldV_ptr, lenV_slice, not_bool, pick_true, pick_false, b_lss, b_leq, b_gtr, b_geq, b_eql, b_neq, b_add, b_sub, lift1_some, ev_tmp, ev_const, eput_app, eput_none, List.map_cons, List.map_nil, Nat.reduceEqDiff, Nat.succ_ne_self, Nat.reduceBEq, ↓reduceIte, reduceIte, decide_true, decide_false, Bool.not_true, Bool.not_false, if_true_left, Nat.one_ne_zero, Nat.zero_ne_one, not_true_eq_false, not_false_eq_true, S_nilc, nilc_ptr, S_ext, ext0, ext1]
      have est := sorted_take (lt := ltL) hj'
      rw [if_neg (by omega), ok, Bool.true_and] at est
      refine br_of ?_ ?_ <;> intro hG
      · simp only [W_skip, W_ops, W_sops, W_seq, W_block, W_exit, W_ret, W_cond, U_seq, U_seq_exit, U_seq_ret, U_blk, U_blk_ret, U_blk_exit, again_exit', again_ret', again_normal', U_ret1, S_nil, S_gd, S_ld, S_lda, S_fld, S_len, S_ix, S_call, S_callv, S_func, S_move, S_assign, S_pick, S_bin, S_not, gdo_tt, gdo_ff, gdo_tf, gdo_ft, br_true, br_false, fin_val, ldV_ptr, ldaV_ptr, fldV_ptr, lenV_slice, not_bool, pick_true, pick_false, b_lss, b_leq, b_gtr, b_geq, b_eql, b_neq, b_add, b_sub, lift1_some, ev_tmp, ev_const, eput_app, eput_none, List.map_cons, List.map_nil, Nat.reduceEqDiff, Nat.succ_ne_self, Nat.reduceBEq, ↓reduceIte, reduceIte, decide_true, decide_false, Bool.not_true, Bool.not_false, if_true_left, Nat.one_ne_zero, Nat.zero_ne_one, not_true_eq_false, not_false_eq_true, S_nilc, nilc_ptr, S_ext, ext0, ext1]
        have : ltL l[j - 1] l[j] = false := by
          cases h : ltL l[j - 1] l[j] with
          | false => rfl
          | true => have := hq.1.2 h; simp at hG; omega
        refine ⟨not_bool_of fun h => ?_, fr5⟩
        have := sorted_prefix h (j + 1)
        simp_all
      · simp only [W_skip, W_ops, W_sops, W_seq, W_block, W_exit, W_ret, W_cond, U_seq, U_seq_exit, U_seq_ret, U_blk, U_blk_ret, U_blk_exit, again_exit', again_ret', again_normal', U_ret1, S_nil, S_gd, S_ld, S_lda, S_fld, S_len, S_ix, S_call, S_callv, S_func, S_move, S_assign, S_pick, S_bin, S_not, gdo_tt, gdo_ff, gdo_tf, gdo_ft, br_true, br_false, fin_val, ldV_ptr, ldaV_ptr, fldV_ptr, lenV_slice, not_bool, pick_true, pick_false, b_lss, b_leq, b_gtr, b_geq, b_eql, b_neq, b_add, b_sub, lift1_some, ev_tmp, ev_const, eput_app, eput_none, List.map_cons, List.map_nil, Nat.reduceEqDiff, Nat.succ_ne_self, Nat.reduceBEq, ↓reduceIte, reduceIte, decide_true, decide_false, Bool.not_true, Bool.not_false, if_true_left, Nat.one_ne_zero, Nat.zero_ne_one, not_true_eq_false, not_false_eq_true, S_nilc, nilc_ptr, S_ext, ext0, ext1, h0, h1, h5]
        refine ⟨l.length + 1 - (j + 1), by omega, j + 1, rfl, by omega, .inl hj', trivial, trivial, by rw [wrap_succ (by omega)], fr5, ?_⟩
        rw [est]
        simp at hG
        exact hq.1.1 hG
    · have hj' : l.length ≤ j := by simp at hA; omega
      rw [List.take_of_length_le hj'] at ok
      simp only [W_skip, W_ops, W_sops, W_seq, W_block, W_exit, W_ret, W_cond, U_seq, U_seq_exit, U_seq_ret, U_blk, U_blk_ret, U_blk_exit, again_exit', again_ret', again_normal', U_ret1, S_nil, S_gd, S_ld, S_lda, S_fld, S_len, S_ix, S_call, S_callv, S_func, S_move, S_assign, S_pick, S_bin, S_not, gdo_tt, gdo_ff, gdo_tf, gdo_ft, br_true, br_false, fin_val, ldV_ptr, ldaV_ptr, fldV_ptr, lenV_slice, not_bool, pick_true, pick_false, b_lss, b_leq, b_gtr, b_geq, b_eql, b_neq, b_add, b_sub, lift1_some, ev_tmp, ev_const, eput_app, eput_none, List.map_cons, List.map_nil, Nat.reduceEqDiff, Nat.succ_ne_self, Nat.reduceBEq, ↓reduceIte, reduceIte, decide_true, decide_false, Bool.not_true, Bool.not_false, if_true_left, Nat.one_ne_zero, Nat.zero_ne_one, not_true_eq_false, not_false_eq_true, S_nilc, nilc_ptr, S_ext, ext0, ext1]
      exact ⟨bool_of ok, fr⟩
  · simp only [W_skip, W_ops, W_sops, W_seq, W_block, W_exit, W_ret, W_cond, U_seq, U_seq_exit, U_seq_ret, U_blk, U_blk_ret, U_blk_exit, again_exit', again_ret', again_normal', U_ret1, S_nil, S_gd, S_ld, S_lda, S_fld, S_len, S_ix, S_call, S_callv, S_func, S_move, S_assign, S_pick, S_bin, S_not, gdo_tt, gdo_ff, gdo_tf, gdo_ft, br_true, br_false, fin_val, ldV_ptr, ldaV_ptr, fldV_ptr, lenV_slice, not_bool, pick_true, pick_false, b_lss, b_leq, b_gtr, b_geq, b_eql, b_neq, b_add, b_sub, lift1_some, ev_tmp, ev_const, eput_app, eput_none, List.map_cons, List.map_nil, Nat.reduceEqDiff, Nat.succ_ne_self, Nat.reduceBEq, ↓reduceIte, reduceIte, decide_true, decide_false, Bool.not_true, Bool.not_false, if_true_left, Nat.one_ne_zero, Nat.zero_ne_one, not_true_eq_false, not_false_eq_true, S_nilc, nilc_ptr, S_ext, ext0, ext1, f2_0, f2_1]
    refine ⟨(by omega : l.length = l.length + 1 - 1), Nat.le_refl _, .inr trivial, ?_, ?_, ?_, Fr.refl _, sorted_le_one (by simp; omega)⟩ <;> first | trivial | rfl

end Go.Proofs.YtcfjimhbachmlaaGreatDoor.E
