/- The walks of the two FormatInt and of the model ParseUint: what each call gives, whatever its argument. -/
import Derived.Test.YtpfbheodbgkgmaaDoorGxStr
import Derived.Test.YtpfbheodbgkgmaaDoorGxTxt
import Derived.Test.YtpfbheodbgkgmaaDoorChecked
import Derived.Test.YtpfbheodbgkgmaaDoorShelf
set_option linter.unusedSimpArgs false
set_option linter.unusedVariables false
namespace Go.Proofs.YtpfbheodbgkgmaaDoor
open Go Gx Go.Proofs
attribute [local irreducible] OpW wpL WC anyL Run
theorem inf3 : Inf Tryd.prog 3 1 8 (.int .i64 0) := inf_of (by kernel_rfl)
theorem inf5 : Inf Tryd.prog 5 1 1 (.int .u8 0) := inf_of (by kernel_rfl)
theorem inf9 : Inf Tryd.prog 9 1 16 (.string (st ([]))) := inf_of (by kernel_rfl)
theorem inf22 : Inf Tryd.prog 22 1 24 (.slice none 0 0) := inf_of (by kernel_rfl)
theorem en91 : Enters Tryd.prog 91 := enters Tryd.func91 rfl (by kernel_rfl)
theorem en99 : Enters Tryd.prog 99 := enters Tryd.func99 rfl (by kernel_rfl)
theorem en125 : Enters Tryd.prog 125 := enters Tryd.func125 rfl (by kernel_rfl)
theorem C_l01Figure (x : Int) (w : World) (h0 : 0 ≤ x) (h1 : x ≤ 9) :
    Ret Tryd.prog 125 #[.int .i64 x] w (fun v w' => v = .int .u8 ((dig x).toNat : Int) ∧ w = w') := by
  refine ret_of (args := [.int .i64 x]) Tryd.func125 rfl 12 Tryd.ntmps125 rfl ?_
  refine W_seq (fun K1 hK1 => ?_)
  refine W_region ?_
  refine L_run (v := .int .u8 0) (R_assign rfl) rfl ?_
  refine L_nil ?_
  refine T_normal ?_
  refine hK1 _ _ ?_
  clear hK1
  refine W_seq (fun K2 hK2 => ?_)
  refine W_seq (fun K3 hK3 => ?_)
  refine W_region ?_
  refine L_run (v := .int .i64 x) (R_move rfl) rfl ?_
  refine L_run (v := .bool (decide (x < 10))) (R_lss rfl rfl) rfl ?_
  refine L_nil ?_
  refine T_normal ?_
  refine hK3 _ _ ?_
  clear hK3
  refine W_cond (decide (x < 10)) rfl (fun hc0 => ?_) (fun hc0 => ?_)
  · have hc0 := of_decide_eq_true hc0
    refine W_seq (fun K4 hK4 => ?_)
    refine W_region ?_
    refine L_run (v := .int .i64 x) (R_move rfl) rfl ?_
    refine L_run (v := .int .i64 (48 + x)) (R_add rfl rfl (by omega) (by omega)) rfl ?_
    refine L_run (v := .int .u8 (IntKind.wrap .u8 (48 + x))) (R_ii (Option.isSome_iff_exists.2 ⟨_, Tryd.underlying3⟩) Tryd.underlying5 rfl) rfl ?_
    refine L_run (v := .int .u8 (IntKind.wrap .u8 (48 + x))) (R_assign rfl) rfl ?_
    refine L_nil ?_
    refine T_normal ?_
    refine hK4 _ _ ?_
    clear hK4
    refine W_ret ?_
    refine T_ret ?_
    refine Q_ret (v := .int .u8 (IntKind.wrap .u8 (48 + x))) (res1 Tryd.results125 rfl) ?_
    clear hK2
    exact ⟨by rw [dig_nat h0 h1]; congr 1; exact wrap_in8 (by omega) (by omega), rfl⟩
  · have hc0 := of_decide_eq_false hc0
    refine W_skip ?_
    refine T_normal ?_
    refine hK2 _ _ ?_
    clear hK2
    refine W_seq (fun K5 hK5 => ?_)
    refine W_region ?_
    refine L_run (v := .int .i64 x) (R_move rfl) rfl ?_
    refine L_run (v := .int .i64 (97 + x)) (R_add rfl rfl (by omega) (by omega)) rfl ?_
    refine L_run (v := .int .i64 ((97 + x) - 10)) (R_sub rfl rfl (by omega) (by omega)) rfl ?_
    refine L_run (v := .int .u8 (IntKind.wrap .u8 ((97 + x) - 10))) (R_ii (Option.isSome_iff_exists.2 ⟨_, Tryd.underlying3⟩) Tryd.underlying5 rfl) rfl ?_
    refine L_run (v := .int .u8 (IntKind.wrap .u8 ((97 + x) - 10))) (R_assign rfl) rfl ?_
    refine L_nil ?_
    refine T_normal ?_
    refine hK5 _ _ ?_
    clear hK5
    refine W_ret ?_
    refine Q_ret (v := .int .u8 (IntKind.wrap .u8 ((97 + x) - 10))) (res1 Tryd.results125 rfl) ?_
    omega

theorem C_sFormatInt (n : Int) (w : World) (h0 : -9223372036854775808 ≤ n) (h1 : n ≤ 9223372036854775807) :
    Ret Tryd.prog 91 #[.int .i64 n] w (fun v w' => v = .string (st (Lib.itoa n)) ∧ Same All w w') := by
  refine ret_of (args := [.int .i64 n]) Tryd.func91 rfl 30 Tryd.ntmps91 rfl ?_
  refine W_seq (fun K1 hK1 => ?_)
  refine W_region ?_
  refine L_run (v := .string (st ([]))) (R_assign rfl) rfl ?_
  refine L_nil ?_
  refine T_normal ?_
  refine hK1 _ _ ?_
  clear hK1
  refine W_seq (fun K2 hK2 => ?_)
  refine W_seq (fun K3 hK3 => ?_)
  refine W_region ?_
  refine L_run (v := .int .i64 n) (R_move rfl) rfl ?_
  refine L_run (v := .bool (decide (n = 0))) (R_eql rfl rfl) rfl ?_
  refine L_nil ?_
  refine T_normal ?_
  refine hK3 _ _ ?_
  clear hK3
  refine W_cond (decide (n = 0)) rfl (fun hc0 => ?_) (fun hc0 => ?_)
  · have hc0 := of_decide_eq_true hc0
    refine W_seq (fun K4 hK4 => ?_)
    refine W_region ?_
    refine L_run (v := .string (st ([48]))) (R_assign rfl) rfl ?_
    refine L_nil ?_
    refine T_normal ?_
    refine hK4 _ _ ?_
    clear hK4
    refine W_ret ?_
    refine T_ret ?_
    refine Q_ret (v := .string (st ([48]))) (res1 Tryd.results91 rfl) ?_
    clear hK2
    exact ⟨by rw [hc0, itoa_zero], Same.refl _ _⟩
  · have hc0 := of_decide_eq_false hc0
    refine W_skip ?_
    refine T_normal ?_
    refine hK2 _ _ ?_
    clear hK2
    refine W_seq (fun K5 hK5 => ?_)
    refine W_region ?_
    refine L_run (v := .int .i64 n) (R_move rfl) rfl ?_
    refine L_run (v := .bool (decide (n < 0))) (R_lss rfl rfl) rfl ?_
    refine L_run (v := .bool (decide (n < 0))) (R_assign rfl) rfl ?_
    refine L_nil ?_
    refine T_normal ?_
    refine hK5 _ _ ?_
    clear hK5
    refine W_seq (fun K6 hK6 => ?_)
    refine W_region ?_
    refine L_run (v := .string (st ([]))) (R_assign rfl) rfl ?_
    refine L_nil ?_
    refine T_normal ?_
    refine hK6 _ _ ?_
    clear hK6
    refine W_seq (fun K7 hK7 => ?_)
    refine W_block ?_
    refine W_loop (G := Int × List UInt8) [0, 4, 5, 10, 11, 12, 13, 14, 15, 16, 17, 18, 19, 20, 21, 22, 23, 24, 25] (fun (m, s) => [(0, .int .i64 m), (4, .string (st s))]) (fun (m, s) w' => dd m.natAbs ++ s = Lib.decDigits n.natAbs ∧ m.natAbs ≤ n.natAbs ∧ Same All w w') (fun (m, s) => m.natAbs) (n, []) ⟨rfl, rfl, trivial⟩ ?hj0 ?_
    case hj0 => exact ⟨by rw [List.append_nil]; exact dd_pos (by omega), Nat.le_refl _, Same.refl _ _⟩
    rintro ⟨m, s⟩ j1 w1 ⟨hj1, hj2, hj3⟩
    have ht := tmod10 m
    have hq := tdiv10 m
    have hw : IntKind.wrap .i64 (Int.tdiv m 10) = Int.tdiv m 10 := wrap_in (by omega) (by omega)
    have hln : s.length ≤ 20 := by have := congrArg List.length hj1; rw [List.length_append] at this; have := Lib.decDigits_length n.natAbs; have := dec_len (u := n.natAbs) (k := 18) (by omega); omega
    refine W_seq (fun K8 hK8 => ?_)
    refine W_seq (fun K9 hK9 => ?_)
    refine W_region ?_
    refine L_run (v := .int .i64 m) (R_move rfl) rfl ?_
    refine L_run (v := .bool (!decide (m = 0))) (R_neq rfl rfl) rfl ?_
    refine L_nil ?_
    refine T_normal ?_
    refine hK9 _ _ ?_
    clear hK9
    refine W_cond (!decide (m = 0)) rfl (fun hc1 => ?_) (fun hc1 => ?_)
    · have hc1 := not_t hc1
      refine W_skip ?_
      refine T_normal ?_
      refine hK8 _ _ ?_
      clear hK8
      refine W_block ?_
      refine W_seq (fun K10 hK10 => ?_)
      refine W_region ?_
      refine L_run (v := .int .i64 m) (R_move rfl) rfl ?_
      refine L_run (v := .int .i64 (Int.tmod m 10)) (R_trem rfl rfl (by omega)) rfl ?_
      refine L_run (v := .int .i64 (Int.tmod m 10)) (R_assign rfl) rfl ?_
      refine L_nil ?_
      refine T_normal ?_
      refine hK10 _ _ ?_
      clear hK10
      refine W_seq (fun K11 hK11 => ?_)
      refine W_seq (fun K12 hK12 => ?_)
      refine W_region ?_
      refine L_run (v := .int .i64 (Int.tmod m 10)) (R_move rfl) rfl ?_
      refine L_run (v := .bool (decide (Int.tmod m 10 < 0))) (R_lss rfl rfl) rfl ?_
      refine L_nil ?_
      refine T_normal ?_
      refine hK12 _ _ ?_
      clear hK12
      refine W_cond (decide (Int.tmod m 10 < 0)) rfl (fun hc2 => ?_) (fun hc2 => ?_)
      · have hc2 := of_decide_eq_true hc2
        refine W_region ?_
        refine L_run (v := .int .i64 (Int.tmod m 10)) (R_move rfl) rfl ?_
        refine L_run (v := .int .i64 (-(Int.tmod m 10))) (R_neg rfl (by omega) (by omega)) rfl ?_
        refine L_run (v := .int .i64 (-(Int.tmod m 10))) (R_assign rfl) rfl ?_
        refine L_nil ?_
        refine T_normal ?_
        refine hK11 _ _ ?_
        clear hK11
        refine W_seq (fun K13 hK13 => ?_)
        refine W_region ?_
        refine L_run (v := .int .i64 (-(Int.tmod m 10))) (R_move rfl) rfl ?_
        refine L_op rfl rfl ?_
        refine O_call (args := [.int .i64 (-(Int.tmod m 10))]) en125 rfl (C_l01Figure (-(Int.tmod m 10)) _ (by omega) (by omega)) ?_
        rintro _ _ ⟨rfl, rfl⟩
        refine L_op rfl rfl ?_
        refine X_buildSlice [.tmp 19] [.int .u8 ((dig (-(Int.tmod m 10))).toNat : Int)] #[.int .u8 ((dig (-(Int.tmod m 10))).toNat : Int)] Tryd.underlying22 inf5 rfl rfl rfl rfl rfl rfl ?_
        intro b1 w2 hB1g hB1l hs1 hB1
        refine L_run (v := .string (st ([(dig (-(Int.tmod m 10)))]))) (X_b2s Tryd.underlying22 Tryd.underlying5 Tryd.underlying9 rfl (Bx.rd (E := u8E) (l := [(dig (-(Int.tmod m 10)))]) (N := All) hB1 trivial ⟨[], rfl⟩) (by simp)) rfl ?_
        refine L_run (v := .string (st s)) (R_move rfl) rfl ?_
        refine L_run (v := .string (st (([(dig (-(Int.tmod m 10)))]) ++ s))) (X_sadd rfl rfl (by (try simp only [List.length_append, List.length_cons, List.length_nil]); omega)) rfl ?_
        refine L_run (v := .string (st (([(dig (-(Int.tmod m 10)))]) ++ s))) (R_assign rfl) rfl ?_
        refine L_nil ?_
        refine T_normal ?_
        refine hK13 _ _ ?_
        clear hK13
        refine W_region ?_
        refine L_run (v := .int .i64 m) (R_move rfl) rfl ?_
        refine L_run (v := .int .i64 (IntKind.wrap .i64 (Int.tdiv m 10))) (R_tquo rfl rfl (by omega)) rfl ?_
        refine L_run (v := .int .i64 (IntKind.wrap .i64 (Int.tdiv m 10))) (R_assign rfl) rfl ?_
        refine L_nil ?_
        refine B_normal ?_
        refine T_normal ?_
        refine At.mk (IntKind.wrap .i64 (Int.tdiv m 10), ([(dig (-(Int.tmod m 10)))]) ++ s) (Agree.upd rfl (Agree.upd rfl (Agree.upd rfl (Agree.upd rfl (Agree.upd rfl (Agree.upd rfl (Agree.upd rfl (Agree.upd rfl (Agree.upd rfl (Agree.upd rfl (Agree.upd rfl (Agree.upd rfl (Agree.upd rfl (Agree.upd rfl (Agree.upd rfl (Agree.upd rfl (Agree.upd rfl (Agree.upd rfl (Agree.upd rfl (Agree.upd rfl (Agree.upds rfl Agree.over))))))))))))))))))))) ⟨rfl, rfl, trivial⟩ ?_
        simp only [hw]
        exact ⟨⟨fmt_step hc1 ht hj1 (by omega) hq.2, by omega, (Same.trans (Same.trans (Same.refl All w) (Same.all hj3)) (Same.all hs1))⟩, by omega⟩
      · have hc2 := of_decide_eq_false hc2
        refine W_skip ?_
        refine T_normal ?_
        refine hK11 _ _ ?_
        clear hK11
        refine W_seq (fun K14 hK14 => ?_)
        refine W_region ?_
        refine L_run (v := .int .i64 (Int.tmod m 10)) (R_move rfl) rfl ?_
        refine L_op rfl rfl ?_
        refine O_call (args := [.int .i64 (Int.tmod m 10)]) en125 rfl (C_l01Figure (Int.tmod m 10) _ (by omega) (by omega)) ?_
        rintro _ _ ⟨rfl, rfl⟩
        refine L_op rfl rfl ?_
        refine X_buildSlice [.tmp 19] [.int .u8 ((dig (Int.tmod m 10)).toNat : Int)] #[.int .u8 ((dig (Int.tmod m 10)).toNat : Int)] Tryd.underlying22 inf5 rfl rfl rfl rfl rfl rfl ?_
        intro b2 w3 hB2g hB2l hs2 hB2
        refine L_run (v := .string (st ([(dig (Int.tmod m 10))]))) (X_b2s Tryd.underlying22 Tryd.underlying5 Tryd.underlying9 rfl (Bx.rd (E := u8E) (l := [(dig (Int.tmod m 10))]) (N := All) hB2 trivial ⟨[], rfl⟩) (by simp)) rfl ?_
        refine L_run (v := .string (st s)) (R_move rfl) rfl ?_
        refine L_run (v := .string (st (([(dig (Int.tmod m 10))]) ++ s))) (X_sadd rfl rfl (by (try simp only [List.length_append, List.length_cons, List.length_nil]); omega)) rfl ?_
        refine L_run (v := .string (st (([(dig (Int.tmod m 10))]) ++ s))) (R_assign rfl) rfl ?_
        refine L_nil ?_
        refine T_normal ?_
        refine hK14 _ _ ?_
        clear hK14
        refine W_region ?_
        refine L_run (v := .int .i64 m) (R_move rfl) rfl ?_
        refine L_run (v := .int .i64 (IntKind.wrap .i64 (Int.tdiv m 10))) (R_tquo rfl rfl (by omega)) rfl ?_
        refine L_run (v := .int .i64 (IntKind.wrap .i64 (Int.tdiv m 10))) (R_assign rfl) rfl ?_
        refine L_nil ?_
        refine B_normal ?_
        refine T_normal ?_
        refine At.mk (IntKind.wrap .i64 (Int.tdiv m 10), ([(dig (Int.tmod m 10))]) ++ s) (Agree.upd rfl (Agree.upd rfl (Agree.upd rfl (Agree.upd rfl (Agree.upd rfl (Agree.upd rfl (Agree.upd rfl (Agree.upd rfl (Agree.upd rfl (Agree.upd rfl (Agree.upd rfl (Agree.upd rfl (Agree.upd rfl (Agree.upd rfl (Agree.upd rfl (Agree.upd rfl (Agree.upd rfl (Agree.upds rfl Agree.over)))))))))))))))))) ⟨rfl, rfl, trivial⟩ ?_
        simp only [hw]
        exact ⟨⟨fmt_step hc1 ht hj1 (by omega) hq.2, by omega, (Same.trans (Same.trans (Same.refl All w) (Same.all hj3)) (Same.all hs2))⟩, by omega⟩
    · have hc1 := not_f hc1
      refine W_exit ?_
      refine T_exit ?_
      refine T_exit ?_
      refine B_hit ?_
      refine T_normal ?_
      refine hK7 _ _ ?_
      clear hK7
      refine W_seq (fun K15 hK15 => ?_)
      refine W_seq (fun K16 hK16 => ?_)
      refine W_region ?_
      refine L_run (v := .bool (decide (n < 0))) (R_move rfl) rfl ?_
      refine L_nil ?_
      refine T_normal ?_
      refine hK16 _ _ ?_
      clear hK16
      refine W_cond (decide (n < 0)) rfl (fun hc3 => ?_) (fun hc3 => ?_)
      · have hc3 := of_decide_eq_true hc3
        refine W_seq (fun K17 hK17 => ?_)
        refine W_region ?_
        refine L_run (v := .string (st s)) (R_move rfl) rfl ?_
        refine L_run (v := .string (st (([45]) ++ s))) (X_sadd rfl rfl (by (try simp only [List.length_append, List.length_cons, List.length_nil]); omega)) rfl ?_
        refine L_run (v := .string (st (([45]) ++ s))) (R_assign rfl) rfl ?_
        refine L_nil ?_
        refine T_normal ?_
        refine hK17 _ _ ?_
        clear hK17
        refine W_ret ?_
        refine T_ret ?_
        refine Q_ret (v := .string (st (([45]) ++ s))) (res1 Tryd.results91 rfl) ?_
        clear hK15 hK8
        exact ⟨by rw [fmt_done hc1 hj1, Lib.itoa, if_pos (by simpa using hc3)]; rfl, (Same.trans (Same.refl All w) (Same.all hj3))⟩
      · have hc3 := of_decide_eq_false hc3
        refine W_skip ?_
        refine T_normal ?_
        refine hK15 _ _ ?_
        clear hK15
        refine W_seq (fun K18 hK18 => ?_)
        refine W_region ?_
        refine L_run (v := .string (st s)) (R_move rfl) rfl ?_
        refine L_run (v := .string (st s)) (R_assign rfl) rfl ?_
        refine L_nil ?_
        refine T_normal ?_
        refine hK18 _ _ ?_
        clear hK18
        refine W_ret ?_
        refine Q_ret (v := .string (st s)) (res1 Tryd.results91 rfl) ?_
        clear hK8
        exact ⟨by rw [fmt_done hc1 hj1, Lib.itoa, if_neg (by simpa using hc3)]; congr 3; omega, (Same.trans (Same.refl All w) (Same.all hj3))⟩

theorem C_within (x : Int) (lo : Int) (hi : Int) (w : World) :
    Ret Tryd.prog 71 #[.int .i64 x, .int .i64 lo, .int .i64 hi] w (fun v w' => v = .bool (decide (lo ≤ x) && decide (x ≤ hi)) ∧ w = w') := by
  refine ret_of (args := [.int .i64 x, .int .i64 lo, .int .i64 hi]) Tryd.func71 rfl 15 Tryd.ntmps71 rfl ?_
  refine W_seq (fun K1 hK1 => ?_)
  refine W_region ?_
  refine L_run (v := .bool false) (R_assign rfl) rfl ?_
  refine L_nil ?_
  refine T_normal ?_
  refine hK1 _ _ ?_
  clear hK1
  refine W_seq (fun K2 hK2 => ?_)
  refine W_region ?_
  refine L_run (v := .int .i64 x) (R_move rfl) rfl ?_
  refine L_run (v := .int .i64 lo) (R_move rfl) rfl ?_
  refine L_run (v := .bool (decide (lo ≤ x))) (R_geq rfl rfl) rfl ?_
  refine L_run (v := .bool (decide (lo ≤ x))) (R_move rfl) rfl ?_
  rcases Bool.eq_false_or_eq_true (decide (lo ≤ x)) with hg1 | hg1
  · have hg1p := of_decide_eq_true hg1
    try rw [hg1]
    refine L_yesrun (e := 10) (v := .int .i64 x) rfl rfl rfl (R_move rfl) rfl ?_
    refine L_yesrun (e := 10) (v := .int .i64 hi) rfl rfl rfl (R_move rfl) rfl ?_
    refine L_yesrun (e := 10) (v := .bool (decide (x ≤ hi))) rfl rfl rfl (R_leq rfl rfl) rfl ?_
    refine L_run (v := .bool (decide (x ≤ hi))) (R_pick_t rfl rfl) rfl ?_
    refine L_run (v := .bool (decide (x ≤ hi))) (R_assign rfl) rfl ?_
    refine L_nil ?_
    refine T_normal ?_
    refine hK2 _ _ ?_
    clear hK2
    refine W_ret ?_
    refine Q_ret (v := .bool (decide (x ≤ hi))) (res1 Tryd.results71 rfl) ?_
    exact ⟨by simp [*], rfl⟩
  · have hg1p := of_decide_eq_false hg1
    try rw [hg1]
    refine L_no (e := 10) rfl rfl rfl rfl ?_
    refine L_no (e := 10) rfl rfl rfl rfl ?_
    refine L_no (e := 10) rfl rfl rfl rfl ?_
    refine L_run (v := .bool false) (R_pick_f rfl rfl) rfl ?_
    refine L_run (v := .bool false) (R_assign rfl) rfl ?_
    refine L_nil ?_
    refine T_normal ?_
    refine hK2 _ _ ?_
    clear hK2
    refine W_ret ?_
    refine Q_ret (v := .bool false) (res1 Tryd.results71 rfl) ?_
    exact ⟨by simp [*], rfl⟩

theorem C_l01In (x : Int) (lo : Int) (hi : Int) (w : World) :
    Ret Tryd.prog 87 #[.int .i64 x, .int .i64 lo, .int .i64 hi] w (fun v w' => v = .bool (decide (lo ≤ x) && decide (x ≤ hi)) ∧ w = w') := by
  refine ret_of (args := [.int .i64 x, .int .i64 lo, .int .i64 hi]) Tryd.func87 rfl 15 Tryd.ntmps87 rfl ?_
  refine W_seq (fun K1 hK1 => ?_)
  refine W_region ?_
  refine L_run (v := .bool false) (R_assign rfl) rfl ?_
  refine L_nil ?_
  refine T_normal ?_
  refine hK1 _ _ ?_
  clear hK1
  refine W_seq (fun K2 hK2 => ?_)
  refine W_region ?_
  refine L_run (v := .int .i64 x) (R_move rfl) rfl ?_
  refine L_run (v := .int .i64 lo) (R_move rfl) rfl ?_
  refine L_run (v := .bool (decide (lo ≤ x))) (R_geq rfl rfl) rfl ?_
  refine L_run (v := .bool (decide (lo ≤ x))) (R_move rfl) rfl ?_
  rcases Bool.eq_false_or_eq_true (decide (lo ≤ x)) with hg1 | hg1
  · have hg1p := of_decide_eq_true hg1
    try rw [hg1]
    refine L_yesrun (e := 10) (v := .int .i64 x) rfl rfl rfl (R_move rfl) rfl ?_
    refine L_yesrun (e := 10) (v := .int .i64 hi) rfl rfl rfl (R_move rfl) rfl ?_
    refine L_yesrun (e := 10) (v := .bool (decide (x ≤ hi))) rfl rfl rfl (R_leq rfl rfl) rfl ?_
    refine L_run (v := .bool (decide (x ≤ hi))) (R_pick_t rfl rfl) rfl ?_
    refine L_run (v := .bool (decide (x ≤ hi))) (R_assign rfl) rfl ?_
    refine L_nil ?_
    refine T_normal ?_
    refine hK2 _ _ ?_
    clear hK2
    refine W_ret ?_
    refine Q_ret (v := .bool (decide (x ≤ hi))) (res1 Tryd.results87 rfl) ?_
    exact ⟨by simp [*], rfl⟩
  · have hg1p := of_decide_eq_false hg1
    try rw [hg1]
    refine L_no (e := 10) rfl rfl rfl rfl ?_
    refine L_no (e := 10) rfl rfl rfl rfl ?_
    refine L_no (e := 10) rfl rfl rfl rfl ?_
    refine L_run (v := .bool false) (R_pick_f rfl rfl) rfl ?_
    refine L_run (v := .bool false) (R_assign rfl) rfl ?_
    refine L_nil ?_
    refine T_normal ?_
    refine hK2 _ _ ?_
    clear hK2
    refine W_ret ?_
    refine Q_ret (v := .bool false) (res1 Tryd.results87 rfl) ?_
    exact ⟨by simp [*], rfl⟩

theorem C_Itoa (n : Int) (w : World) (htab : Lib.TabIs Tryd.prog w "internal/strconv.uint64pow10" .u64 Lib.pow10Tab) (h0 : -9223372036854775808 ≤ n) (h1 : n ≤ 9223372036854775807) :
    Ret Tryd.prog 99 #[.int .i64 n] w (fun v w' => v = .string (st (Lib.itoa n)) ∧ Same All w w') :=
  ret_lib (Tryd.strconv_Itoa n h0 h1 w htab) (fun w' h => by obtain ⟨k, os, e⟩ := h; exact ⟨rfl, by rw [e]; exact same_grow _ _ _⟩)

theorem C_iFormatInt (n : Int) (w : World) (htab : Lib.TabIs Tryd.prog w "internal/strconv.uint64pow10" .u64 Lib.pow10Tab) (h0 : -9223372036854775808 ≤ n) (h1 : n ≤ 9223372036854775807) :
    Ret Tryd.prog 60 #[.int .i64 n] w (fun v w' => v = .string (st (Lib.itoa n)) ∧ Same All w w') := by
  refine ret_of (args := [.int .i64 n]) Tryd.func60 rfl 5 Tryd.ntmps60 rfl ?_
  refine W_seq (fun K1 hK1 => ?_)
  refine W_region ?_
  refine L_run (v := .string (st ([]))) (R_assign rfl) rfl ?_
  refine L_nil ?_
  refine T_normal ?_
  refine hK1 _ _ ?_
  clear hK1
  refine W_seq (fun K2 hK2 => ?_)
  refine W_region ?_
  refine L_run (v := .int .i64 n) (R_move rfl) rfl ?_
  refine L_op rfl rfl ?_
  refine O_call (args := [.int .i64 n]) en99 rfl (C_Itoa n _ (htab) (by omega) (by omega)) ?_
  rintro _ w1 ⟨rfl, hs1⟩
  refine L_run (v := .string (st (Lib.itoa n))) (R_assign rfl) rfl ?_
  refine L_nil ?_
  refine T_normal ?_
  refine hK2 _ _ ?_
  clear hK2
  refine W_ret ?_
  refine Q_ret (v := .string (st (Lib.itoa n))) (res1 Tryd.results60 rfl) ?_
  exact ⟨rfl, (Same.trans (Same.refl All w) (Same.all hs1))⟩

theorem C_sParseUint (l : List UInt8) (w : World) :
    Ret Tryd.prog 89 #[.string (st l)] w (fun v w' => ∃ (r : Int) (ok : Bool), v = .tuple #[.int .i64 r, .bool ok] ∧ (PU l r ok) ∧ Same All w w') := by
  refine ret_of (args := [.string (st l)]) Tryd.func89 rfl 42 Tryd.ntmps89 rfl ?_
  refine W_seq (fun K1 hK1 => ?_)
  refine W_region ?_
  refine L_run (v := .int .i64 0) (R_assign rfl) rfl ?_
  refine L_run (v := .bool false) (R_assign rfl) rfl ?_
  refine L_nil ?_
  refine T_normal ?_
  refine hK1 _ _ ?_
  clear hK1
  refine W_seq (fun K2 hK2 => ?_)
  refine W_seq (fun K3 hK3 => ?_)
  refine W_region ?_
  refine L_run (v := .string (st l)) (R_move rfl) rfl ?_
  refine L_run (v := .int .i64 (l.length : Int)) (X_slen Tryd.underlying9 rfl) rfl ?_
  refine L_run (v := .bool (decide (10 < (l.length : Int)))) (R_gtr rfl rfl) rfl ?_
  refine L_nil ?_
  refine T_normal ?_
  refine hK3 _ _ ?_
  clear hK3
  refine W_cond (decide (10 < (l.length : Int))) rfl (fun hc0 => ?_) (fun hc0 => ?_)
  · have hc0 := of_decide_eq_true hc0
    refine W_seq (fun K4 hK4 => ?_)
    refine W_region ?_
    refine L_run (v := .int .i64 0) (R_assign rfl) rfl ?_
    refine L_run (v := .bool false) (R_assign rfl) rfl ?_
    refine L_nil ?_
    refine T_normal ?_
    refine hK4 _ _ ?_
    clear hK4
    refine W_ret ?_
    refine T_ret ?_
    refine Q_ret (v := .tuple #[.int .i64 0, .bool false]) (res2 Tryd.results89 rfl rfl) ?_
    clear hK2
    exact ⟨0, false, rfl, PU_len (by omega), (Same.refl All w)⟩
  · have hc0 := of_decide_eq_false hc0
    refine W_skip ?_
    refine T_normal ?_
    refine hK2 _ _ ?_
    clear hK2
    refine W_seq (fun K5 hK5 => ?_)
    refine W_region ?_
    refine L_run (v := .int .i64 0) (R_assign rfl) rfl ?_
    refine L_nil ?_
    refine T_normal ?_
    refine hK5 _ _ ?_
    clear hK5
    refine W_seq (fun K6 hK6 => ?_)
    refine W_seq (fun K7 hK7 => ?_)
    refine W_region ?_
    refine L_run (v := .int .i64 0) (R_assign rfl) rfl ?_
    refine L_nil ?_
    refine T_normal ?_
    refine hK7 _ _ ?_
    clear hK7
    refine W_block ?_
    refine W_loop (G := Nat × Int) [2, 3, 4, 5, 9, 10, 11, 12, 13, 14, 15, 16, 17, 18, 19, 20, 21, 22, 23, 24, 25, 26, 27, 28, 29, 30, 31, 32] (fun (i, n) => [(5, .int .i64 (i : Int)), (4, .int .i64 n)]) (fun (i, n) w' => i ≤ l.length ∧ n = (val (l.take i) : Int) ∧ (∀ b ∈ l.take i, isDig b = true) ∧ Same All w w') (fun (i, n) => l.length - i) (0, 0) ⟨rfl, rfl, trivial⟩ ?hj0 ?_
    case hj0 => exact ⟨Nat.zero_le _, rfl, (fun b hb => by simp at hb), Same.refl _ _⟩
    rintro ⟨i, n⟩ j1 w1 ⟨hj1, hj2, hj3, hj4⟩
    have hv := val_lt10 (i := i) (by omega) hj3
    refine W_seq (fun K8 hK8 => ?_)
    refine W_seq (fun K9 hK9 => ?_)
    refine W_region ?_
    refine L_run (v := .int .i64 (i : Int)) (R_move rfl) rfl ?_
    refine L_run (v := .string (st l)) (R_move rfl) rfl ?_
    refine L_run (v := .int .i64 (l.length : Int)) (X_slen Tryd.underlying9 rfl) rfl ?_
    refine L_run (v := .bool (decide ((i : Int) < (l.length : Int)))) (R_lss rfl rfl) rfl ?_
    refine L_nil ?_
    refine T_normal ?_
    refine hK9 _ _ ?_
    clear hK9
    refine W_cond (decide ((i : Int) < (l.length : Int))) rfl (fun hc1 => ?_) (fun hc1 => ?_)
    · have hc1 := of_decide_eq_true hc1
      refine W_skip ?_
      refine T_normal ?_
      refine hK8 _ _ ?_
      clear hK8
      refine W_seq (fun K10 hK10 => ?_)
      refine W_block ?_
      refine W_seq (fun K11 hK11 => ?_)
      refine W_seq (fun K12 hK12 => ?_)
      refine W_region ?_
      refine L_run (v := .string (st l)) (R_move rfl) rfl ?_
      refine L_run (v := .int .i64 (i : Int)) (R_move rfl) rfl ?_
      refine L_run (v := .int .u8 ((l.getD i 0).toNat : Int)) (X_sindex i Tryd.underlying9 rfl rfl rfl (by omega)) rfl ?_
      refine L_run (v := .bool (decide (((l.getD i 0).toNat : Int) < 48))) (R_lss rfl rfl) rfl ?_
      refine L_run (v := .bool (decide (((l.getD i 0).toNat : Int) < 48))) (R_move rfl) rfl ?_
      rcases Bool.eq_false_or_eq_true (decide (((l.getD i 0).toNat : Int) < 48)) with hg1 | hg1
      · have hg1p := of_decide_eq_true hg1
        try rw [hg1]
        refine L_no (e := 19) rfl rfl rfl rfl ?_
        refine L_no (e := 19) rfl rfl rfl rfl ?_
        refine L_no (e := 19) rfl rfl rfl rfl ?_
        refine L_no (e := 19) rfl rfl rfl rfl ?_
        refine L_run (v := .bool true) (R_pick_t rfl rfl) rfl ?_
        refine L_nil ?_
        refine T_normal ?_
        refine hK12 _ _ ?_
        clear hK12
        refine W_cond true rfl (fun _ => ?_) (fun h => by cases h)
        refine W_seq (fun K13 hK13 => ?_)
        refine W_region ?_
        refine L_run (v := .int .i64 0) (R_assign rfl) rfl ?_
        refine L_run (v := .bool false) (R_assign rfl) rfl ?_
        refine L_nil ?_
        refine T_normal ?_
        refine hK13 _ _ ?_
        clear hK13
        refine W_ret ?_
        refine T_ret ?_
        refine B_ret ?_
        refine T_ret ?_
        refine T_ret ?_
        refine B_ret ?_
        refine T_ret ?_
        refine Q_ret (v := .tuple #[.int .i64 0, .bool false]) (res2 Tryd.results89 rfl rfl) ?_
        clear hK11 hK10 hK6
        exact ⟨0, false, rfl, PU_dig (i := i) (by omega) (not_dig_lo hg1p), (Same.trans (Same.refl All w) (Same.all hj4))⟩
      · have hg1p := of_decide_eq_false hg1
        try rw [hg1]
        refine L_yesrun (e := 19) (v := .string (st l)) rfl rfl rfl (R_move rfl) rfl ?_
        refine L_yesrun (e := 19) (v := .int .i64 (i : Int)) rfl rfl rfl (R_move rfl) rfl ?_
        refine L_yesrun (e := 19) (v := .int .u8 ((l.getD i 0).toNat : Int)) rfl rfl rfl (X_sindex i Tryd.underlying9 rfl rfl rfl (by omega)) rfl ?_
        refine L_yesrun (e := 19) (v := .bool (decide (57 < ((l.getD i 0).toNat : Int)))) rfl rfl rfl (R_gtr rfl rfl) rfl ?_
        refine L_run (v := .bool (decide (57 < ((l.getD i 0).toNat : Int)))) (R_pick_f rfl rfl) rfl ?_
        refine L_nil ?_
        refine T_normal ?_
        refine hK12 _ _ ?_
        clear hK12
        refine W_cond (decide (57 < ((l.getD i 0).toNat : Int))) rfl (fun hc2 => ?_) (fun hc2 => ?_)
        · have hc2 := of_decide_eq_true hc2
          refine W_seq (fun K14 hK14 => ?_)
          refine W_region ?_
          refine L_run (v := .int .i64 0) (R_assign rfl) rfl ?_
          refine L_run (v := .bool false) (R_assign rfl) rfl ?_
          refine L_nil ?_
          refine T_normal ?_
          refine hK14 _ _ ?_
          clear hK14
          refine W_ret ?_
          refine T_ret ?_
          refine B_ret ?_
          refine T_ret ?_
          refine T_ret ?_
          refine B_ret ?_
          refine T_ret ?_
          refine Q_ret (v := .tuple #[.int .i64 0, .bool false]) (res2 Tryd.results89 rfl rfl) ?_
          clear hK11 hK10 hK6
          exact ⟨0, false, rfl, PU_dig (i := i) (by omega) (not_dig_hi hc2), (Same.trans (Same.refl All w) (Same.all hj4))⟩
        · have hc2 := of_decide_eq_false hc2
          refine W_skip ?_
          refine T_normal ?_
          refine hK11 _ _ ?_
          clear hK11
          refine W_region ?_
          refine L_run (v := .int .i64 n) (R_move rfl) rfl ?_
          refine L_run (v := .int .i64 (10 * n)) (R_mul rfl rfl (by omega) (by omega)) rfl ?_
          refine L_run (v := .string (st l)) (R_move rfl) rfl ?_
          refine L_run (v := .int .i64 (i : Int)) (R_move rfl) rfl ?_
          refine L_run (v := .int .u8 ((l.getD i 0).toNat : Int)) (X_sindex i Tryd.underlying9 rfl rfl rfl (by omega)) rfl ?_
          refine L_run (v := .int .i64 ((l.getD i 0).toNat : Int)) (R_ii64 (Option.isSome_iff_exists.2 ⟨_, Tryd.underlying5⟩) Tryd.underlying3 rfl (by omega) (by have := byte_lt (l.getD i 0); omega)) rfl ?_
          refine L_run (v := .int .i64 ((10 * n) + ((l.getD i 0).toNat : Int))) (R_add rfl rfl (by omega) (by omega)) rfl ?_
          refine L_run (v := .int .i64 (((10 * n) + ((l.getD i 0).toNat : Int)) - 48)) (R_sub rfl rfl (by omega) (by omega)) rfl ?_
          refine L_run (v := .int .i64 (((10 * n) + ((l.getD i 0).toNat : Int)) - 48)) (R_assign rfl) rfl ?_
          refine L_nil ?_
          refine B_normal ?_
          refine T_normal ?_
          refine hK10 _ _ ?_
          clear hK10
          refine W_region ?_
          refine L_run (v := .int .i64 (i : Int)) (R_move rfl) rfl ?_
          refine L_run (v := .int .i64 ((i : Int) + 1)) (R_add rfl rfl (by omega) (by omega)) rfl ?_
          refine L_run (v := .int .i64 ((i : Int) + 1)) (R_assign rfl) rfl ?_
          refine L_nil ?_
          refine T_normal ?_
          refine At.mk (i + 1, ((10 * n) + ((l.getD i 0).toNat : Int)) - 48) (Agree.upd rfl (Agree.upd rfl (Agree.upd rfl (Agree.upd rfl (Agree.upd rfl (Agree.upd rfl (Agree.upd rfl (Agree.upd rfl (Agree.upd rfl (Agree.upd rfl (Agree.upd rfl (Agree.upd rfl (Agree.upd rfl (Agree.upd rfl (Agree.upd rfl (Agree.upd rfl (Agree.upd rfl (Agree.upd rfl (Agree.upd rfl (Agree.upd rfl (Agree.upd rfl (Agree.upd rfl (Agree.upd rfl (Agree.upd rfl (Agree.upd rfl (Agree.upd rfl (Agree.upds rfl Agree.over))))))))))))))))))))))))))) ⟨rfl, rfl, trivial⟩ ?_
          have hst := pu_step (by omega) hj2 hj3 (dig_of hg1p hc2) (n' := ((10 * n) + ((l.getD i 0).toNat : Int)) - 48) (by omega)
          exact ⟨⟨by omega, hst.1, hst.2, (Same.trans (Same.refl All w) (Same.all hj4))⟩, by dsimp only; omega⟩
    · have hc1 := of_decide_eq_false hc1
      refine W_exit ?_
      refine T_exit ?_
      refine T_exit ?_
      refine B_hit ?_
      refine T_normal ?_
      refine hK6 _ _ ?_
      clear hK6
      refine W_seq (fun K15 hK15 => ?_)
      refine W_seq (fun K16 hK16 => ?_)
      refine W_region ?_
      refine L_run (v := .int .i64 n) (R_move rfl) rfl ?_
      refine L_run (v := .bool (decide (1000000000 < n))) (R_gtr rfl rfl) rfl ?_
      refine L_run (v := .bool (decide (1000000000 < n))) (R_move rfl) rfl ?_
      rcases Bool.eq_false_or_eq_true (decide (1000000000 < n)) with hg2 | hg2
      · have hg2p := of_decide_eq_true hg2
        try rw [hg2]
        refine L_no (e := 35) rfl rfl rfl rfl ?_
        refine L_no (e := 35) rfl rfl rfl rfl ?_
        refine L_no (e := 35) rfl rfl rfl rfl ?_
        refine L_no (e := 35) rfl rfl rfl rfl ?_
        refine L_run (v := .bool true) (R_pick_t rfl rfl) rfl ?_
        refine L_nil ?_
        refine T_normal ?_
        refine hK16 _ _ ?_
        clear hK16
        refine W_cond true rfl (fun _ => ?_) (fun h => by cases h)
        refine W_seq (fun K17 hK17 => ?_)
        refine W_region ?_
        refine L_run (v := .int .i64 0) (R_assign rfl) rfl ?_
        refine L_run (v := .bool false) (R_assign rfl) rfl ?_
        refine L_nil ?_
        refine T_normal ?_
        refine hK17 _ _ ?_
        clear hK17
        refine W_ret ?_
        refine T_ret ?_
        refine Q_ret (v := .tuple #[.int .i64 0, .bool false]) (res2 Tryd.results89 rfl rfl) ?_
        clear hK15 hK8
        exact ⟨0, false, rfl, PU_bad (val_all hj2 (by omega)) (.inl hg2p), (Same.trans (Same.refl All w) (Same.all hj4))⟩
      · have hg2p := of_decide_eq_false hg2
        try rw [hg2]
        refine L_yesrun (e := 35) (v := .int .i64 n) rfl rfl rfl (R_move rfl) rfl ?_
        refine L_yes (d := 35) rfl rfl rfl rfl rfl ?_
        refine O_call (args := [.int .i64 n]) en91 rfl (C_sFormatInt n _ (by omega) (by omega)) ?_
        rintro _ w2 ⟨rfl, hs1⟩
        refine L_yesrun (e := 35) (v := .string (st l)) rfl rfl rfl (R_move rfl) rfl ?_
        refine L_yesrun (e := 35) (v := .bool (!decide (Lib.itoa n = l))) rfl rfl rfl (X_sneq rfl rfl) rfl ?_
        refine L_run (v := .bool (!decide (Lib.itoa n = l))) (R_pick_f rfl rfl) rfl ?_
        refine L_nil ?_
        refine T_normal ?_
        refine hK16 _ _ ?_
        clear hK16
        refine W_cond (!decide (Lib.itoa n = l)) rfl (fun hc3 => ?_) (fun hc3 => ?_)
        · have hc3 := not_t hc3
          refine W_seq (fun K18 hK18 => ?_)
          refine W_region ?_
          refine L_run (v := .int .i64 0) (R_assign rfl) rfl ?_
          refine L_run (v := .bool false) (R_assign rfl) rfl ?_
          refine L_nil ?_
          refine T_normal ?_
          refine hK18 _ _ ?_
          clear hK18
          refine W_ret ?_
          refine T_ret ?_
          refine Q_ret (v := .tuple #[.int .i64 0, .bool false]) (res2 Tryd.results89 rfl rfl) ?_
          clear hK15 hK8
          exact ⟨0, false, rfl, PU_bad (val_all hj2 (by omega)) (.inr hc3), (Same.trans (Same.trans (Same.refl All w) (Same.all hj4)) (Same.all hs1))⟩
        · have hc3 := not_f hc3
          refine W_skip ?_
          refine T_normal ?_
          refine hK15 _ _ ?_
          clear hK15
          refine W_seq (fun K19 hK19 => ?_)
          refine W_region ?_
          refine L_run (v := .int .i64 n) (R_move rfl) rfl ?_
          refine L_run (v := .int .i64 n) (R_assign rfl) rfl ?_
          refine L_run (v := .bool true) (R_assign rfl) rfl ?_
          refine L_nil ?_
          refine T_normal ?_
          refine hK19 _ _ ?_
          clear hK19
          refine W_ret ?_
          refine Q_ret (v := .tuple #[.int .i64 n, .bool true]) (res2 Tryd.results89 rfl rfl) ?_
          clear hK8
          exact ⟨_, _, rfl, PU_good (val_all hj2 (by omega)) hg2p hc3, (Same.trans (Same.trans (Same.refl All w) (Same.all hj4)) (Same.all hs1))⟩

end Go.Proofs.YtpfbheodbgkgmaaDoor
