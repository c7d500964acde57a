/- The walk of the model ParsePair. -/
import Derived.Test.YtpfbheodbgkgmaaDoorGxStr
import Derived.Test.YtpfbheodbgkgmaaDoorGxTxt
import Derived.Test.YtpfbheodbgkgmaaDoorChecked
import Derived.Test.YtpfbheodbgkgmaaDoorShelf
import Derived.Test.YtpfbheodbgkgmaaDoorTa
import Derived.Test.YtpfbheodbgkgmaaDoorTb
set_option linter.unusedSimpArgs false
set_option linter.unusedVariables false
namespace Go.Proofs.YtpfbheodbgkgmaaDoor
open Go Gx Go.Proofs
attribute [local irreducible] OpW wpL WC anyL Run
theorem en53 : Enters Tryd.prog 53 := enters Tryd.func53 rfl (by kernel_rfl)
theorem en54 : Enters Tryd.prog 54 := enters Tryd.func54 rfl (by kernel_rfl)
theorem C_sParsePair (s : List UInt8) (w : World) :
    Ret Tryd.prog 22 #[.string (st s)] w (fun v w' => ∃ (a : Int) (b : Int) (ok : Bool), v = .tuple #[.int .i64 a, .int .i64 b, .bool ok] ∧ (PP s a b ok) ∧ Same All w w') := by
  refine ret_of (args := [.string (st s)]) Tryd.func22 rfl 72 Tryd.ntmps22 rfl ?_
  refine W_seq (fun K1 hK1 => ?_)
  refine W_region ?_
  refine L_run (v := .int .i64 0) (R_assign rfl) rfl ?_
  refine L_run (v := .int .i64 0) (R_assign rfl) rfl ?_
  refine L_run (v := .bool false) (R_assign rfl) rfl ?_
  refine L_nil ?_
  refine T_normal ?_
  refine hK1 _ _ ?_
  clear hK1
  refine W_seq (fun K2 hK2 => ?_)
  refine W_seq (fun K3 hK3 => ?_)
  refine W_region ?_
  refine L_run (v := .string (st s)) (R_move rfl) rfl ?_
  refine L_run (v := .int .i64 (s.length : Int)) (X_slen Tryd.underlying9 rfl) rfl ?_
  refine L_run (v := .bool (decide ((s.length : Int) < 5))) (R_lss rfl rfl) rfl ?_
  refine L_run (v := .bool (decide ((s.length : Int) < 5))) (R_move rfl) rfl ?_
  rcases Bool.eq_false_or_eq_true (decide ((s.length : Int) < 5)) with hg1 | hg1
  · have hg1p := of_decide_eq_true hg1
    try rw [hg1]
    refine L_no (e := 13) rfl rfl rfl rfl ?_
    refine L_no (e := 13) rfl rfl rfl rfl ?_
    refine L_no (e := 13) rfl rfl rfl rfl ?_
    refine L_run (v := .bool true) (R_pick_t rfl rfl) rfl ?_
    refine L_nil ?_
    refine T_normal ?_
    refine hK3 _ _ ?_
    clear hK3
    refine W_cond true rfl (fun _ => ?_) (fun h => by cases h)
    refine W_seq (fun K4 hK4 => ?_)
    refine W_region ?_
    refine L_run (v := .int .i64 0) (R_assign rfl) rfl ?_
    refine L_run (v := .int .i64 0) (R_assign rfl) rfl ?_
    refine L_run (v := .bool false) (R_assign rfl) rfl ?_
    refine L_nil ?_
    refine T_normal ?_
    refine hK4 _ _ ?_
    clear hK4
    refine W_ret ?_
    refine T_ret ?_
    refine Q_ret (v := .tuple #[.int .i64 0, .int .i64 0, .bool false]) (res3 Tryd.results22 rfl rfl rfl) ?_
    clear hK2
    exact ⟨0, 0, false, rfl, PP_short (by omega), (Same.refl All w)⟩
  · have hg1p := of_decide_eq_false hg1
    try rw [hg1]
    refine L_yesrun (e := 13) (v := .string (st s)) rfl rfl rfl (R_move rfl) rfl ?_
    refine L_yesrun (e := 13) (v := .int .i64 (s.length : Int)) rfl rfl rfl (X_slen Tryd.underlying9 rfl) rfl ?_
    refine L_yesrun (e := 13) (v := .bool (decide (30 < (s.length : Int)))) rfl rfl rfl (R_gtr rfl rfl) rfl ?_
    refine L_run (v := .bool (decide (30 < (s.length : Int)))) (R_pick_f rfl rfl) rfl ?_
    refine L_nil ?_
    refine T_normal ?_
    refine hK3 _ _ ?_
    clear hK3
    refine W_cond (decide (30 < (s.length : Int))) rfl (fun hc0 => ?_) (fun hc0 => ?_)
    · have hc0 := of_decide_eq_true hc0
      refine W_seq (fun K5 hK5 => ?_)
      refine W_region ?_
      refine L_run (v := .int .i64 0) (R_assign rfl) rfl ?_
      refine L_run (v := .int .i64 0) (R_assign rfl) rfl ?_
      refine L_run (v := .bool false) (R_assign rfl) rfl ?_
      refine L_nil ?_
      refine T_normal ?_
      refine hK5 _ _ ?_
      clear hK5
      refine W_ret ?_
      refine T_ret ?_
      refine Q_ret (v := .tuple #[.int .i64 0, .int .i64 0, .bool false]) (res3 Tryd.results22 rfl rfl rfl) ?_
      clear hK2
      exact ⟨0, 0, false, rfl, PP_long (by omega), (Same.refl All w)⟩
    · have hc0 := of_decide_eq_false hc0
      refine W_skip ?_
      refine T_normal ?_
      refine hK2 _ _ ?_
      clear hK2
      refine W_seq (fun K6 hK6 => ?_)
      refine W_region ?_
      refine L_run (v := .int .i64 1) (R_assign rfl) rfl ?_
      refine L_nil ?_
      refine T_normal ?_
      refine hK6 _ _ ?_
      clear hK6
      refine W_meet (G := Nat) [5, 18, 19, 20, 21, 22, 23, 24, 25, 26, 27, 28, 29, 30, 31, 32, 33, 34, 35] (fun i => [(5, .int .i64 (i : Int))]) (fun i w' => 1 ≤ i ∧ i ≤ s.length ∧ (∀ j, 1 ≤ j → j < i → ¬ isSgn (s.getD j 0)) ∧ (i < s.length → isSgn (s.getD i 0)) ∧ Same All w w') ?_ ?_
      · skip
        refine W_block ?_
        refine W_loop (G := Nat) [5, 18, 19, 20, 21, 22, 23, 24, 25, 26, 27, 28, 29, 30, 31, 32, 33, 34, 35] (fun i => [(5, .int .i64 (i : Int))]) (fun i w' => 1 ≤ i ∧ i ≤ s.length ∧ (∀ j, 1 ≤ j → j < i → ¬ isSgn (s.getD j 0)) ∧ Same All w w') (fun i => s.length - i) 1 ⟨rfl, trivial⟩ ?hj0 ?_
        case hj0 => exact ⟨by omega, by omega, (fun j h1 h2 => by omega), Same.refl _ _⟩
        rintro i j1 w1 ⟨hj1, hj2, hj3, hj4⟩
        refine W_seq (fun K7 hK7 => ?_)
        refine W_seq (fun K8 hK8 => ?_)
        refine W_region ?_
        refine L_run (v := .int .i64 (i : Int)) (R_move rfl) rfl ?_
        refine L_run (v := .string (st s)) (R_move rfl) rfl ?_
        refine L_run (v := .int .i64 (s.length : Int)) (X_slen Tryd.underlying9 rfl) rfl ?_
        refine L_run (v := .bool (decide ((i : Int) < (s.length : Int)))) (R_lss rfl rfl) rfl ?_
        refine L_run (v := .bool (decide ((i : Int) < (s.length : Int)))) (R_move rfl) rfl ?_
        rcases Bool.eq_false_or_eq_true (decide ((i : Int) < (s.length : Int))) with hg2 | hg2
        · have hg2p := of_decide_eq_true hg2
          try rw [hg2]
          refine L_yesrun (e := 22) (v := .string (st s)) rfl rfl rfl (R_move rfl) rfl ?_
          refine L_yesrun (e := 22) (v := .int .i64 (i : Int)) rfl rfl rfl (R_move rfl) rfl ?_
          refine L_yesrun (e := 22) (v := .int .u8 ((s.getD i 0).toNat : Int)) rfl rfl rfl (X_sindex i Tryd.underlying9 rfl rfl rfl (by omega)) rfl ?_
          refine L_yesrun (e := 22) (v := .bool (!decide (((s.getD i 0).toNat : Int) = 43))) rfl rfl rfl (R_neq rfl rfl) rfl ?_
          refine L_run (v := .bool (!decide (((s.getD i 0).toNat : Int) = 43))) (R_pick_t rfl rfl) rfl ?_
          refine L_run (v := .bool (!decide (((s.getD i 0).toNat : Int) = 43))) (R_move rfl) rfl ?_
          rcases Bool.eq_false_or_eq_true (!decide (((s.getD i 0).toNat : Int) = 43)) with hg3 | hg3
          · have hg3p := not_t hg3
            try rw [hg3]
            refine L_yesrun (e := 28) (v := .string (st s)) rfl rfl rfl (R_move rfl) rfl ?_
            refine L_yesrun (e := 28) (v := .int .i64 (i : Int)) rfl rfl rfl (R_move rfl) rfl ?_
            refine L_yesrun (e := 28) (v := .int .u8 ((s.getD i 0).toNat : Int)) rfl rfl rfl (X_sindex i Tryd.underlying9 rfl rfl rfl (by omega)) rfl ?_
            refine L_yesrun (e := 28) (v := .bool (!decide (((s.getD i 0).toNat : Int) = 45))) rfl rfl rfl (R_neq rfl rfl) rfl ?_
            refine L_run (v := .bool (!decide (((s.getD i 0).toNat : Int) = 45))) (R_pick_t rfl rfl) rfl ?_
            refine L_nil ?_
            refine T_normal ?_
            refine hK8 _ _ ?_
            clear hK8
            refine W_cond (!decide (((s.getD i 0).toNat : Int) = 45)) rfl (fun hc1 => ?_) (fun hc1 => ?_)
            · have hc1 := not_t hc1
              refine W_skip ?_
              refine T_normal ?_
              refine hK7 _ _ ?_
              clear hK7
              refine W_block ?_
              refine W_region ?_
              refine L_run (v := .int .i64 (i : Int)) (R_move rfl) rfl ?_
              refine L_run (v := .int .i64 ((i : Int) + 1)) (R_add rfl rfl (by omega) (by omega)) rfl ?_
              refine L_run (v := .int .i64 ((i : Int) + 1)) (R_assign rfl) rfl ?_
              refine L_nil ?_
              refine B_normal ?_
              refine T_normal ?_
              refine At.mk (i + 1) (Agree.upd rfl (Agree.upd rfl (Agree.upd rfl (Agree.upd rfl (Agree.upd rfl (Agree.upd rfl (Agree.upd rfl (Agree.upd rfl (Agree.upd rfl (Agree.upd rfl (Agree.upd rfl (Agree.upd rfl (Agree.upd rfl (Agree.upd rfl (Agree.upd rfl (Agree.upd rfl (Agree.upd rfl (Agree.upd rfl (Agree.upd rfl (Agree.upds rfl Agree.over)))))))))))))))))))) ⟨rfl, trivial⟩ ?_
              have hx : ∀ j, 1 ≤ j → j < i + 1 → ¬ isSgn (s.getD j 0) := by
                intro j h1 h2
                by_cases e : j < i
                · exact hj3 j h1 e
                · rw [show j = i by omega]; unfold isSgn; omega
              exact ⟨⟨by omega, by omega, hx, (Same.trans (Same.refl All w) (Same.all hj4))⟩, by omega⟩
            · have hc1 := not_f hc1
              refine W_exit ?_
              refine T_exit ?_
              refine T_exit ?_
              refine B_hit ?_
              refine T_normal ?_
              refine At.mk i (Agree.upd rfl (Agree.upd rfl (Agree.upd rfl (Agree.upd rfl (Agree.upd rfl (Agree.upd rfl (Agree.upd rfl (Agree.upd rfl (Agree.upd rfl (Agree.upd rfl (Agree.upd rfl (Agree.upd rfl (Agree.upd rfl (Agree.upd rfl (Agree.upd rfl (Agree.upd rfl (Agree.upds rfl Agree.over))))))))))))))))) ⟨rfl, trivial⟩ ?_
              exact ⟨hj1, hj2, hj3, fun hlt => by first | omega | (unfold isSgn; omega), (Same.trans (Same.refl All w) (Same.all hj4))⟩
          · have hg3p := not_f hg3
            try rw [hg3]
            refine L_no (e := 28) rfl rfl rfl rfl ?_
            refine L_no (e := 28) rfl rfl rfl rfl ?_
            refine L_no (e := 28) rfl rfl rfl rfl ?_
            refine L_no (e := 28) rfl rfl rfl rfl ?_
            refine L_run (v := .bool false) (R_pick_f rfl rfl) rfl ?_
            refine L_nil ?_
            refine T_normal ?_
            refine hK8 _ _ ?_
            clear hK8
            refine W_cond false rfl (fun h => by cases h) (fun _ => ?_)
            refine W_exit ?_
            refine T_exit ?_
            refine T_exit ?_
            refine B_hit ?_
            refine T_normal ?_
            refine At.mk i (Agree.upd rfl (Agree.upd rfl (Agree.upd rfl (Agree.upd rfl (Agree.upd rfl (Agree.upd rfl (Agree.upd rfl (Agree.upd rfl (Agree.upd rfl (Agree.upd rfl (Agree.upd rfl (Agree.upd rfl (Agree.upd rfl (Agree.upd rfl (Agree.upd rfl (Agree.upd rfl (Agree.upds rfl Agree.over))))))))))))))))) ⟨rfl, trivial⟩ ?_
            exact ⟨hj1, hj2, hj3, fun hlt => by first | omega | (unfold isSgn; omega), (Same.trans (Same.refl All w) (Same.all hj4))⟩
        · have hg2p := of_decide_eq_false hg2
          try rw [hg2]
          refine L_no (e := 22) rfl rfl rfl rfl ?_
          refine L_no (e := 22) rfl rfl rfl rfl ?_
          refine L_no (e := 22) rfl rfl rfl rfl ?_
          refine L_no (e := 22) rfl rfl rfl rfl ?_
          refine L_run (v := .bool false) (R_pick_f rfl rfl) rfl ?_
          refine L_run (v := .bool false) (R_move rfl) rfl ?_
          refine L_no (e := 28) rfl rfl rfl rfl ?_
          refine L_no (e := 28) rfl rfl rfl rfl ?_
          refine L_no (e := 28) rfl rfl rfl rfl ?_
          refine L_no (e := 28) rfl rfl rfl rfl ?_
          refine L_run (v := .bool false) (R_pick_f rfl rfl) rfl ?_
          refine L_nil ?_
          refine T_normal ?_
          refine hK8 _ _ ?_
          clear hK8
          refine W_cond false rfl (fun h => by cases h) (fun _ => ?_)
          refine W_exit ?_
          refine T_exit ?_
          refine T_exit ?_
          refine B_hit ?_
          refine T_normal ?_
          refine At.mk i (Agree.upd rfl (Agree.upd rfl (Agree.upd rfl (Agree.upd rfl (Agree.upd rfl (Agree.upd rfl (Agree.upd rfl (Agree.upd rfl (Agree.upd rfl (Agree.upd rfl (Agree.upd rfl (Agree.upd rfl (Agree.upd rfl (Agree.upd rfl (Agree.upd rfl (Agree.upd rfl (Agree.upds rfl Agree.over))))))))))))))))) ⟨rfl, trivial⟩ ?_
          exact ⟨hj1, hj2, hj3, fun hlt => by first | omega | (unfold isSgn; omega), (Same.trans (Same.refl All w) (Same.all hj4))⟩
      · rintro i j2 w2 ⟨hm1, hm2, hm3, hm4, hm5⟩
        refine W_seq (fun K9 hK9 => ?_)
        refine W_seq (fun K10 hK10 => ?_)
        refine W_region ?_
        refine L_run (v := .int .i64 (i : Int)) (R_move rfl) rfl ?_
        refine L_run (v := .string (st s)) (R_move rfl) rfl ?_
        refine L_run (v := .int .i64 (s.length : Int)) (X_slen Tryd.underlying9 rfl) rfl ?_
        refine L_run (v := .bool (decide ((s.length : Int) ≤ (i : Int)))) (R_geq rfl rfl) rfl ?_
        refine L_nil ?_
        refine T_normal ?_
        refine hK10 _ _ ?_
        clear hK10
        refine W_cond (decide ((s.length : Int) ≤ (i : Int))) rfl (fun hc2 => ?_) (fun hc2 => ?_)
        · have hc2 := of_decide_eq_true hc2
          refine W_seq (fun K11 hK11 => ?_)
          refine W_region ?_
          refine L_run (v := .int .i64 0) (R_assign rfl) rfl ?_
          refine L_run (v := .int .i64 0) (R_assign rfl) rfl ?_
          refine L_run (v := .bool false) (R_assign rfl) rfl ?_
          refine L_nil ?_
          refine T_normal ?_
          refine hK11 _ _ ?_
          clear hK11
          refine W_ret ?_
          refine T_ret ?_
          refine Q_ret (v := .tuple #[.int .i64 0, .int .i64 0, .bool false]) (res3 Tryd.results22 rfl rfl rfl) ?_
          clear hK9
          exact ⟨0, 0, false, rfl, PP_no fun x y hx hy e => by have := (scan_fp e hm1 hm2 hm3 hm4).1; omega, (Same.trans (Same.refl All w) (Same.all hm5))⟩
        · have hc2 := of_decide_eq_false hc2
          refine W_skip ?_
          refine T_normal ?_
          refine hK9 _ _ ?_
          clear hK9
          refine W_seq (fun K12 hK12 => ?_)
          refine W_region ?_
          refine L_run (v := .string (st s)) (R_move rfl) rfl ?_
          refine L_run (v := .int .i64 (i : Int)) (R_move rfl) rfl ?_
          refine L_run (v := .string (st (s.take i))) (X_sslice0 i rfl ⟨_, _, rfl, rfl⟩ (by omega) Tryd.underlying9) rfl ?_
          refine L_op rfl rfl ?_
          refine O_call (args := [.string (st (s.take i))]) en53 rfl (C_l10Number (s.take i) _) ?_
          rintro _ w3 ⟨r1, ok1, rfl, hln1, hs1⟩
          refine L_run (v := .tuple #[.int .i64 r1, .bool ok1]) (R_move rfl) rfl ?_
          refine L_run (v := .int .i64 r1) (R_extract rfl rfl) rfl ?_
          refine L_run (v := .bool ok1) (R_extract rfl rfl) rfl ?_
          refine L_run (v := .int .i64 r1) (R_assign rfl) rfl ?_
          refine L_run (v := .bool ok1) (R_assign rfl) rfl ?_
          refine L_nil ?_
          refine T_normal ?_
          refine hK12 _ _ ?_
          clear hK12
          refine W_seq (fun K13 hK13 => ?_)
          refine W_region ?_
          refine L_run (v := .string (st s)) (R_move rfl) rfl ?_
          refine L_run (v := .int .i64 (i : Int)) (R_move rfl) rfl ?_
          refine L_run (v := .string (st s)) (R_move rfl) rfl ?_
          refine L_run (v := .int .i64 (s.length : Int)) (X_slen Tryd.underlying9 rfl) rfl ?_
          refine L_run (v := .int .i64 ((s.length : Int) - 1)) (R_sub rfl rfl (by omega) (by omega)) rfl ?_
          refine L_run (v := .string (st ((s.take (Int.toNat ((s.length : Int) - 1))).drop i))) (X_sslice i (Int.toNat ((s.length : Int) - 1)) rfl ⟨_, _, rfl, rfl⟩ ⟨_, _, rfl, (by omega)⟩ (by omega) (by omega) Tryd.underlying9) rfl ?_
          refine L_op rfl rfl ?_
          refine O_call (args := [.string (st ((s.take (Int.toNat ((s.length : Int) - 1))).drop i))]) en53 rfl (C_l10Number ((s.take (Int.toNat ((s.length : Int) - 1))).drop i) _) ?_
          rintro _ w4 ⟨r2, ok2, rfl, hln2, hs2⟩
          refine L_run (v := .tuple #[.int .i64 r2, .bool ok2]) (R_move rfl) rfl ?_
          refine L_run (v := .int .i64 r2) (R_extract rfl rfl) rfl ?_
          refine L_run (v := .bool ok2) (R_extract rfl rfl) rfl ?_
          refine L_run (v := .int .i64 r2) (R_assign rfl) rfl ?_
          refine L_run (v := .bool ok2) (R_assign rfl) rfl ?_
          refine L_nil ?_
          refine T_normal ?_
          refine hK13 _ _ ?_
          clear hK13
          refine W_seq (fun K14 hK14 => ?_)
          refine W_seq (fun K15 hK15 => ?_)
          refine W_region ?_
          refine L_run (v := .bool ok1) (R_move rfl) rfl ?_
          refine L_run (v := .bool (!ok1)) (R_not rfl) rfl ?_
          refine L_run (v := .bool (!ok1)) (R_move rfl) rfl ?_
          rcases Bool.eq_false_or_eq_true (!ok1) with hg4 | hg4
          · have hg4p := notb_t hg4
            try rw [hg4]
            refine L_no (e := 59) rfl rfl rfl rfl ?_
            refine L_no (e := 59) rfl rfl rfl rfl ?_
            refine L_run (v := .bool true) (R_pick_t rfl rfl) rfl ?_
            refine L_run (v := .bool true) (R_move rfl) rfl ?_
            refine L_no (e := 63) rfl rfl rfl rfl ?_
            refine L_no (e := 63) rfl rfl rfl rfl ?_
            refine L_no (e := 63) rfl rfl rfl rfl ?_
            refine L_no (e := 63) rfl rfl rfl rfl ?_
            refine L_no (e := 63) rfl rfl rfl rfl ?_
            refine L_run (v := .bool true) (R_pick_t rfl rfl) rfl ?_
            refine L_nil ?_
            refine T_normal ?_
            refine hK15 _ _ ?_
            clear hK15
            refine W_cond true rfl (fun _ => ?_) (fun h => by cases h)
            refine W_seq (fun K16 hK16 => ?_)
            refine W_region ?_
            refine L_run (v := .int .i64 0) (R_assign rfl) rfl ?_
            refine L_run (v := .int .i64 0) (R_assign rfl) rfl ?_
            refine L_run (v := .bool false) (R_assign rfl) rfl ?_
            refine L_nil ?_
            refine T_normal ?_
            refine hK16 _ _ ?_
            clear hK16
            refine W_ret ?_
            refine T_ret ?_
            refine Q_ret (v := .tuple #[.int .i64 0, .int .i64 0, .bool false]) (res3 Tryd.results22 rfl rfl rfl) ?_
            clear hK14
            have hno : ∀ x y, inQ x → inQ y → fp x y = s → False := by
              intro x y hx hy e
              obtain ⟨h1, h2, h3⟩ := scan_fp e hm1 hm2 hm3 hm4
              have hk : Int.toNat ((s.length : Int) - 1) = s.length - 1 := by omega
              rw [hk] at hln2
              have h4 := LN_sg hln1 h2 hx
              have h5 := LN_sg hln2 h3 hy
              rw [hg4p] at h4; cases h4.1
            exact ⟨0, 0, false, rfl, PP_no hno, (Same.trans (Same.trans (Same.trans (Same.refl All w) (Same.all hm5)) (Same.all hs1)) (Same.all hs2))⟩
          · have hg4p := notb_f hg4
            try rw [hg4]
            refine L_yesrun (e := 59) (v := .bool ok2) rfl rfl rfl (R_move rfl) rfl ?_
            refine L_yesrun (e := 59) (v := .bool (!ok2)) rfl rfl rfl (R_not rfl) rfl ?_
            refine L_run (v := .bool (!ok2)) (R_pick_f rfl rfl) rfl ?_
            refine L_run (v := .bool (!ok2)) (R_move rfl) rfl ?_
            rcases Bool.eq_false_or_eq_true (!ok2) with hg5 | hg5
            · have hg5p := notb_t hg5
              try rw [hg5]
              refine L_no (e := 63) rfl rfl rfl rfl ?_
              refine L_no (e := 63) rfl rfl rfl rfl ?_
              refine L_no (e := 63) rfl rfl rfl rfl ?_
              refine L_no (e := 63) rfl rfl rfl rfl ?_
              refine L_no (e := 63) rfl rfl rfl rfl ?_
              refine L_run (v := .bool true) (R_pick_t rfl rfl) rfl ?_
              refine L_nil ?_
              refine T_normal ?_
              refine hK15 _ _ ?_
              clear hK15
              refine W_cond true rfl (fun _ => ?_) (fun h => by cases h)
              refine W_seq (fun K17 hK17 => ?_)
              refine W_region ?_
              refine L_run (v := .int .i64 0) (R_assign rfl) rfl ?_
              refine L_run (v := .int .i64 0) (R_assign rfl) rfl ?_
              refine L_run (v := .bool false) (R_assign rfl) rfl ?_
              refine L_nil ?_
              refine T_normal ?_
              refine hK17 _ _ ?_
              clear hK17
              refine W_ret ?_
              refine T_ret ?_
              refine Q_ret (v := .tuple #[.int .i64 0, .int .i64 0, .bool false]) (res3 Tryd.results22 rfl rfl rfl) ?_
              clear hK14
              have hno : ∀ x y, inQ x → inQ y → fp x y = s → False := by
                intro x y hx hy e
                obtain ⟨h1, h2, h3⟩ := scan_fp e hm1 hm2 hm3 hm4
                have hk : Int.toNat ((s.length : Int) - 1) = s.length - 1 := by omega
                rw [hk] at hln2
                have h4 := LN_sg hln1 h2 hx
                have h5 := LN_sg hln2 h3 hy
                rw [hg5p] at h5; cases h5.1
              exact ⟨0, 0, false, rfl, PP_no hno, (Same.trans (Same.trans (Same.trans (Same.refl All w) (Same.all hm5)) (Same.all hs1)) (Same.all hs2))⟩
            · have hg5p := notb_f hg5
              try rw [hg5]
              refine L_yesrun (e := 63) (v := .int .i64 r1) rfl rfl rfl (R_move rfl) rfl ?_
              refine L_yesrun (e := 63) (v := .int .i64 r2) rfl rfl rfl (R_move rfl) rfl ?_
              refine L_yes (d := 63) rfl rfl rfl rfl rfl ?_
              refine O_call (args := [.int .i64 r1, .int .i64 r2]) en54 rfl (C_sFormatPair r1 r2 _) ?_
              rintro _ w5 ⟨t1, rfl, hfp1, hs3⟩
              have hlenhfp1 := FPR.len hfp1
              refine L_yesrun (e := 63) (v := .string (st s)) rfl rfl rfl (R_move rfl) rfl ?_
              refine L_yesrun (e := 63) (v := .bool (!decide (t1 = s))) rfl rfl rfl (X_sneq rfl rfl) rfl ?_
              refine L_run (v := .bool (!decide (t1 = s))) (R_pick_f rfl rfl) rfl ?_
              refine L_nil ?_
              refine T_normal ?_
              refine hK15 _ _ ?_
              clear hK15
              refine W_cond (!decide (t1 = s)) rfl (fun hc3 => ?_) (fun hc3 => ?_)
              · have hc3 := not_t hc3
                refine W_seq (fun K18 hK18 => ?_)
                refine W_region ?_
                refine L_run (v := .int .i64 0) (R_assign rfl) rfl ?_
                refine L_run (v := .int .i64 0) (R_assign rfl) rfl ?_
                refine L_run (v := .bool false) (R_assign rfl) rfl ?_
                refine L_nil ?_
                refine T_normal ?_
                refine hK18 _ _ ?_
                clear hK18
                refine W_ret ?_
                refine T_ret ?_
                refine Q_ret (v := .tuple #[.int .i64 0, .int .i64 0, .bool false]) (res3 Tryd.results22 rfl rfl rfl) ?_
                clear hK14
                have hno : ∀ x y, inQ x → inQ y → fp x y = s → False := by
                  intro x y hx hy e
                  obtain ⟨h1, h2, h3⟩ := scan_fp e hm1 hm2 hm3 hm4
                  have hk : Int.toNat ((s.length : Int) - 1) = s.length - 1 := by omega
                  rw [hk] at hln2
                  have h4 := LN_sg hln1 h2 hx
                  have h5 := LN_sg hln2 h3 hy
                  rw [h4.2, h5.2] at hfp1
                  exact hc3 ((hfp1.1 hx hy).trans e)
                exact ⟨0, 0, false, rfl, PP_no hno, (Same.trans (Same.trans (Same.trans (Same.trans (Same.refl All w) (Same.all hm5)) (Same.all hs1)) (Same.all hs2)) (Same.all hs3))⟩
              · have hc3 := not_f hc3
                refine W_skip ?_
                refine T_normal ?_
                refine hK14 _ _ ?_
                clear hK14
                refine W_seq (fun K19 hK19 => ?_)
                refine W_region ?_
                refine L_run (v := .int .i64 r1) (R_move rfl) rfl ?_
                refine L_run (v := .int .i64 r2) (R_move rfl) rfl ?_
                refine L_run (v := .int .i64 r1) (R_assign rfl) rfl ?_
                refine L_run (v := .int .i64 r2) (R_assign rfl) rfl ?_
                refine L_run (v := .bool true) (R_assign rfl) rfl ?_
                refine L_nil ?_
                refine T_normal ?_
                refine hK19 _ _ ?_
                clear hK19
                refine W_ret ?_
                refine Q_ret (v := .tuple #[.int .i64 r1, .int .i64 r2, .bool true]) (res3 Tryd.results22 rfl rfl rfl) ?_
                exact ⟨_, _, _, rfl, PP_good hfp1 hc3 (by omega), (Same.trans (Same.trans (Same.trans (Same.trans (Same.refl All w) (Same.all hm5)) (Same.all hs1)) (Same.all hs2)) (Same.all hs3))⟩

end Go.Proofs.YtpfbheodbgkgmaaDoor
