/- The walks of ParsePair and of the law that holds it against the model. -/
import Derived.Test.YtpfbheodbgkgmaaDoorGxStr
import Derived.Test.YtpfbheodbgkgmaaDoorGxTxt
import Derived.Test.YtpfbheodbgkgmaaDoorChecked
import Derived.Test.YtpfbheodbgkgmaaDoorShelf
import Derived.Test.YtpfbheodbgkgmaaDoorTa
import Derived.Test.YtpfbheodbgkgmaaDoorTb
import Derived.Test.YtpfbheodbgkgmaaDoorTc
import Derived.Test.YtpfbheodbgkgmaaDoorTd
import Derived.Test.YtpfbheodbgkgmaaDoorTw
import Derived.Test.YtpfbheodbgkgmaaDoorTf
import Derived.Test.YtpfbheodbgkgmaaDoorTg
import Derived.Test.YtpfbheodbgkgmaaDoorTh
set_option linter.unusedSimpArgs false
set_option linter.unusedVariables false
namespace Go.Proofs.YtpfbheodbgkgmaaDoor
open Go Gx Go.Proofs
attribute [local irreducible] OpW wpL WC anyL Run
theorem inf4 : Inf Tryd.prog 4 1 1 (.bool false) := inf_of (by kernel_rfl)
theorem en11 : Enters Tryd.prog 11 := enters Tryd.func11 rfl (by kernel_rfl)
theorem en12 : Enters Tryd.prog 12 := enters Tryd.func12 rfl (by kernel_rfl)
theorem en22 : Enters Tryd.prog 22 := enters Tryd.func22 rfl (by kernel_rfl)
theorem en37 : Enters Tryd.prog 37 := enters Tryd.func37 rfl (by kernel_rfl)
theorem en38 : Enters Tryd.prog 38 := enters Tryd.func38 rfl (by kernel_rfl)
theorem en39 : Enters Tryd.prog 39 := enters Tryd.func39 rfl (by kernel_rfl)
theorem C_iParsePair (s : List UInt8) (w : World) (htab : Lib.TabIs Tryd.prog w "internal/strconv.uint64pow10" .u64 Lib.pow10Tab) (hU : Lib.Utf8Tabs 2 3 w) (hsz : s.length < 4294967281) :
    Ret Tryd.prog 12 #[.string (st s)] w (fun v w' => ∃ (a : Int) (b : Int) (ok : Bool), v = .tuple #[.int .i64 a, .int .i64 b, .bool ok] ∧ (PP s a b ok) ∧ Same All w w') := by
  refine ret_of (args := [.string (st s)]) Tryd.func12 rfl 51 Tryd.ntmps12 rfl ?_
  refine W_seq (fun K1 hK1 => ?_)
  refine W_region ?_
  refine L_run (v := .int .i64 0) (R_assign rfl) rfl ?_
  refine L_run (v := .int .i64 0) (R_assign rfl) rfl ?_
  refine L_run (v := .bool false) (R_assign rfl) rfl ?_
  refine L_nil ?_
  refine T_normal ?_
  refine hK1 _ _ ?_
  clear hK1
  refine W_seq (fun K2 hK2 => ?_)
  refine W_seq (fun K3 hK3 => ?_)
  refine W_region ?_
  refine L_run (v := .string (st s)) (R_move rfl) rfl ?_
  refine L_run (v := .int .i64 (s.length : Int)) (X_slen Tryd.underlying9 rfl) rfl ?_
  refine L_run (v := .bool (decide ((s.length : Int) < 5))) (R_lss rfl rfl) rfl ?_
  refine L_nil ?_
  refine T_normal ?_
  refine hK3 _ _ ?_
  clear hK3
  refine W_cond (decide ((s.length : Int) < 5)) rfl (fun hc0 => ?_) (fun hc0 => ?_)
  · have hc0 := of_decide_eq_true hc0
    refine W_seq (fun K4 hK4 => ?_)
    refine W_region ?_
    refine L_run (v := .int .i64 0) (R_assign rfl) rfl ?_
    refine L_run (v := .int .i64 0) (R_assign rfl) rfl ?_
    refine L_run (v := .bool false) (R_assign rfl) rfl ?_
    refine L_nil ?_
    refine T_normal ?_
    refine hK4 _ _ ?_
    clear hK4
    refine W_ret ?_
    refine T_ret ?_
    refine Q_ret (v := .tuple #[.int .i64 0, .int .i64 0, .bool false]) (res3 Tryd.results12 rfl rfl rfl) ?_
    clear hK2
    exact ⟨0, 0, false, rfl, PP_short (by omega), (Same.refl All w)⟩
  · have hc0 := of_decide_eq_false hc0
    refine W_skip ?_
    refine T_normal ?_
    refine hK2 _ _ ?_
    clear hK2
    refine W_seq (fun K5 hK5 => ?_)
    refine W_region ?_
    refine L_run (v := .string (st s)) (R_move rfl) rfl ?_
    refine L_op rfl rfl ?_
    refine O_call (args := [.string (st s), .string (st ([43, 45]))]) en37 rfl (C_LastIndexAny s _ (u8_same hU (Same.refl All w)) (by omega)) ?_
    rintro _ w1 ⟨k1, rfl, hk01, hk11, hk21, hs1⟩
    refine L_run (v := .int .i64 k1) (R_assign rfl) rfl ?_
    refine L_nil ?_
    refine T_normal ?_
    refine hK5 _ _ ?_
    clear hK5
    refine W_seq (fun K6 hK6 => ?_)
    refine W_seq (fun K7 hK7 => ?_)
    refine W_region ?_
    refine L_run (v := .int .i64 k1) (R_move rfl) rfl ?_
    refine L_run (v := .bool (decide (k1 < 2))) (R_lss rfl rfl) rfl ?_
    refine L_nil ?_
    refine T_normal ?_
    refine hK7 _ _ ?_
    clear hK7
    refine W_cond (decide (k1 < 2)) rfl (fun hc1 => ?_) (fun hc1 => ?_)
    · have hc1 := of_decide_eq_true hc1
      refine W_seq (fun K8 hK8 => ?_)
      refine W_region ?_
      refine L_run (v := .int .i64 0) (R_assign rfl) rfl ?_
      refine L_run (v := .int .i64 0) (R_assign rfl) rfl ?_
      refine L_run (v := .bool false) (R_assign rfl) rfl ?_
      refine L_nil ?_
      refine T_normal ?_
      refine hK8 _ _ ?_
      clear hK8
      refine W_ret ?_
      refine T_ret ?_
      refine Q_ret (v := .tuple #[.int .i64 0, .int .i64 0, .bool false]) (res3 Tryd.results12 rfl rfl rfl) ?_
      clear hK6
      have hno : ∀ x y, inQ x → inQ y → fp x y = s → False := by
        intro x y hx hy e
        have hk := hk21 (fp_ascii e)
        obtain ⟨h1, h2, h3⟩ := last_fp e hk01 hk11 hk.1 hk.2
        omega
      exact ⟨0, 0, false, rfl, PP_no hno, (Same.trans (Same.refl All w) (Same.all hs1))⟩
    · have hc1 := of_decide_eq_false hc1
      refine W_skip ?_
      refine T_normal ?_
      refine hK6 _ _ ?_
      clear hK6
      refine W_seq (fun K9 hK9 => ?_)
      refine W_region ?_
      refine L_run (v := .string (st s)) (R_move rfl) rfl ?_
      refine L_run (v := .int .i64 k1) (R_move rfl) rfl ?_
      refine L_run (v := .string (st (s.take (Int.toNat k1)))) (X_sslice0 (Int.toNat k1) rfl ⟨_, _, rfl, (by omega)⟩ (by omega) Tryd.underlying9) rfl ?_
      refine L_op rfl rfl ?_
      refine O_call (args := [.string (st (s.take (Int.toNat k1))), .string (st ([43]))]) en39 rfl (C_TrimPrefix (s.take (Int.toNat k1)) ([43]) _) ?_
      rintro _ _ ⟨rfl, rfl⟩
      refine L_op rfl rfl ?_
      refine O_call (args := [.string (st (tp (s.take (Int.toNat k1)) ([43])))]) en38 rfl (C_parseInt (tp (s.take (Int.toNat k1)) ([43])) _ (tab_same htab (Same.trans (Same.refl All w) (Same.all hs1)))) ?_
      rintro _ w2 ⟨r1, ok1, rfl, hpi1, hs2⟩
      have hlehpi1 := PI.le hpi1
      refine L_run (v := .tuple #[.int .i64 r1, .bool ok1]) (R_move rfl) rfl ?_
      refine L_run (v := .int .i64 r1) (R_extract rfl rfl) rfl ?_
      refine L_run (v := .bool ok1) (R_extract rfl rfl) rfl ?_
      refine L_run (v := .int .i64 r1) (R_assign rfl) rfl ?_
      refine L_run (v := .bool ok1) (R_assign rfl) rfl ?_
      refine L_nil ?_
      refine T_normal ?_
      refine hK9 _ _ ?_
      clear hK9
      refine W_seq (fun K10 hK10 => ?_)
      refine W_region ?_
      refine L_run (v := .string (st s)) (R_move rfl) rfl ?_
      refine L_run (v := .int .i64 k1) (R_move rfl) rfl ?_
      refine L_run (v := .string (st s)) (R_move rfl) rfl ?_
      refine L_run (v := .int .i64 (s.length : Int)) (X_slen Tryd.underlying9 rfl) rfl ?_
      refine L_run (v := .int .i64 ((s.length : Int) - 1)) (R_sub rfl rfl (by omega) (by omega)) rfl ?_
      refine L_run (v := .string (st ((s.take (Int.toNat ((s.length : Int) - 1))).drop (Int.toNat k1)))) (X_sslice (Int.toNat k1) (Int.toNat ((s.length : Int) - 1)) rfl ⟨_, _, rfl, (by omega)⟩ ⟨_, _, rfl, (by omega)⟩ (by omega) (by omega) Tryd.underlying9) rfl ?_
      refine L_op rfl rfl ?_
      refine O_call (args := [.string (st ((s.take (Int.toNat ((s.length : Int) - 1))).drop (Int.toNat k1))), .string (st ([43]))]) en39 rfl (C_TrimPrefix ((s.take (Int.toNat ((s.length : Int) - 1))).drop (Int.toNat k1)) ([43]) _) ?_
      rintro _ _ ⟨rfl, rfl⟩
      refine L_op rfl rfl ?_
      refine O_call (args := [.string (st (tp ((s.take (Int.toNat ((s.length : Int) - 1))).drop (Int.toNat k1)) ([43])))]) en38 rfl (C_parseInt (tp ((s.take (Int.toNat ((s.length : Int) - 1))).drop (Int.toNat k1)) ([43])) _ (tab_same htab (Same.trans (Same.trans (Same.refl All w) (Same.all hs1)) (Same.all hs2)))) ?_
      rintro _ w3 ⟨r2, ok2, rfl, hpi2, hs3⟩
      have hlehpi2 := PI.le hpi2
      refine L_run (v := .tuple #[.int .i64 r2, .bool ok2]) (R_move rfl) rfl ?_
      refine L_run (v := .int .i64 r2) (R_extract rfl rfl) rfl ?_
      refine L_run (v := .bool ok2) (R_extract rfl rfl) rfl ?_
      refine L_run (v := .int .i64 r2) (R_assign rfl) rfl ?_
      refine L_run (v := .bool ok2) (R_assign rfl) rfl ?_
      refine L_nil ?_
      refine T_normal ?_
      refine hK10 _ _ ?_
      clear hK10
      refine W_seq (fun K11 hK11 => ?_)
      refine W_seq (fun K12 hK12 => ?_)
      refine W_region ?_
      refine L_run (v := .bool ok1) (R_move rfl) rfl ?_
      refine L_run (v := .bool (!ok1)) (R_not rfl) rfl ?_
      refine L_run (v := .bool (!ok1)) (R_move rfl) rfl ?_
      rcases Bool.eq_false_or_eq_true (!ok1) with hg1 | hg1
      · have hg1p := notb_t hg1
        try rw [hg1]
        refine L_no (e := 38) rfl rfl rfl rfl ?_
        refine L_no (e := 38) rfl rfl rfl rfl ?_
        refine L_run (v := .bool true) (R_pick_t rfl rfl) rfl ?_
        refine L_run (v := .bool true) (R_move rfl) rfl ?_
        refine L_no (e := 42) rfl rfl rfl rfl ?_
        refine L_no (e := 42) rfl rfl rfl rfl ?_
        refine L_no (e := 42) rfl rfl rfl rfl ?_
        refine L_no (e := 42) rfl rfl rfl rfl ?_
        refine L_no (e := 42) rfl rfl rfl rfl ?_
        refine L_run (v := .bool true) (R_pick_t rfl rfl) rfl ?_
        refine L_nil ?_
        refine T_normal ?_
        refine hK12 _ _ ?_
        clear hK12
        refine W_cond true rfl (fun _ => ?_) (fun h => by cases h)
        refine W_seq (fun K13 hK13 => ?_)
        refine W_region ?_
        refine L_run (v := .int .i64 0) (R_assign rfl) rfl ?_
        refine L_run (v := .int .i64 0) (R_assign rfl) rfl ?_
        refine L_run (v := .bool false) (R_assign rfl) rfl ?_
        refine L_nil ?_
        refine T_normal ?_
        refine hK13 _ _ ?_
        clear hK13
        refine W_ret ?_
        refine T_ret ?_
        refine Q_ret (v := .tuple #[.int .i64 0, .int .i64 0, .bool false]) (res3 Tryd.results12 rfl rfl rfl) ?_
        clear hK11
        have hno : ∀ x y, inQ x → inQ y → fp x y = s → False := by
          intro x y hx hy e
          have hk := hk21 (fp_ascii e)
          obtain ⟨h1, h2, h3⟩ := last_fp e hk01 hk11 hk.1 hk.2
          have hm : Int.toNat ((s.length : Int) - 1) = s.length - 1 := by omega
          rw [hm] at hpi2
          rw [h2, tp_sg] at hpi1
          rw [h3, tp_sg] at hpi2
          have h4 := hpi1.of hx.1 hx.2
          have h5 := hpi2.of hy.1 hy.2
          rw [hg1p] at h4; cases h4.1
        exact ⟨0, 0, false, rfl, PP_no hno, (Same.trans (Same.trans (Same.trans (Same.refl All w) (Same.all hs1)) (Same.all hs2)) (Same.all hs3))⟩
      · have hg1p := notb_f hg1
        try rw [hg1]
        refine L_yesrun (e := 38) (v := .bool ok2) rfl rfl rfl (R_move rfl) rfl ?_
        refine L_yesrun (e := 38) (v := .bool (!ok2)) rfl rfl rfl (R_not rfl) rfl ?_
        refine L_run (v := .bool (!ok2)) (R_pick_f rfl rfl) rfl ?_
        refine L_run (v := .bool (!ok2)) (R_move rfl) rfl ?_
        rcases Bool.eq_false_or_eq_true (!ok2) with hg2 | hg2
        · have hg2p := notb_t hg2
          try rw [hg2]
          refine L_no (e := 42) rfl rfl rfl rfl ?_
          refine L_no (e := 42) rfl rfl rfl rfl ?_
          refine L_no (e := 42) rfl rfl rfl rfl ?_
          refine L_no (e := 42) rfl rfl rfl rfl ?_
          refine L_no (e := 42) rfl rfl rfl rfl ?_
          refine L_run (v := .bool true) (R_pick_t rfl rfl) rfl ?_
          refine L_nil ?_
          refine T_normal ?_
          refine hK12 _ _ ?_
          clear hK12
          refine W_cond true rfl (fun _ => ?_) (fun h => by cases h)
          refine W_seq (fun K14 hK14 => ?_)
          refine W_region ?_
          refine L_run (v := .int .i64 0) (R_assign rfl) rfl ?_
          refine L_run (v := .int .i64 0) (R_assign rfl) rfl ?_
          refine L_run (v := .bool false) (R_assign rfl) rfl ?_
          refine L_nil ?_
          refine T_normal ?_
          refine hK14 _ _ ?_
          clear hK14
          refine W_ret ?_
          refine T_ret ?_
          refine Q_ret (v := .tuple #[.int .i64 0, .int .i64 0, .bool false]) (res3 Tryd.results12 rfl rfl rfl) ?_
          clear hK11
          have hno : ∀ x y, inQ x → inQ y → fp x y = s → False := by
            intro x y hx hy e
            have hk := hk21 (fp_ascii e)
            obtain ⟨h1, h2, h3⟩ := last_fp e hk01 hk11 hk.1 hk.2
            have hm : Int.toNat ((s.length : Int) - 1) = s.length - 1 := by omega
            rw [hm] at hpi2
            rw [h2, tp_sg] at hpi1
            rw [h3, tp_sg] at hpi2
            have h4 := hpi1.of hx.1 hx.2
            have h5 := hpi2.of hy.1 hy.2
            rw [hg2p] at h5; cases h5.1
          exact ⟨0, 0, false, rfl, PP_no hno, (Same.trans (Same.trans (Same.trans (Same.refl All w) (Same.all hs1)) (Same.all hs2)) (Same.all hs3))⟩
        · have hg2p := notb_f hg2
          try rw [hg2]
          refine L_yesrun (e := 42) (v := .int .i64 r1) rfl rfl rfl (R_move rfl) rfl ?_
          refine L_yesrun (e := 42) (v := .int .i64 r2) rfl rfl rfl (R_move rfl) rfl ?_
          refine L_yes (d := 42) rfl rfl rfl rfl rfl ?_
          refine O_call (args := [.int .i64 r1, .int .i64 r2]) en11 rfl (C_iFormatPair r1 r2 _ (tab_same htab (Same.trans (Same.trans (Same.trans (Same.refl All w) (Same.all hs1)) (Same.all hs2)) (Same.all hs3)))) ?_
          rintro _ w4 ⟨t1, rfl, hfp1, hs4⟩
          have hlenhfp1 := FPR.len hfp1
          refine L_yesrun (e := 42) (v := .string (st s)) rfl rfl rfl (R_move rfl) rfl ?_
          refine L_yesrun (e := 42) (v := .bool (!decide (t1 = s))) rfl rfl rfl (X_sneq rfl rfl) rfl ?_
          refine L_run (v := .bool (!decide (t1 = s))) (R_pick_f rfl rfl) rfl ?_
          refine L_nil ?_
          refine T_normal ?_
          refine hK12 _ _ ?_
          clear hK12
          refine W_cond (!decide (t1 = s)) rfl (fun hc2 => ?_) (fun hc2 => ?_)
          · have hc2 := not_t hc2
            refine W_seq (fun K15 hK15 => ?_)
            refine W_region ?_
            refine L_run (v := .int .i64 0) (R_assign rfl) rfl ?_
            refine L_run (v := .int .i64 0) (R_assign rfl) rfl ?_
            refine L_run (v := .bool false) (R_assign rfl) rfl ?_
            refine L_nil ?_
            refine T_normal ?_
            refine hK15 _ _ ?_
            clear hK15
            refine W_ret ?_
            refine T_ret ?_
            refine Q_ret (v := .tuple #[.int .i64 0, .int .i64 0, .bool false]) (res3 Tryd.results12 rfl rfl rfl) ?_
            clear hK11
            have hno : ∀ x y, inQ x → inQ y → fp x y = s → False := by
              intro x y hx hy e
              have hk := hk21 (fp_ascii e)
              obtain ⟨h1, h2, h3⟩ := last_fp e hk01 hk11 hk.1 hk.2
              have hm : Int.toNat ((s.length : Int) - 1) = s.length - 1 := by omega
              rw [hm] at hpi2
              rw [h2, tp_sg] at hpi1
              rw [h3, tp_sg] at hpi2
              have h4 := hpi1.of hx.1 hx.2
              have h5 := hpi2.of hy.1 hy.2
              rw [h4.2, h5.2] at hfp1
              exact hc2 ((hfp1.1 hx hy).trans e)
            exact ⟨0, 0, false, rfl, PP_no hno, (Same.trans (Same.trans (Same.trans (Same.trans (Same.refl All w) (Same.all hs1)) (Same.all hs2)) (Same.all hs3)) (Same.all hs4))⟩
          · have hc2 := not_f hc2
            refine W_skip ?_
            refine T_normal ?_
            refine hK11 _ _ ?_
            clear hK11
            refine W_seq (fun K16 hK16 => ?_)
            refine W_region ?_
            refine L_run (v := .int .i64 r1) (R_move rfl) rfl ?_
            refine L_run (v := .int .i64 r2) (R_move rfl) rfl ?_
            refine L_run (v := .int .i64 r1) (R_assign rfl) rfl ?_
            refine L_run (v := .int .i64 r2) (R_assign rfl) rfl ?_
            refine L_run (v := .bool true) (R_assign rfl) rfl ?_
            refine L_nil ?_
            refine T_normal ?_
            refine hK16 _ _ ?_
            clear hK16
            refine W_ret ?_
            refine Q_ret (v := .tuple #[.int .i64 r1, .int .i64 r2, .bool true]) (res3 Tryd.results12 rfl rfl rfl) ?_
            exact ⟨_, _, _, rfl, PP_good hfp1 hc2 (by omega), (Same.trans (Same.trans (Same.trans (Same.trans (Same.refl All w) (Same.all hs1)) (Same.all hs2)) (Same.all hs3)) (Same.all hs4))⟩

theorem C_FnExactParsePair (s : List UInt8) (w : World) (htab : Lib.TabIs Tryd.prog w "internal/strconv.uint64pow10" .u64 Lib.pow10Tab) (hU : Lib.Utf8Tabs 2 3 w) :
    Ret Tryd.prog 6 #[.string (st s)] w (fun v w' => v = .bool true ∧ Same All w w') := by
  refine ret_of (args := [.string (st s)]) Tryd.func6 rfl 37 Tryd.ntmps6 rfl ?_
  refine W_seq (fun K1 hK1 => ?_)
  refine W_region ?_
  refine L_run (v := .bool false) (R_assign rfl) rfl ?_
  refine L_nil ?_
  refine T_normal ?_
  refine hK1 _ _ ?_
  clear hK1
  refine W_seq (fun K2 hK2 => ?_)
  refine W_seq (fun K3 hK3 => ?_)
  refine W_region ?_
  refine L_run (v := .string (st s)) (R_move rfl) rfl ?_
  refine L_run (v := .int .i64 (s.length : Int)) (X_slen Tryd.underlying9 rfl) rfl ?_
  refine L_run (v := .bool (decide (1048576 < (s.length : Int)))) (R_gtr rfl rfl) rfl ?_
  refine L_nil ?_
  refine T_normal ?_
  refine hK3 _ _ ?_
  clear hK3
  refine W_cond (decide (1048576 < (s.length : Int))) rfl (fun hc0 => ?_) (fun hc0 => ?_)
  · have hc0 := of_decide_eq_true hc0
    refine W_seq (fun K4 hK4 => ?_)
    refine W_region ?_
    refine L_run (v := .bool true) (R_assign rfl) rfl ?_
    refine L_nil ?_
    refine T_normal ?_
    refine hK4 _ _ ?_
    clear hK4
    refine W_ret ?_
    refine T_ret ?_
    refine Q_ret (v := .bool true) (res1 Tryd.results6 rfl) ?_
    clear hK2
    exact ⟨rfl, (Same.refl All w)⟩
  · have hc0 := of_decide_eq_false hc0
    refine W_skip ?_
    refine T_normal ?_
    refine hK2 _ _ ?_
    clear hK2
    refine W_seq (fun K5 hK5 => ?_)
    refine W_region ?_
    refine L_run (v := .string (st s)) (R_move rfl) rfl ?_
    refine L_op rfl rfl ?_
    refine O_call (args := [.string (st s)]) en22 rfl (C_sParsePair s _) ?_
    rintro _ w1 ⟨a1, b1, ok1, rfl, hpp1, hs1⟩
    refine L_run (v := .tuple #[.int .i64 a1, .int .i64 b1, .bool ok1]) (R_move rfl) rfl ?_
    refine L_run (v := .int .i64 a1) (R_extract rfl rfl) rfl ?_
    refine L_run (v := .int .i64 b1) (R_extract rfl rfl) rfl ?_
    refine L_run (v := .bool ok1) (R_extract rfl rfl) rfl ?_
    refine L_run (v := .int .i64 a1) (R_assign rfl) rfl ?_
    refine L_run (v := .int .i64 b1) (R_assign rfl) rfl ?_
    refine L_run (v := .bool ok1) (R_assign rfl) rfl ?_
    refine L_nil ?_
    refine T_normal ?_
    refine hK5 _ _ ?_
    clear hK5
    refine W_seq (fun K6 hK6 => ?_)
    refine W_region ?_
    refine L_run (v := .string (st s)) (R_move rfl) rfl ?_
    refine L_op rfl rfl ?_
    refine O_call (args := [.string (st s)]) en12 rfl (C_iParsePair s _ (tab_same htab (Same.trans (Same.refl All w) (Same.all hs1))) (u8_same hU (Same.trans (Same.refl All w) (Same.all hs1))) (by omega)) ?_
    rintro _ w2 ⟨a2, b2, ok2, rfl, hpp2, hs2⟩
    refine L_run (v := .tuple #[.int .i64 a2, .int .i64 b2, .bool ok2]) (R_move rfl) rfl ?_
    refine L_run (v := .int .i64 a2) (R_extract rfl rfl) rfl ?_
    refine L_run (v := .int .i64 b2) (R_extract rfl rfl) rfl ?_
    refine L_run (v := .bool ok2) (R_extract rfl rfl) rfl ?_
    refine L_run (v := .int .i64 a2) (R_assign rfl) rfl ?_
    refine L_run (v := .int .i64 b2) (R_assign rfl) rfl ?_
    refine L_run (v := .bool ok2) (R_assign rfl) rfl ?_
    refine L_nil ?_
    refine T_normal ?_
    refine hK6 _ _ ?_
    clear hK6
    refine W_seq (fun K7 hK7 => ?_)
    refine W_seq (fun K8 hK8 => ?_)
    refine W_region ?_
    refine L_run (v := .int .i64 a2) (R_move rfl) rfl ?_
    refine L_run (v := .int .i64 a1) (R_move rfl) rfl ?_
    refine L_run (v := .bool (!decide (a2 = a1))) (R_neq rfl rfl) rfl ?_
    refine L_run (v := .bool (!decide (a2 = a1))) (R_move rfl) rfl ?_
    rcases Bool.eq_false_or_eq_true (!decide (a2 = a1)) with hg1 | hg1
    · have hg1p := not_t hg1
      try rw [hg1]
      refine L_no (e := 27) rfl rfl rfl rfl ?_
      refine L_no (e := 27) rfl rfl rfl rfl ?_
      refine L_no (e := 27) rfl rfl rfl rfl ?_
      refine L_run (v := .bool true) (R_pick_t rfl rfl) rfl ?_
      refine L_run (v := .bool true) (R_move rfl) rfl ?_
      refine L_no (e := 32) rfl rfl rfl rfl ?_
      refine L_no (e := 32) rfl rfl rfl rfl ?_
      refine L_no (e := 32) rfl rfl rfl rfl ?_
      refine L_run (v := .bool true) (R_pick_t rfl rfl) rfl ?_
      refine L_nil ?_
      refine T_normal ?_
      refine hK8 _ _ ?_
      clear hK8
      refine W_cond true rfl (fun _ => ?_) (fun h => by cases h)
      refine W_seq (fun K9 hK9 => ?_)
      refine W_region ?_
      refine L_run (v := .bool false) (R_assign rfl) rfl ?_
      refine L_nil ?_
      refine T_normal ?_
      refine hK9 _ _ ?_
      clear hK9
      refine W_ret ?_
      refine T_ret ?_
      refine Q_ret (v := .bool false) (res1 Tryd.results6 rfl) ?_
      clear hK7
      exact absurd (PP.unique hpp1 hpp2).1.symm hg1p
    · have hg1p := not_f hg1
      try rw [hg1]
      refine L_yesrun (e := 27) (v := .int .i64 b2) rfl rfl rfl (R_move rfl) rfl ?_
      refine L_yesrun (e := 27) (v := .int .i64 b1) rfl rfl rfl (R_move rfl) rfl ?_
      refine L_yesrun (e := 27) (v := .bool (!decide (b2 = b1))) rfl rfl rfl (R_neq rfl rfl) rfl ?_
      refine L_run (v := .bool (!decide (b2 = b1))) (R_pick_f rfl rfl) rfl ?_
      refine L_run (v := .bool (!decide (b2 = b1))) (R_move rfl) rfl ?_
      rcases Bool.eq_false_or_eq_true (!decide (b2 = b1)) with hg2 | hg2
      · have hg2p := not_t hg2
        try rw [hg2]
        refine L_no (e := 32) rfl rfl rfl rfl ?_
        refine L_no (e := 32) rfl rfl rfl rfl ?_
        refine L_no (e := 32) rfl rfl rfl rfl ?_
        refine L_run (v := .bool true) (R_pick_t rfl rfl) rfl ?_
        refine L_nil ?_
        refine T_normal ?_
        refine hK8 _ _ ?_
        clear hK8
        refine W_cond true rfl (fun _ => ?_) (fun h => by cases h)
        refine W_seq (fun K10 hK10 => ?_)
        refine W_region ?_
        refine L_run (v := .bool false) (R_assign rfl) rfl ?_
        refine L_nil ?_
        refine T_normal ?_
        refine hK10 _ _ ?_
        clear hK10
        refine W_ret ?_
        refine T_ret ?_
        refine Q_ret (v := .bool false) (res1 Tryd.results6 rfl) ?_
        clear hK7
        exact absurd (PP.unique hpp1 hpp2).2.1.symm hg2p
      · have hg2p := not_f hg2
        try rw [hg2]
        refine L_yesrun (e := 32) (v := .bool ok2) rfl rfl rfl (R_move rfl) rfl ?_
        refine L_yesrun (e := 32) (v := .bool ok1) rfl rfl rfl (R_move rfl) rfl ?_
        refine L_yesrun (e := 32) (v := .bool (!(ok2 == ok1))) rfl rfl rfl (R_neb Tryd.underlying4 rfl rfl) rfl ?_
        refine L_run (v := .bool (!(ok2 == ok1))) (R_pick_f rfl rfl) rfl ?_
        refine L_nil ?_
        refine T_normal ?_
        refine hK8 _ _ ?_
        clear hK8
        refine W_cond (!(ok2 == ok1)) rfl (fun hc1 => ?_) (fun hc1 => ?_)
        · have hc1 := notb_t hc1
          refine W_seq (fun K11 hK11 => ?_)
          refine W_region ?_
          refine L_run (v := .bool false) (R_assign rfl) rfl ?_
          refine L_nil ?_
          refine T_normal ?_
          refine hK11 _ _ ?_
          clear hK11
          refine W_ret ?_
          refine T_ret ?_
          refine Q_ret (v := .bool false) (res1 Tryd.results6 rfl) ?_
          clear hK7
          rw [(PP.unique hpp1 hpp2).2.2] at hc1; simp at hc1
        · have hc1 := notb_f hc1
          refine W_skip ?_
          refine T_normal ?_
          refine hK7 _ _ ?_
          clear hK7
          refine W_seq (fun K12 hK12 => ?_)
          refine W_region ?_
          refine L_run (v := .bool true) (R_assign rfl) rfl ?_
          refine L_nil ?_
          refine T_normal ?_
          refine hK12 _ _ ?_
          clear hK12
          refine W_ret ?_
          refine Q_ret (v := .bool true) (res1 Tryd.results6 rfl) ?_
          exact ⟨rfl, (Same.trans (Same.trans (Same.refl All w) (Same.all hs1)) (Same.all hs2))⟩

end Go.Proofs.YtpfbheodbgkgmaaDoor
