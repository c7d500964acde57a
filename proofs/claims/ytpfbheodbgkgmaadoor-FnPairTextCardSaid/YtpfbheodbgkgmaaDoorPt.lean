/- The walk of the law on the texts of pairs. -/
import Derived.Test.YtpfbheodbgkgmaaDoorGxStr
import Derived.Test.YtpfbheodbgkgmaaDoorGxTxt
import Derived.Test.YtpfbheodbgkgmaaDoorChecked
import Derived.Test.YtpfbheodbgkgmaaDoorShelf
import Derived.Test.YtpfbheodbgkgmaaDoorTa
import Derived.Test.YtpfbheodbgkgmaaDoorTb
import Derived.Test.YtpfbheodbgkgmaaDoorTd
import Derived.Test.YtpfbheodbgkgmaaDoorTw
import Derived.Test.YtpfbheodbgkgmaaDoorTf
import Derived.Test.YtpfbheodbgkgmaaDoorTg
import Derived.Test.YtpfbheodbgkgmaaDoorTh
import Derived.Test.YtpfbheodbgkgmaaDoorTe
import Derived.Test.YtpfbheodbgkgmaaDoorDa
set_option linter.unusedSimpArgs false
set_option linter.unusedVariables false
namespace Go.Proofs.YtpfbheodbgkgmaaDoor
open Go Gx Go.Proofs
attribute [local irreducible] OpW wpL WC anyL Run
theorem en9 : Enters Tryd.prog 9 := enters Tryd.func9 rfl (by kernel_rfl)
theorem en10 : Enters Tryd.prog 10 := enters Tryd.func10 rfl (by kernel_rfl)
theorem C_FnPairText (codea : Option Addr) (codec : Nat) (code : List UInt8) (w : World) (hcode : Rd u8E All w codea code) (htab : Lib.TabIs Tryd.prog w "internal/strconv.uint64pow10" .u64 Lib.pow10Tab) (hU : Lib.Utf8Tabs 2 3 w) :
    Ret Tryd.prog 3 #[.slice codea code.length codec] w (fun v w' => v = .bool true ∧ Same All w w') := by
  refine ret_of (args := [.slice codea code.length codec]) Tryd.func3 rfl 63 Tryd.ntmps3 rfl ?_
  refine W_seq (fun K1 hK1 => ?_)
  refine W_region ?_
  refine L_run (v := .bool false) (R_assign rfl) rfl ?_
  refine L_nil ?_
  refine T_normal ?_
  refine hK1 _ _ ?_
  clear hK1
  refine W_seq (fun K2 hK2 => ?_)
  refine W_seq (fun K3 hK3 => ?_)
  refine W_region ?_
  refine L_run (v := .slice codea code.length codec) (R_move rfl) rfl ?_
  refine L_op rfl rfl ?_
  refine O_call (args := [.slice codea code.length codec]) en9 rfl (C_big codea codec code _ hcode) ?_
  rintro _ _ ⟨rfl, rfl⟩
  refine L_nil ?_
  refine T_normal ?_
  refine hK3 _ _ ?_
  clear hK3
  refine W_cond (decide ((1048576 : Int) < (code.length : Int))) rfl (fun hc0 => ?_) (fun hc0 => ?_)
  · have hc0 := of_decide_eq_true hc0
    refine W_seq (fun K4 hK4 => ?_)
    refine W_region ?_
    refine L_run (v := .bool true) (R_assign rfl) rfl ?_
    refine L_nil ?_
    refine T_normal ?_
    refine hK4 _ _ ?_
    clear hK4
    refine W_ret ?_
    refine T_ret ?_
    refine Q_ret (v := .bool true) (res1 Tryd.results3 rfl) ?_
    clear hK2
    exact ⟨rfl, (Same.refl All w)⟩
  · have hc0 := of_decide_eq_false hc0
    refine W_skip ?_
    refine T_normal ?_
    refine hK2 _ _ ?_
    clear hK2
    refine W_seq (fun K5 hK5 => ?_)
    refine W_region ?_
    refine L_run (v := .slice codea code.length codec) (R_move rfl) rfl ?_
    refine L_op rfl rfl ?_
    refine O_call (args := [.slice codea code.length codec]) en10 rfl (C_DrawFormatPair codea codec code _ hcode (by omega)) ?_
    rintro _ w1 ⟨a1, b1, rfl, hs1⟩
    refine L_run (v := .tuple #[.int .i64 a1, .int .i64 b1]) (R_move rfl) rfl ?_
    refine L_run (v := .int .i64 a1) (R_extract rfl rfl) rfl ?_
    refine L_run (v := .int .i64 b1) (R_extract rfl rfl) rfl ?_
    refine L_run (v := .int .i64 a1) (R_assign rfl) rfl ?_
    refine L_run (v := .int .i64 b1) (R_assign rfl) rfl ?_
    refine L_nil ?_
    refine T_normal ?_
    refine hK5 _ _ ?_
    clear hK5
    refine W_seq (fun K6 hK6 => ?_)
    refine W_region ?_
    refine L_run (v := .int .i64 a1) (R_move rfl) rfl ?_
    refine L_run (v := .int .i64 b1) (R_move rfl) rfl ?_
    refine L_op rfl rfl ?_
    refine O_call (args := [.int .i64 a1, .int .i64 b1]) en11 rfl (C_iFormatPair a1 b1 _ (tab_same htab (Same.trans (Same.refl All w) (Same.all hs1)))) ?_
    rintro _ w2 ⟨t1, rfl, hfp1, hs2⟩
    have hlenhfp1 := FPR.len hfp1
    refine L_run (v := .string (st t1)) (R_assign rfl) rfl ?_
    refine L_nil ?_
    refine T_normal ?_
    refine hK6 _ _ ?_
    clear hK6
    refine W_seq (fun K7 hK7 => ?_)
    refine W_region ?_
    refine L_run (v := .string (st t1)) (R_move rfl) rfl ?_
    refine L_op rfl rfl ?_
    refine O_call (args := [.string (st t1)]) en12 rfl (C_iParsePair t1 _ (tab_same htab (Same.trans (Same.trans (Same.refl All w) (Same.all hs1)) (Same.all hs2))) (u8_same hU (Same.trans (Same.trans (Same.refl All w) (Same.all hs1)) (Same.all hs2))) (by omega)) ?_
    rintro _ w3 ⟨a2, b2, ok1, rfl, hpp1, hs3⟩
    refine L_run (v := .tuple #[.int .i64 a2, .int .i64 b2, .bool ok1]) (R_move rfl) rfl ?_
    refine L_run (v := .int .i64 a2) (R_extract rfl rfl) rfl ?_
    refine L_run (v := .int .i64 b2) (R_extract rfl rfl) rfl ?_
    refine L_run (v := .bool ok1) (R_extract rfl rfl) rfl ?_
    refine L_run (v := .int .i64 a2) (R_assign rfl) rfl ?_
    refine L_run (v := .int .i64 b2) (R_assign rfl) rfl ?_
    refine L_run (v := .bool ok1) (R_assign rfl) rfl ?_
    refine L_nil ?_
    refine T_normal ?_
    refine hK7 _ _ ?_
    clear hK7
    refine W_seq (fun K8 hK8 => ?_)
    refine W_region ?_
    refine L_run (v := .int .i64 a1) (R_move rfl) rfl ?_
    refine L_run (v := .bool (decide (a1 ≤ 1000000000))) (R_leq rfl rfl) rfl ?_
    refine L_run (v := .bool (decide (a1 ≤ 1000000000))) (R_move rfl) rfl ?_
    rcases Bool.eq_false_or_eq_true (decide (a1 ≤ 1000000000)) with hg1 | hg1
    · have hg1p := of_decide_eq_true hg1
      try rw [hg1]
      refine L_yesrun (e := 28) (v := .int .i64 a1) rfl rfl rfl (R_move rfl) rfl ?_
      refine L_yesrun (e := 28) (v := .bool (decide ((-1000000000) ≤ a1))) rfl rfl rfl (R_geq rfl rfl) rfl ?_
      refine L_run (v := .bool (decide ((-1000000000) ≤ a1))) (R_pick_t rfl rfl) rfl ?_
      refine L_run (v := .bool (decide ((-1000000000) ≤ a1))) (R_move rfl) rfl ?_
      rcases Bool.eq_false_or_eq_true (decide ((-1000000000) ≤ a1)) with hg2 | hg2
      · have hg2p := of_decide_eq_true hg2
        try rw [hg2]
        refine L_yesrun (e := 32) (v := .int .i64 b1) rfl rfl rfl (R_move rfl) rfl ?_
        refine L_yesrun (e := 32) (v := .bool (decide (b1 ≤ 1000000000))) rfl rfl rfl (R_leq rfl rfl) rfl ?_
        refine L_run (v := .bool (decide (b1 ≤ 1000000000))) (R_pick_t rfl rfl) rfl ?_
        refine L_run (v := .bool (decide (b1 ≤ 1000000000))) (R_move rfl) rfl ?_
        rcases Bool.eq_false_or_eq_true (decide (b1 ≤ 1000000000)) with hg3 | hg3
        · have hg3p := of_decide_eq_true hg3
          try rw [hg3]
          refine L_yesrun (e := 36) (v := .int .i64 b1) rfl rfl rfl (R_move rfl) rfl ?_
          refine L_yesrun (e := 36) (v := .bool (decide ((-1000000000) ≤ b1))) rfl rfl rfl (R_geq rfl rfl) rfl ?_
          refine L_run (v := .bool (decide ((-1000000000) ≤ b1))) (R_pick_t rfl rfl) rfl ?_
          refine L_run (v := .bool (decide ((-1000000000) ≤ b1))) (R_assign rfl) rfl ?_
          refine L_nil ?_
          refine T_normal ?_
          refine hK8 _ _ ?_
          clear hK8
          refine W_seq (fun K9 hK9 => ?_)
          refine W_region ?_
          refine L_run (v := .bool ok1) (R_move rfl) rfl ?_
          refine L_run (v := .bool (decide ((-1000000000) ≤ b1))) (R_move rfl) rfl ?_
          refine L_run (v := .bool (ok1 == (decide ((-1000000000) ≤ b1)))) (R_eqb Tryd.underlying4 rfl rfl) rfl ?_
          refine L_run (v := .bool (ok1 == (decide ((-1000000000) ≤ b1)))) (R_move rfl) rfl ?_
          rcases Bool.eq_false_or_eq_true (ok1 == (decide ((-1000000000) ≤ b1))) with hg4 | hg4
          · skip
            try rw [hg4]
            refine L_yesrun (e := 43) (v := .string (st t1)) rfl rfl rfl (R_move rfl) rfl ?_
            refine L_yesrun (e := 43) (v := .bool (!decide (t1 = []))) rfl rfl rfl (X_sneq rfl rfl) rfl ?_
            refine L_yesrun (e := 43) (v := .bool (decide ((-1000000000) ≤ b1))) rfl rfl rfl (R_move rfl) rfl ?_
            refine L_yesrun (e := 43) (v := .bool ((!decide (t1 = [])) == (decide ((-1000000000) ≤ b1)))) rfl rfl rfl (R_eqb Tryd.underlying4 rfl rfl) rfl ?_
            refine L_run (v := .bool ((!decide (t1 = [])) == (decide ((-1000000000) ≤ b1)))) (R_pick_t rfl rfl) rfl ?_
            refine L_run (v := .bool ((!decide (t1 = [])) == (decide ((-1000000000) ≤ b1)))) (R_move rfl) rfl ?_
            rcases Bool.eq_false_or_eq_true ((!decide (t1 = [])) == (decide ((-1000000000) ≤ b1))) with hg5 | hg5
            · skip
              try rw [hg5]
              refine L_yesrun (e := 49) (v := .bool (decide ((-1000000000) ≤ b1))) rfl rfl rfl (R_move rfl) rfl ?_
              refine L_yesrun (e := 49) (v := .bool (!(decide ((-1000000000) ≤ b1)))) rfl rfl rfl (R_not rfl) rfl ?_
              refine L_yesrun (e := 49) (v := .bool (!(decide ((-1000000000) ≤ b1)))) rfl rfl rfl (R_move rfl) rfl ?_
              rcases Bool.eq_false_or_eq_true (!(decide ((-1000000000) ≤ b1))) with hg6 | hg6
              · have hg6p := notb_t hg6
                try rw [hg6]
                refine L_no (e := 52) rfl rfl rfl rfl ?_
                refine L_no (e := 52) rfl rfl rfl rfl ?_
                refine L_no (e := 52) rfl rfl rfl rfl ?_
                refine L_no (e := 52) rfl rfl rfl rfl ?_
                refine L_nou (e := 56) rfl rfl rfl rfl ?_
                refine L_nou (e := 56) rfl rfl rfl rfl ?_
                refine L_nou (e := 56) rfl rfl rfl rfl ?_
                refine L_no (e := 52) rfl rfl rfl rfl ?_
                refine L_yesrun (e := 49) (v := .bool true) rfl rfl rfl (R_pick_t rfl rfl) rfl ?_
                refine L_run (v := .bool true) (R_pick_t rfl rfl) rfl ?_
                refine L_run (v := .bool true) (R_assign rfl) rfl ?_
                refine L_nil ?_
                refine T_normal ?_
                refine hK9 _ _ ?_
                clear hK9
                refine W_ret ?_
                refine Q_ret (v := .bool true) (res1 Tryd.results3 rfl) ?_
                have hl := pair_law hfp1 hpp1
                refine ⟨congrArg Value.bool ?_, (Same.trans (Same.trans (Same.trans (Same.refl All w) (Same.all hs1)) (Same.all hs2)) (Same.all hs3))⟩
                by_cases hin : inQ a1 ∧ inQ b1
                · obtain ⟨e1, e2, e3, e4⟩ := hl.1 hin
                  obtain ⟨hi1, hi2⟩ := hin
                  unfold inQ at hi1 hi2
                  clear hfp1 hpp1 hl
                  simp_all
                · obtain ⟨e1, e2⟩ := hl.2 hin
                  unfold inQ at hin
                  clear hfp1 hpp1 hl
                  first | omega | (simp_all; done) | (simp_all; omega)
              · have hg6p := notb_f hg6
                try rw [hg6]
                refine L_yesrun (e := 52) (v := .int .i64 a2) rfl rfl rfl (R_move rfl) rfl ?_
                refine L_yesrun (e := 52) (v := .int .i64 a1) rfl rfl rfl (R_move rfl) rfl ?_
                refine L_yesrun (e := 52) (v := .bool (decide (a2 = a1))) rfl rfl rfl (R_eql rfl rfl) rfl ?_
                refine L_yesrun (e := 52) (v := .bool (decide (a2 = a1))) rfl rfl rfl (R_move rfl) rfl ?_
                rcases Bool.eq_false_or_eq_true (decide (a2 = a1)) with hg7 | hg7
                · have hg7p := of_decide_eq_true hg7
                  try rw [hg7]
                  refine L_yesrun (e := 56) (v := .int .i64 b2) rfl rfl rfl (R_move rfl) rfl ?_
                  refine L_yesrun (e := 56) (v := .int .i64 b1) rfl rfl rfl (R_move rfl) rfl ?_
                  refine L_yesrun (e := 56) (v := .bool (decide (b2 = b1))) rfl rfl rfl (R_eql rfl rfl) rfl ?_
                  refine L_yesrun (e := 52) (v := .bool (decide (b2 = b1))) rfl rfl rfl (R_pick_t rfl rfl) rfl ?_
                  refine L_yesrun (e := 49) (v := .bool (decide (b2 = b1))) rfl rfl rfl (R_pick_f rfl rfl) rfl ?_
                  refine L_run (v := .bool (decide (b2 = b1))) (R_pick_t rfl rfl) rfl ?_
                  refine L_run (v := .bool (decide (b2 = b1))) (R_assign rfl) rfl ?_
                  refine L_nil ?_
                  refine T_normal ?_
                  refine hK9 _ _ ?_
                  clear hK9
                  refine W_ret ?_
                  refine Q_ret (v := .bool (decide (b2 = b1))) (res1 Tryd.results3 rfl) ?_
                  have hl := pair_law hfp1 hpp1
                  refine ⟨congrArg Value.bool ?_, (Same.trans (Same.trans (Same.trans (Same.refl All w) (Same.all hs1)) (Same.all hs2)) (Same.all hs3))⟩
                  by_cases hin : inQ a1 ∧ inQ b1
                  · obtain ⟨e1, e2, e3, e4⟩ := hl.1 hin
                    obtain ⟨hi1, hi2⟩ := hin
                    unfold inQ at hi1 hi2
                    clear hfp1 hpp1 hl
                    simp_all
                  · obtain ⟨e1, e2⟩ := hl.2 hin
                    unfold inQ at hin
                    clear hfp1 hpp1 hl
                    first | omega | (simp_all; done) | (simp_all; omega)
                · have hg7p := of_decide_eq_false hg7
                  try rw [hg7]
                  refine L_no (e := 56) rfl rfl rfl rfl ?_
                  refine L_no (e := 56) rfl rfl rfl rfl ?_
                  refine L_no (e := 56) rfl rfl rfl rfl ?_
                  refine L_yesrun (e := 52) (v := .bool false) rfl rfl rfl (R_pick_f rfl rfl) rfl ?_
                  refine L_yesrun (e := 49) (v := .bool false) rfl rfl rfl (R_pick_f rfl rfl) rfl ?_
                  refine L_run (v := .bool false) (R_pick_t rfl rfl) rfl ?_
                  refine L_run (v := .bool false) (R_assign rfl) rfl ?_
                  refine L_nil ?_
                  refine T_normal ?_
                  refine hK9 _ _ ?_
                  clear hK9
                  refine W_ret ?_
                  refine Q_ret (v := .bool false) (res1 Tryd.results3 rfl) ?_
                  have hl := pair_law hfp1 hpp1
                  refine ⟨congrArg Value.bool ?_, (Same.trans (Same.trans (Same.trans (Same.refl All w) (Same.all hs1)) (Same.all hs2)) (Same.all hs3))⟩
                  by_cases hin : inQ a1 ∧ inQ b1
                  · obtain ⟨e1, e2, e3, e4⟩ := hl.1 hin
                    obtain ⟨hi1, hi2⟩ := hin
                    unfold inQ at hi1 hi2
                    clear hfp1 hpp1 hl
                    simp_all
                  · obtain ⟨e1, e2⟩ := hl.2 hin
                    unfold inQ at hin
                    clear hfp1 hpp1 hl
                    first | omega | (simp_all; done) | (simp_all; omega)
            · skip
              try rw [hg5]
              refine L_no (e := 49) rfl rfl rfl rfl ?_
              refine L_no (e := 49) rfl rfl rfl rfl ?_
              refine L_no (e := 49) rfl rfl rfl rfl ?_
              refine L_nou (e := 52) rfl rfl rfl rfl ?_
              refine L_nou (e := 52) rfl rfl rfl rfl ?_
              refine L_nou (e := 52) rfl rfl rfl rfl ?_
              refine L_nou (e := 52) rfl rfl rfl rfl ?_
              refine L_nou (e := 56) rfl rfl rfl rfl ?_
              refine L_nou (e := 56) rfl rfl rfl rfl ?_
              refine L_nou (e := 56) rfl rfl rfl rfl ?_
              refine L_nou (e := 52) rfl rfl rfl rfl ?_
              refine L_no (e := 49) rfl rfl rfl rfl ?_
              refine L_run (v := .bool false) (R_pick_f rfl rfl) rfl ?_
              refine L_run (v := .bool false) (R_assign rfl) rfl ?_
              refine L_nil ?_
              refine T_normal ?_
              refine hK9 _ _ ?_
              clear hK9
              refine W_ret ?_
              refine Q_ret (v := .bool false) (res1 Tryd.results3 rfl) ?_
              have hl := pair_law hfp1 hpp1
              refine ⟨congrArg Value.bool ?_, (Same.trans (Same.trans (Same.trans (Same.refl All w) (Same.all hs1)) (Same.all hs2)) (Same.all hs3))⟩
              by_cases hin : inQ a1 ∧ inQ b1
              · obtain ⟨e1, e2, e3, e4⟩ := hl.1 hin
                obtain ⟨hi1, hi2⟩ := hin
                unfold inQ at hi1 hi2
                clear hfp1 hpp1 hl
                simp_all
              · obtain ⟨e1, e2⟩ := hl.2 hin
                unfold inQ at hin
                clear hfp1 hpp1 hl
                first | omega | (simp_all; done) | (simp_all; omega)
          · skip
            try rw [hg4]
            refine L_no (e := 43) rfl rfl rfl rfl ?_
            refine L_no (e := 43) rfl rfl rfl rfl ?_
            refine L_no (e := 43) rfl rfl rfl rfl ?_
            refine L_no (e := 43) rfl rfl rfl rfl ?_
            refine L_run (v := .bool false) (R_pick_f rfl rfl) rfl ?_
            refine L_run (v := .bool false) (R_move rfl) rfl ?_
            refine L_no (e := 49) rfl rfl rfl rfl ?_
            refine L_no (e := 49) rfl rfl rfl rfl ?_
            refine L_no (e := 49) rfl rfl rfl rfl ?_
            refine L_nou (e := 52) rfl rfl rfl rfl ?_
            refine L_nou (e := 52) rfl rfl rfl rfl ?_
            refine L_nou (e := 52) rfl rfl rfl rfl ?_
            refine L_nou (e := 52) rfl rfl rfl rfl ?_
            refine L_nou (e := 56) rfl rfl rfl rfl ?_
            refine L_nou (e := 56) rfl rfl rfl rfl ?_
            refine L_nou (e := 56) rfl rfl rfl rfl ?_
            refine L_nou (e := 52) rfl rfl rfl rfl ?_
            refine L_no (e := 49) rfl rfl rfl rfl ?_
            refine L_run (v := .bool false) (R_pick_f rfl rfl) rfl ?_
            refine L_run (v := .bool false) (R_assign rfl) rfl ?_
            refine L_nil ?_
            refine T_normal ?_
            refine hK9 _ _ ?_
            clear hK9
            refine W_ret ?_
            refine Q_ret (v := .bool false) (res1 Tryd.results3 rfl) ?_
            have hl := pair_law hfp1 hpp1
            refine ⟨congrArg Value.bool ?_, (Same.trans (Same.trans (Same.trans (Same.refl All w) (Same.all hs1)) (Same.all hs2)) (Same.all hs3))⟩
            by_cases hin : inQ a1 ∧ inQ b1
            · obtain ⟨e1, e2, e3, e4⟩ := hl.1 hin
              obtain ⟨hi1, hi2⟩ := hin
              unfold inQ at hi1 hi2
              clear hfp1 hpp1 hl
              simp_all
            · obtain ⟨e1, e2⟩ := hl.2 hin
              unfold inQ at hin
              clear hfp1 hpp1 hl
              first | omega | (simp_all; done) | (simp_all; omega)
        · have hg3p := of_decide_eq_false hg3
          try rw [hg3]
          refine L_no (e := 36) rfl rfl rfl rfl ?_
          refine L_no (e := 36) rfl rfl rfl rfl ?_
          refine L_run (v := .bool false) (R_pick_f rfl rfl) rfl ?_
          refine L_run (v := .bool false) (R_assign rfl) rfl ?_
          refine L_nil ?_
          refine T_normal ?_
          refine hK8 _ _ ?_
          clear hK8
          refine W_seq (fun K10 hK10 => ?_)
          refine W_region ?_
          refine L_run (v := .bool ok1) (R_move rfl) rfl ?_
          refine L_run (v := .bool false) (R_move rfl) rfl ?_
          refine L_run (v := .bool (ok1 == false)) (R_eqb Tryd.underlying4 rfl rfl) rfl ?_
          refine L_run (v := .bool (ok1 == false)) (R_move rfl) rfl ?_
          rcases Bool.eq_false_or_eq_true (ok1 == false) with hg8 | hg8
          · skip
            try rw [hg8]
            refine L_yesrun (e := 43) (v := .string (st t1)) rfl rfl rfl (R_move rfl) rfl ?_
            refine L_yesrun (e := 43) (v := .bool (!decide (t1 = []))) rfl rfl rfl (X_sneq rfl rfl) rfl ?_
            refine L_yesrun (e := 43) (v := .bool false) rfl rfl rfl (R_move rfl) rfl ?_
            refine L_yesrun (e := 43) (v := .bool ((!decide (t1 = [])) == false)) rfl rfl rfl (R_eqb Tryd.underlying4 rfl rfl) rfl ?_
            refine L_run (v := .bool ((!decide (t1 = [])) == false)) (R_pick_t rfl rfl) rfl ?_
            refine L_run (v := .bool ((!decide (t1 = [])) == false)) (R_move rfl) rfl ?_
            rcases Bool.eq_false_or_eq_true ((!decide (t1 = [])) == false) with hg9 | hg9
            · skip
              try rw [hg9]
              refine L_yesrun (e := 49) (v := .bool false) rfl rfl rfl (R_move rfl) rfl ?_
              refine L_yesrun (e := 49) (v := .bool (!false)) rfl rfl rfl (R_not rfl) rfl ?_
              refine L_yesrun (e := 49) (v := .bool (!false)) rfl rfl rfl (R_move rfl) rfl ?_
              rcases Bool.eq_false_or_eq_true (!false) with hg10 | hg10
              · have hg10p := notb_t hg10
                try rw [hg10]
                refine L_no (e := 52) rfl rfl rfl rfl ?_
                refine L_no (e := 52) rfl rfl rfl rfl ?_
                refine L_no (e := 52) rfl rfl rfl rfl ?_
                refine L_no (e := 52) rfl rfl rfl rfl ?_
                refine L_nou (e := 56) rfl rfl rfl rfl ?_
                refine L_nou (e := 56) rfl rfl rfl rfl ?_
                refine L_nou (e := 56) rfl rfl rfl rfl ?_
                refine L_no (e := 52) rfl rfl rfl rfl ?_
                refine L_yesrun (e := 49) (v := .bool true) rfl rfl rfl (R_pick_t rfl rfl) rfl ?_
                refine L_run (v := .bool true) (R_pick_t rfl rfl) rfl ?_
                refine L_run (v := .bool true) (R_assign rfl) rfl ?_
                refine L_nil ?_
                refine T_normal ?_
                refine hK10 _ _ ?_
                clear hK10
                refine W_ret ?_
                refine Q_ret (v := .bool true) (res1 Tryd.results3 rfl) ?_
                have hl := pair_law hfp1 hpp1
                refine ⟨congrArg Value.bool ?_, (Same.trans (Same.trans (Same.trans (Same.refl All w) (Same.all hs1)) (Same.all hs2)) (Same.all hs3))⟩
                by_cases hin : inQ a1 ∧ inQ b1
                · obtain ⟨e1, e2, e3, e4⟩ := hl.1 hin
                  obtain ⟨hi1, hi2⟩ := hin
                  unfold inQ at hi1 hi2
                  clear hfp1 hpp1 hl
                  simp_all
                · obtain ⟨e1, e2⟩ := hl.2 hin
                  unfold inQ at hin
                  clear hfp1 hpp1 hl
                  first | omega | (simp_all; done) | (simp_all; omega)
              · have hg10p := notb_f hg10
                try rw [hg10]
                refine L_yesrun (e := 52) (v := .int .i64 a2) rfl rfl rfl (R_move rfl) rfl ?_
                refine L_yesrun (e := 52) (v := .int .i64 a1) rfl rfl rfl (R_move rfl) rfl ?_
                refine L_yesrun (e := 52) (v := .bool (decide (a2 = a1))) rfl rfl rfl (R_eql rfl rfl) rfl ?_
                refine L_yesrun (e := 52) (v := .bool (decide (a2 = a1))) rfl rfl rfl (R_move rfl) rfl ?_
                rcases Bool.eq_false_or_eq_true (decide (a2 = a1)) with hg11 | hg11
                · have hg11p := of_decide_eq_true hg11
                  try rw [hg11]
                  refine L_yesrun (e := 56) (v := .int .i64 b2) rfl rfl rfl (R_move rfl) rfl ?_
                  refine L_yesrun (e := 56) (v := .int .i64 b1) rfl rfl rfl (R_move rfl) rfl ?_
                  refine L_yesrun (e := 56) (v := .bool (decide (b2 = b1))) rfl rfl rfl (R_eql rfl rfl) rfl ?_
                  refine L_yesrun (e := 52) (v := .bool (decide (b2 = b1))) rfl rfl rfl (R_pick_t rfl rfl) rfl ?_
                  refine L_yesrun (e := 49) (v := .bool (decide (b2 = b1))) rfl rfl rfl (R_pick_f rfl rfl) rfl ?_
                  refine L_run (v := .bool (decide (b2 = b1))) (R_pick_t rfl rfl) rfl ?_
                  refine L_run (v := .bool (decide (b2 = b1))) (R_assign rfl) rfl ?_
                  refine L_nil ?_
                  refine T_normal ?_
                  refine hK10 _ _ ?_
                  clear hK10
                  refine W_ret ?_
                  refine Q_ret (v := .bool (decide (b2 = b1))) (res1 Tryd.results3 rfl) ?_
                  have hl := pair_law hfp1 hpp1
                  refine ⟨congrArg Value.bool ?_, (Same.trans (Same.trans (Same.trans (Same.refl All w) (Same.all hs1)) (Same.all hs2)) (Same.all hs3))⟩
                  by_cases hin : inQ a1 ∧ inQ b1
                  · obtain ⟨e1, e2, e3, e4⟩ := hl.1 hin
                    obtain ⟨hi1, hi2⟩ := hin
                    unfold inQ at hi1 hi2
                    clear hfp1 hpp1 hl
                    simp_all
                  · obtain ⟨e1, e2⟩ := hl.2 hin
                    unfold inQ at hin
                    clear hfp1 hpp1 hl
                    first | omega | (simp_all; done) | (simp_all; omega)
                · have hg11p := of_decide_eq_false hg11
                  try rw [hg11]
                  refine L_no (e := 56) rfl rfl rfl rfl ?_
                  refine L_no (e := 56) rfl rfl rfl rfl ?_
                  refine L_no (e := 56) rfl rfl rfl rfl ?_
                  refine L_yesrun (e := 52) (v := .bool false) rfl rfl rfl (R_pick_f rfl rfl) rfl ?_
                  refine L_yesrun (e := 49) (v := .bool false) rfl rfl rfl (R_pick_f rfl rfl) rfl ?_
                  refine L_run (v := .bool false) (R_pick_t rfl rfl) rfl ?_
                  refine L_run (v := .bool false) (R_assign rfl) rfl ?_
                  refine L_nil ?_
                  refine T_normal ?_
                  refine hK10 _ _ ?_
                  clear hK10
                  refine W_ret ?_
                  refine Q_ret (v := .bool false) (res1 Tryd.results3 rfl) ?_
                  have hl := pair_law hfp1 hpp1
                  refine ⟨congrArg Value.bool ?_, (Same.trans (Same.trans (Same.trans (Same.refl All w) (Same.all hs1)) (Same.all hs2)) (Same.all hs3))⟩
                  by_cases hin : inQ a1 ∧ inQ b1
                  · obtain ⟨e1, e2, e3, e4⟩ := hl.1 hin
                    obtain ⟨hi1, hi2⟩ := hin
                    unfold inQ at hi1 hi2
                    clear hfp1 hpp1 hl
                    simp_all
                  · obtain ⟨e1, e2⟩ := hl.2 hin
                    unfold inQ at hin
                    clear hfp1 hpp1 hl
                    first | omega | (simp_all; done) | (simp_all; omega)
            · skip
              try rw [hg9]
              refine L_no (e := 49) rfl rfl rfl rfl ?_
              refine L_no (e := 49) rfl rfl rfl rfl ?_
              refine L_no (e := 49) rfl rfl rfl rfl ?_
              refine L_nou (e := 52) rfl rfl rfl rfl ?_
              refine L_nou (e := 52) rfl rfl rfl rfl ?_
              refine L_nou (e := 52) rfl rfl rfl rfl ?_
              refine L_nou (e := 52) rfl rfl rfl rfl ?_
              refine L_nou (e := 56) rfl rfl rfl rfl ?_
              refine L_nou (e := 56) rfl rfl rfl rfl ?_
              refine L_nou (e := 56) rfl rfl rfl rfl ?_
              refine L_nou (e := 52) rfl rfl rfl rfl ?_
              refine L_no (e := 49) rfl rfl rfl rfl ?_
              refine L_run (v := .bool false) (R_pick_f rfl rfl) rfl ?_
              refine L_run (v := .bool false) (R_assign rfl) rfl ?_
              refine L_nil ?_
              refine T_normal ?_
              refine hK10 _ _ ?_
              clear hK10
              refine W_ret ?_
              refine Q_ret (v := .bool false) (res1 Tryd.results3 rfl) ?_
              have hl := pair_law hfp1 hpp1
              refine ⟨congrArg Value.bool ?_, (Same.trans (Same.trans (Same.trans (Same.refl All w) (Same.all hs1)) (Same.all hs2)) (Same.all hs3))⟩
              by_cases hin : inQ a1 ∧ inQ b1
              · obtain ⟨e1, e2, e3, e4⟩ := hl.1 hin
                obtain ⟨hi1, hi2⟩ := hin
                unfold inQ at hi1 hi2
                clear hfp1 hpp1 hl
                simp_all
              · obtain ⟨e1, e2⟩ := hl.2 hin
                unfold inQ at hin
                clear hfp1 hpp1 hl
                first | omega | (simp_all; done) | (simp_all; omega)
          · skip
            try rw [hg8]
            refine L_no (e := 43) rfl rfl rfl rfl ?_
            refine L_no (e := 43) rfl rfl rfl rfl ?_
            refine L_no (e := 43) rfl rfl rfl rfl ?_
            refine L_no (e := 43) rfl rfl rfl rfl ?_
            refine L_run (v := .bool false) (R_pick_f rfl rfl) rfl ?_
            refine L_run (v := .bool false) (R_move rfl) rfl ?_
            refine L_no (e := 49) rfl rfl rfl rfl ?_
            refine L_no (e := 49) rfl rfl rfl rfl ?_
            refine L_no (e := 49) rfl rfl rfl rfl ?_
            refine L_nou (e := 52) rfl rfl rfl rfl ?_
            refine L_nou (e := 52) rfl rfl rfl rfl ?_
            refine L_nou (e := 52) rfl rfl rfl rfl ?_
            refine L_nou (e := 52) rfl rfl rfl rfl ?_
            refine L_nou (e := 56) rfl rfl rfl rfl ?_
            refine L_nou (e := 56) rfl rfl rfl rfl ?_
            refine L_nou (e := 56) rfl rfl rfl rfl ?_
            refine L_nou (e := 52) rfl rfl rfl rfl ?_
            refine L_no (e := 49) rfl rfl rfl rfl ?_
            refine L_run (v := .bool false) (R_pick_f rfl rfl) rfl ?_
            refine L_run (v := .bool false) (R_assign rfl) rfl ?_
            refine L_nil ?_
            refine T_normal ?_
            refine hK10 _ _ ?_
            clear hK10
            refine W_ret ?_
            refine Q_ret (v := .bool false) (res1 Tryd.results3 rfl) ?_
            have hl := pair_law hfp1 hpp1
            refine ⟨congrArg Value.bool ?_, (Same.trans (Same.trans (Same.trans (Same.refl All w) (Same.all hs1)) (Same.all hs2)) (Same.all hs3))⟩
            by_cases hin : inQ a1 ∧ inQ b1
            · obtain ⟨e1, e2, e3, e4⟩ := hl.1 hin
              obtain ⟨hi1, hi2⟩ := hin
              unfold inQ at hi1 hi2
              clear hfp1 hpp1 hl
              simp_all
            · obtain ⟨e1, e2⟩ := hl.2 hin
              unfold inQ at hin
              clear hfp1 hpp1 hl
              first | omega | (simp_all; done) | (simp_all; omega)
      · have hg2p := of_decide_eq_false hg2
        try rw [hg2]
        refine L_no (e := 32) rfl rfl rfl rfl ?_
        refine L_no (e := 32) rfl rfl rfl rfl ?_
        refine L_run (v := .bool false) (R_pick_f rfl rfl) rfl ?_
        refine L_run (v := .bool false) (R_move rfl) rfl ?_
        refine L_no (e := 36) rfl rfl rfl rfl ?_
        refine L_no (e := 36) rfl rfl rfl rfl ?_
        refine L_run (v := .bool false) (R_pick_f rfl rfl) rfl ?_
        refine L_run (v := .bool false) (R_assign rfl) rfl ?_
        refine L_nil ?_
        refine T_normal ?_
        refine hK8 _ _ ?_
        clear hK8
        refine W_seq (fun K11 hK11 => ?_)
        refine W_region ?_
        refine L_run (v := .bool ok1) (R_move rfl) rfl ?_
        refine L_run (v := .bool false) (R_move rfl) rfl ?_
        refine L_run (v := .bool (ok1 == false)) (R_eqb Tryd.underlying4 rfl rfl) rfl ?_
        refine L_run (v := .bool (ok1 == false)) (R_move rfl) rfl ?_
        rcases Bool.eq_false_or_eq_true (ok1 == false) with hg12 | hg12
        · skip
          try rw [hg12]
          refine L_yesrun (e := 43) (v := .string (st t1)) rfl rfl rfl (R_move rfl) rfl ?_
          refine L_yesrun (e := 43) (v := .bool (!decide (t1 = []))) rfl rfl rfl (X_sneq rfl rfl) rfl ?_
          refine L_yesrun (e := 43) (v := .bool false) rfl rfl rfl (R_move rfl) rfl ?_
          refine L_yesrun (e := 43) (v := .bool ((!decide (t1 = [])) == false)) rfl rfl rfl (R_eqb Tryd.underlying4 rfl rfl) rfl ?_
          refine L_run (v := .bool ((!decide (t1 = [])) == false)) (R_pick_t rfl rfl) rfl ?_
          refine L_run (v := .bool ((!decide (t1 = [])) == false)) (R_move rfl) rfl ?_
          rcases Bool.eq_false_or_eq_true ((!decide (t1 = [])) == false) with hg13 | hg13
          · skip
            try rw [hg13]
            refine L_yesrun (e := 49) (v := .bool false) rfl rfl rfl (R_move rfl) rfl ?_
            refine L_yesrun (e := 49) (v := .bool (!false)) rfl rfl rfl (R_not rfl) rfl ?_
            refine L_yesrun (e := 49) (v := .bool (!false)) rfl rfl rfl (R_move rfl) rfl ?_
            rcases Bool.eq_false_or_eq_true (!false) with hg14 | hg14
            · have hg14p := notb_t hg14
              try rw [hg14]
              refine L_no (e := 52) rfl rfl rfl rfl ?_
              refine L_no (e := 52) rfl rfl rfl rfl ?_
              refine L_no (e := 52) rfl rfl rfl rfl ?_
              refine L_no (e := 52) rfl rfl rfl rfl ?_
              refine L_nou (e := 56) rfl rfl rfl rfl ?_
              refine L_nou (e := 56) rfl rfl rfl rfl ?_
              refine L_nou (e := 56) rfl rfl rfl rfl ?_
              refine L_no (e := 52) rfl rfl rfl rfl ?_
              refine L_yesrun (e := 49) (v := .bool true) rfl rfl rfl (R_pick_t rfl rfl) rfl ?_
              refine L_run (v := .bool true) (R_pick_t rfl rfl) rfl ?_
              refine L_run (v := .bool true) (R_assign rfl) rfl ?_
              refine L_nil ?_
              refine T_normal ?_
              refine hK11 _ _ ?_
              clear hK11
              refine W_ret ?_
              refine Q_ret (v := .bool true) (res1 Tryd.results3 rfl) ?_
              have hl := pair_law hfp1 hpp1
              refine ⟨congrArg Value.bool ?_, (Same.trans (Same.trans (Same.trans (Same.refl All w) (Same.all hs1)) (Same.all hs2)) (Same.all hs3))⟩
              by_cases hin : inQ a1 ∧ inQ b1
              · obtain ⟨e1, e2, e3, e4⟩ := hl.1 hin
                obtain ⟨hi1, hi2⟩ := hin
                unfold inQ at hi1 hi2
                clear hfp1 hpp1 hl
                simp_all
              · obtain ⟨e1, e2⟩ := hl.2 hin
                unfold inQ at hin
                clear hfp1 hpp1 hl
                first | omega | (simp_all; done) | (simp_all; omega)
            · have hg14p := notb_f hg14
              try rw [hg14]
              refine L_yesrun (e := 52) (v := .int .i64 a2) rfl rfl rfl (R_move rfl) rfl ?_
              refine L_yesrun (e := 52) (v := .int .i64 a1) rfl rfl rfl (R_move rfl) rfl ?_
              refine L_yesrun (e := 52) (v := .bool (decide (a2 = a1))) rfl rfl rfl (R_eql rfl rfl) rfl ?_
              refine L_yesrun (e := 52) (v := .bool (decide (a2 = a1))) rfl rfl rfl (R_move rfl) rfl ?_
              rcases Bool.eq_false_or_eq_true (decide (a2 = a1)) with hg15 | hg15
              · have hg15p := of_decide_eq_true hg15
                try rw [hg15]
                refine L_yesrun (e := 56) (v := .int .i64 b2) rfl rfl rfl (R_move rfl) rfl ?_
                refine L_yesrun (e := 56) (v := .int .i64 b1) rfl rfl rfl (R_move rfl) rfl ?_
                refine L_yesrun (e := 56) (v := .bool (decide (b2 = b1))) rfl rfl rfl (R_eql rfl rfl) rfl ?_
                refine L_yesrun (e := 52) (v := .bool (decide (b2 = b1))) rfl rfl rfl (R_pick_t rfl rfl) rfl ?_
                refine L_yesrun (e := 49) (v := .bool (decide (b2 = b1))) rfl rfl rfl (R_pick_f rfl rfl) rfl ?_
                refine L_run (v := .bool (decide (b2 = b1))) (R_pick_t rfl rfl) rfl ?_
                refine L_run (v := .bool (decide (b2 = b1))) (R_assign rfl) rfl ?_
                refine L_nil ?_
                refine T_normal ?_
                refine hK11 _ _ ?_
                clear hK11
                refine W_ret ?_
                refine Q_ret (v := .bool (decide (b2 = b1))) (res1 Tryd.results3 rfl) ?_
                have hl := pair_law hfp1 hpp1
                refine ⟨congrArg Value.bool ?_, (Same.trans (Same.trans (Same.trans (Same.refl All w) (Same.all hs1)) (Same.all hs2)) (Same.all hs3))⟩
                by_cases hin : inQ a1 ∧ inQ b1
                · obtain ⟨e1, e2, e3, e4⟩ := hl.1 hin
                  obtain ⟨hi1, hi2⟩ := hin
                  unfold inQ at hi1 hi2
                  clear hfp1 hpp1 hl
                  simp_all
                · obtain ⟨e1, e2⟩ := hl.2 hin
                  unfold inQ at hin
                  clear hfp1 hpp1 hl
                  first | omega | (simp_all; done) | (simp_all; omega)
              · have hg15p := of_decide_eq_false hg15
                try rw [hg15]
                refine L_no (e := 56) rfl rfl rfl rfl ?_
                refine L_no (e := 56) rfl rfl rfl rfl ?_
                refine L_no (e := 56) rfl rfl rfl rfl ?_
                refine L_yesrun (e := 52) (v := .bool false) rfl rfl rfl (R_pick_f rfl rfl) rfl ?_
                refine L_yesrun (e := 49) (v := .bool false) rfl rfl rfl (R_pick_f rfl rfl) rfl ?_
                refine L_run (v := .bool false) (R_pick_t rfl rfl) rfl ?_
                refine L_run (v := .bool false) (R_assign rfl) rfl ?_
                refine L_nil ?_
                refine T_normal ?_
                refine hK11 _ _ ?_
                clear hK11
                refine W_ret ?_
                refine Q_ret (v := .bool false) (res1 Tryd.results3 rfl) ?_
                have hl := pair_law hfp1 hpp1
                refine ⟨congrArg Value.bool ?_, (Same.trans (Same.trans (Same.trans (Same.refl All w) (Same.all hs1)) (Same.all hs2)) (Same.all hs3))⟩
                by_cases hin : inQ a1 ∧ inQ b1
                · obtain ⟨e1, e2, e3, e4⟩ := hl.1 hin
                  obtain ⟨hi1, hi2⟩ := hin
                  unfold inQ at hi1 hi2
                  clear hfp1 hpp1 hl
                  simp_all
                · obtain ⟨e1, e2⟩ := hl.2 hin
                  unfold inQ at hin
                  clear hfp1 hpp1 hl
                  first | omega | (simp_all; done) | (simp_all; omega)
          · skip
            try rw [hg13]
            refine L_no (e := 49) rfl rfl rfl rfl ?_
            refine L_no (e := 49) rfl rfl rfl rfl ?_
            refine L_no (e := 49) rfl rfl rfl rfl ?_
            refine L_nou (e := 52) rfl rfl rfl rfl ?_
            refine L_nou (e := 52) rfl rfl rfl rfl ?_
            refine L_nou (e := 52) rfl rfl rfl rfl ?_
            refine L_nou (e := 52) rfl rfl rfl rfl ?_
            refine L_nou (e := 56) rfl rfl rfl rfl ?_
            refine L_nou (e := 56) rfl rfl rfl rfl ?_
            refine L_nou (e := 56) rfl rfl rfl rfl ?_
            refine L_nou (e := 52) rfl rfl rfl rfl ?_
            refine L_no (e := 49) rfl rfl rfl rfl ?_
            refine L_run (v := .bool false) (R_pick_f rfl rfl) rfl ?_
            refine L_run (v := .bool false) (R_assign rfl) rfl ?_
            refine L_nil ?_
            refine T_normal ?_
            refine hK11 _ _ ?_
            clear hK11
            refine W_ret ?_
            refine Q_ret (v := .bool false) (res1 Tryd.results3 rfl) ?_
            have hl := pair_law hfp1 hpp1
            refine ⟨congrArg Value.bool ?_, (Same.trans (Same.trans (Same.trans (Same.refl All w) (Same.all hs1)) (Same.all hs2)) (Same.all hs3))⟩
            by_cases hin : inQ a1 ∧ inQ b1
            · obtain ⟨e1, e2, e3, e4⟩ := hl.1 hin
              obtain ⟨hi1, hi2⟩ := hin
              unfold inQ at hi1 hi2
              clear hfp1 hpp1 hl
              simp_all
            · obtain ⟨e1, e2⟩ := hl.2 hin
              unfold inQ at hin
              clear hfp1 hpp1 hl
              first | omega | (simp_all; done) | (simp_all; omega)
        · skip
          try rw [hg12]
          refine L_no (e := 43) rfl rfl rfl rfl ?_
          refine L_no (e := 43) rfl rfl rfl rfl ?_
          refine L_no (e := 43) rfl rfl rfl rfl ?_
          refine L_no (e := 43) rfl rfl rfl rfl ?_
          refine L_run (v := .bool false) (R_pick_f rfl rfl) rfl ?_
          refine L_run (v := .bool false) (R_move rfl) rfl ?_
          refine L_no (e := 49) rfl rfl rfl rfl ?_
          refine L_no (e := 49) rfl rfl rfl rfl ?_
          refine L_no (e := 49) rfl rfl rfl rfl ?_
          refine L_nou (e := 52) rfl rfl rfl rfl ?_
          refine L_nou (e := 52) rfl rfl rfl rfl ?_
          refine L_nou (e := 52) rfl rfl rfl rfl ?_
          refine L_nou (e := 52) rfl rfl rfl rfl ?_
          refine L_nou (e := 56) rfl rfl rfl rfl ?_
          refine L_nou (e := 56) rfl rfl rfl rfl ?_
          refine L_nou (e := 56) rfl rfl rfl rfl ?_
          refine L_nou (e := 52) rfl rfl rfl rfl ?_
          refine L_no (e := 49) rfl rfl rfl rfl ?_
          refine L_run (v := .bool false) (R_pick_f rfl rfl) rfl ?_
          refine L_run (v := .bool false) (R_assign rfl) rfl ?_
          refine L_nil ?_
          refine T_normal ?_
          refine hK11 _ _ ?_
          clear hK11
          refine W_ret ?_
          refine Q_ret (v := .bool false) (res1 Tryd.results3 rfl) ?_
          have hl := pair_law hfp1 hpp1
          refine ⟨congrArg Value.bool ?_, (Same.trans (Same.trans (Same.trans (Same.refl All w) (Same.all hs1)) (Same.all hs2)) (Same.all hs3))⟩
          by_cases hin : inQ a1 ∧ inQ b1
          · obtain ⟨e1, e2, e3, e4⟩ := hl.1 hin
            obtain ⟨hi1, hi2⟩ := hin
            unfold inQ at hi1 hi2
            clear hfp1 hpp1 hl
            simp_all
          · obtain ⟨e1, e2⟩ := hl.2 hin
            unfold inQ at hin
            clear hfp1 hpp1 hl
            first | omega | (simp_all; done) | (simp_all; omega)
    · have hg1p := of_decide_eq_false hg1
      try rw [hg1]
      refine L_no (e := 28) rfl rfl rfl rfl ?_
      refine L_no (e := 28) rfl rfl rfl rfl ?_
      refine L_run (v := .bool false) (R_pick_f rfl rfl) rfl ?_
      refine L_run (v := .bool false) (R_move rfl) rfl ?_
      refine L_no (e := 32) rfl rfl rfl rfl ?_
      refine L_no (e := 32) rfl rfl rfl rfl ?_
      refine L_run (v := .bool false) (R_pick_f rfl rfl) rfl ?_
      refine L_run (v := .bool false) (R_move rfl) rfl ?_
      refine L_no (e := 36) rfl rfl rfl rfl ?_
      refine L_no (e := 36) rfl rfl rfl rfl ?_
      refine L_run (v := .bool false) (R_pick_f rfl rfl) rfl ?_
      refine L_run (v := .bool false) (R_assign rfl) rfl ?_
      refine L_nil ?_
      refine T_normal ?_
      refine hK8 _ _ ?_
      clear hK8
      refine W_seq (fun K12 hK12 => ?_)
      refine W_region ?_
      refine L_run (v := .bool ok1) (R_move rfl) rfl ?_
      refine L_run (v := .bool false) (R_move rfl) rfl ?_
      refine L_run (v := .bool (ok1 == false)) (R_eqb Tryd.underlying4 rfl rfl) rfl ?_
      refine L_run (v := .bool (ok1 == false)) (R_move rfl) rfl ?_
      rcases Bool.eq_false_or_eq_true (ok1 == false) with hg16 | hg16
      · skip
        try rw [hg16]
        refine L_yesrun (e := 43) (v := .string (st t1)) rfl rfl rfl (R_move rfl) rfl ?_
        refine L_yesrun (e := 43) (v := .bool (!decide (t1 = []))) rfl rfl rfl (X_sneq rfl rfl) rfl ?_
        refine L_yesrun (e := 43) (v := .bool false) rfl rfl rfl (R_move rfl) rfl ?_
        refine L_yesrun (e := 43) (v := .bool ((!decide (t1 = [])) == false)) rfl rfl rfl (R_eqb Tryd.underlying4 rfl rfl) rfl ?_
        refine L_run (v := .bool ((!decide (t1 = [])) == false)) (R_pick_t rfl rfl) rfl ?_
        refine L_run (v := .bool ((!decide (t1 = [])) == false)) (R_move rfl) rfl ?_
        rcases Bool.eq_false_or_eq_true ((!decide (t1 = [])) == false) with hg17 | hg17
        · skip
          try rw [hg17]
          refine L_yesrun (e := 49) (v := .bool false) rfl rfl rfl (R_move rfl) rfl ?_
          refine L_yesrun (e := 49) (v := .bool (!false)) rfl rfl rfl (R_not rfl) rfl ?_
          refine L_yesrun (e := 49) (v := .bool (!false)) rfl rfl rfl (R_move rfl) rfl ?_
          rcases Bool.eq_false_or_eq_true (!false) with hg18 | hg18
          · have hg18p := notb_t hg18
            try rw [hg18]
            refine L_no (e := 52) rfl rfl rfl rfl ?_
            refine L_no (e := 52) rfl rfl rfl rfl ?_
            refine L_no (e := 52) rfl rfl rfl rfl ?_
            refine L_no (e := 52) rfl rfl rfl rfl ?_
            refine L_nou (e := 56) rfl rfl rfl rfl ?_
            refine L_nou (e := 56) rfl rfl rfl rfl ?_
            refine L_nou (e := 56) rfl rfl rfl rfl ?_
            refine L_no (e := 52) rfl rfl rfl rfl ?_
            refine L_yesrun (e := 49) (v := .bool true) rfl rfl rfl (R_pick_t rfl rfl) rfl ?_
            refine L_run (v := .bool true) (R_pick_t rfl rfl) rfl ?_
            refine L_run (v := .bool true) (R_assign rfl) rfl ?_
            refine L_nil ?_
            refine T_normal ?_
            refine hK12 _ _ ?_
            clear hK12
            refine W_ret ?_
            refine Q_ret (v := .bool true) (res1 Tryd.results3 rfl) ?_
            have hl := pair_law hfp1 hpp1
            refine ⟨congrArg Value.bool ?_, (Same.trans (Same.trans (Same.trans (Same.refl All w) (Same.all hs1)) (Same.all hs2)) (Same.all hs3))⟩
            by_cases hin : inQ a1 ∧ inQ b1
            · obtain ⟨e1, e2, e3, e4⟩ := hl.1 hin
              obtain ⟨hi1, hi2⟩ := hin
              unfold inQ at hi1 hi2
              clear hfp1 hpp1 hl
              simp_all
            · obtain ⟨e1, e2⟩ := hl.2 hin
              unfold inQ at hin
              clear hfp1 hpp1 hl
              first | omega | (simp_all; done) | (simp_all; omega)
          · have hg18p := notb_f hg18
            try rw [hg18]
            refine L_yesrun (e := 52) (v := .int .i64 a2) rfl rfl rfl (R_move rfl) rfl ?_
            refine L_yesrun (e := 52) (v := .int .i64 a1) rfl rfl rfl (R_move rfl) rfl ?_
            refine L_yesrun (e := 52) (v := .bool (decide (a2 = a1))) rfl rfl rfl (R_eql rfl rfl) rfl ?_
            refine L_yesrun (e := 52) (v := .bool (decide (a2 = a1))) rfl rfl rfl (R_move rfl) rfl ?_
            rcases Bool.eq_false_or_eq_true (decide (a2 = a1)) with hg19 | hg19
            · have hg19p := of_decide_eq_true hg19
              try rw [hg19]
              refine L_yesrun (e := 56) (v := .int .i64 b2) rfl rfl rfl (R_move rfl) rfl ?_
              refine L_yesrun (e := 56) (v := .int .i64 b1) rfl rfl rfl (R_move rfl) rfl ?_
              refine L_yesrun (e := 56) (v := .bool (decide (b2 = b1))) rfl rfl rfl (R_eql rfl rfl) rfl ?_
              refine L_yesrun (e := 52) (v := .bool (decide (b2 = b1))) rfl rfl rfl (R_pick_t rfl rfl) rfl ?_
              refine L_yesrun (e := 49) (v := .bool (decide (b2 = b1))) rfl rfl rfl (R_pick_f rfl rfl) rfl ?_
              refine L_run (v := .bool (decide (b2 = b1))) (R_pick_t rfl rfl) rfl ?_
              refine L_run (v := .bool (decide (b2 = b1))) (R_assign rfl) rfl ?_
              refine L_nil ?_
              refine T_normal ?_
              refine hK12 _ _ ?_
              clear hK12
              refine W_ret ?_
              refine Q_ret (v := .bool (decide (b2 = b1))) (res1 Tryd.results3 rfl) ?_
              have hl := pair_law hfp1 hpp1
              refine ⟨congrArg Value.bool ?_, (Same.trans (Same.trans (Same.trans (Same.refl All w) (Same.all hs1)) (Same.all hs2)) (Same.all hs3))⟩
              by_cases hin : inQ a1 ∧ inQ b1
              · obtain ⟨e1, e2, e3, e4⟩ := hl.1 hin
                obtain ⟨hi1, hi2⟩ := hin
                unfold inQ at hi1 hi2
                clear hfp1 hpp1 hl
                simp_all
              · obtain ⟨e1, e2⟩ := hl.2 hin
                unfold inQ at hin
                clear hfp1 hpp1 hl
                first | omega | (simp_all; done) | (simp_all; omega)
            · have hg19p := of_decide_eq_false hg19
              try rw [hg19]
              refine L_no (e := 56) rfl rfl rfl rfl ?_
              refine L_no (e := 56) rfl rfl rfl rfl ?_
              refine L_no (e := 56) rfl rfl rfl rfl ?_
              refine L_yesrun (e := 52) (v := .bool false) rfl rfl rfl (R_pick_f rfl rfl) rfl ?_
              refine L_yesrun (e := 49) (v := .bool false) rfl rfl rfl (R_pick_f rfl rfl) rfl ?_
              refine L_run (v := .bool false) (R_pick_t rfl rfl) rfl ?_
              refine L_run (v := .bool false) (R_assign rfl) rfl ?_
              refine L_nil ?_
              refine T_normal ?_
              refine hK12 _ _ ?_
              clear hK12
              refine W_ret ?_
              refine Q_ret (v := .bool false) (res1 Tryd.results3 rfl) ?_
              have hl := pair_law hfp1 hpp1
              refine ⟨congrArg Value.bool ?_, (Same.trans (Same.trans (Same.trans (Same.refl All w) (Same.all hs1)) (Same.all hs2)) (Same.all hs3))⟩
              by_cases hin : inQ a1 ∧ inQ b1
              · obtain ⟨e1, e2, e3, e4⟩ := hl.1 hin
                obtain ⟨hi1, hi2⟩ := hin
                unfold inQ at hi1 hi2
                clear hfp1 hpp1 hl
                simp_all
              · obtain ⟨e1, e2⟩ := hl.2 hin
                unfold inQ at hin
                clear hfp1 hpp1 hl
                first | omega | (simp_all; done) | (simp_all; omega)
        · skip
          try rw [hg17]
          refine L_no (e := 49) rfl rfl rfl rfl ?_
          refine L_no (e := 49) rfl rfl rfl rfl ?_
          refine L_no (e := 49) rfl rfl rfl rfl ?_
          refine L_nou (e := 52) rfl rfl rfl rfl ?_
          refine L_nou (e := 52) rfl rfl rfl rfl ?_
          refine L_nou (e := 52) rfl rfl rfl rfl ?_
          refine L_nou (e := 52) rfl rfl rfl rfl ?_
          refine L_nou (e := 56) rfl rfl rfl rfl ?_
          refine L_nou (e := 56) rfl rfl rfl rfl ?_
          refine L_nou (e := 56) rfl rfl rfl rfl ?_
          refine L_nou (e := 52) rfl rfl rfl rfl ?_
          refine L_no (e := 49) rfl rfl rfl rfl ?_
          refine L_run (v := .bool false) (R_pick_f rfl rfl) rfl ?_
          refine L_run (v := .bool false) (R_assign rfl) rfl ?_
          refine L_nil ?_
          refine T_normal ?_
          refine hK12 _ _ ?_
          clear hK12
          refine W_ret ?_
          refine Q_ret (v := .bool false) (res1 Tryd.results3 rfl) ?_
          have hl := pair_law hfp1 hpp1
          refine ⟨congrArg Value.bool ?_, (Same.trans (Same.trans (Same.trans (Same.refl All w) (Same.all hs1)) (Same.all hs2)) (Same.all hs3))⟩
          by_cases hin : inQ a1 ∧ inQ b1
          · obtain ⟨e1, e2, e3, e4⟩ := hl.1 hin
            obtain ⟨hi1, hi2⟩ := hin
            unfold inQ at hi1 hi2
            clear hfp1 hpp1 hl
            simp_all
          · obtain ⟨e1, e2⟩ := hl.2 hin
            unfold inQ at hin
            clear hfp1 hpp1 hl
            first | omega | (simp_all; done) | (simp_all; omega)
      · skip
        try rw [hg16]
        refine L_no (e := 43) rfl rfl rfl rfl ?_
        refine L_no (e := 43) rfl rfl rfl rfl ?_
        refine L_no (e := 43) rfl rfl rfl rfl ?_
        refine L_no (e := 43) rfl rfl rfl rfl ?_
        refine L_run (v := .bool false) (R_pick_f rfl rfl) rfl ?_
        refine L_run (v := .bool false) (R_move rfl) rfl ?_
        refine L_no (e := 49) rfl rfl rfl rfl ?_
        refine L_no (e := 49) rfl rfl rfl rfl ?_
        refine L_no (e := 49) rfl rfl rfl rfl ?_
        refine L_nou (e := 52) rfl rfl rfl rfl ?_
        refine L_nou (e := 52) rfl rfl rfl rfl ?_
        refine L_nou (e := 52) rfl rfl rfl rfl ?_
        refine L_nou (e := 52) rfl rfl rfl rfl ?_
        refine L_nou (e := 56) rfl rfl rfl rfl ?_
        refine L_nou (e := 56) rfl rfl rfl rfl ?_
        refine L_nou (e := 56) rfl rfl rfl rfl ?_
        refine L_nou (e := 52) rfl rfl rfl rfl ?_
        refine L_no (e := 49) rfl rfl rfl rfl ?_
        refine L_run (v := .bool false) (R_pick_f rfl rfl) rfl ?_
        refine L_run (v := .bool false) (R_assign rfl) rfl ?_
        refine L_nil ?_
        refine T_normal ?_
        refine hK12 _ _ ?_
        clear hK12
        refine W_ret ?_
        refine Q_ret (v := .bool false) (res1 Tryd.results3 rfl) ?_
        have hl := pair_law hfp1 hpp1
        refine ⟨congrArg Value.bool ?_, (Same.trans (Same.trans (Same.trans (Same.refl All w) (Same.all hs1)) (Same.all hs2)) (Same.all hs3))⟩
        by_cases hin : inQ a1 ∧ inQ b1
        · obtain ⟨e1, e2, e3, e4⟩ := hl.1 hin
          obtain ⟨hi1, hi2⟩ := hin
          unfold inQ at hi1 hi2
          clear hfp1 hpp1 hl
          simp_all
        · obtain ⟨e1, e2⟩ := hl.2 hin
          unfold inQ at hin
          clear hfp1 hpp1 hl
          first | omega | (simp_all; done) | (simp_all; omega)

end Go.Proofs.YtpfbheodbgkgmaaDoor
