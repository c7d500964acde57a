/- The walks of HasPrefix, TrimPrefix and parseInt. -/
import Derived.Test.YtpfbheodbgkgmaaDoorGxStr
import Derived.Test.YtpfbheodbgkgmaaDoorGxTxt
import Derived.Test.YtpfbheodbgkgmaaDoorChecked
import Derived.Test.YtpfbheodbgkgmaaDoorShelf
import Derived.Test.YtpfbheodbgkgmaaDoorTa
import Derived.Test.YtpfbheodbgkgmaaDoorTb
set_option linter.unusedSimpArgs false
set_option linter.unusedVariables false
namespace Go.Proofs.YtpfbheodbgkgmaaDoor
open Go Gx Go.Proofs
attribute [local irreducible] OpW wpL WC anyL Run
theorem en77 : Enters Tryd.prog 77 := enters Tryd.func77 rfl (by kernel_rfl)
theorem en78 : Enters Tryd.prog 78 := enters Tryd.func78 rfl (by kernel_rfl)
theorem en79 : Enters Tryd.prog 79 := enters Tryd.func79 rfl (by kernel_rfl)
theorem en116 : Enters Tryd.prog 116 := enters Tryd.func116 rfl (by kernel_rfl)
theorem C_slHasPrefix (s : List UInt8) (p : List UInt8) (w : World) :
    Ret Tryd.prog 116 #[.string (st s), .string (st p)] w (fun v w' => v = .bool (p.isPrefixOf s) ∧ w = w') := by
  refine ret_of (args := [.string (st s), .string (st p)]) Tryd.func116 rfl 18 Tryd.ntmps116 rfl ?_
  refine W_seq (fun K1 hK1 => ?_)
  refine W_region ?_
  refine L_run (v := .bool false) (R_assign rfl) rfl ?_
  refine L_nil ?_
  refine T_normal ?_
  refine hK1 _ _ ?_
  clear hK1
  refine W_seq (fun K2 hK2 => ?_)
  refine W_region ?_
  refine L_run (v := .string (st s)) (R_move rfl) rfl ?_
  refine L_run (v := .int .i64 (s.length : Int)) (X_slen Tryd.underlying9 rfl) rfl ?_
  refine L_run (v := .string (st p)) (R_move rfl) rfl ?_
  refine L_run (v := .int .i64 (p.length : Int)) (X_slen Tryd.underlying9 rfl) rfl ?_
  refine L_run (v := .bool (decide ((p.length : Int) ≤ (s.length : Int)))) (R_geq rfl rfl) rfl ?_
  refine L_run (v := .bool (decide ((p.length : Int) ≤ (s.length : Int)))) (R_move rfl) rfl ?_
  rcases Bool.eq_false_or_eq_true (decide ((p.length : Int) ≤ (s.length : Int))) with hg1 | hg1
  · have hg1p := of_decide_eq_true hg1
    try rw [hg1]
    refine L_yesrun (e := 10) (v := .string (st s)) rfl rfl rfl (R_move rfl) rfl ?_
    refine L_yesrun (e := 10) (v := .string (st p)) rfl rfl rfl (R_move rfl) rfl ?_
    refine L_yesrun (e := 10) (v := .int .i64 (p.length : Int)) rfl rfl rfl (X_slen Tryd.underlying9 rfl) rfl ?_
    refine L_yesrun (e := 10) (v := .string (st (s.take p.length))) rfl rfl rfl (X_sslice0 p.length rfl ⟨_, _, rfl, rfl⟩ (by omega) Tryd.underlying9) rfl ?_
    refine L_yesrun (e := 10) (v := .string (st p)) rfl rfl rfl (R_move rfl) rfl ?_
    refine L_yesrun (e := 10) (v := .bool (decide (s.take p.length = p))) rfl rfl rfl (X_seql rfl rfl) rfl ?_
    refine L_run (v := .bool (decide (s.take p.length = p))) (R_pick_t rfl rfl) rfl ?_
    refine L_run (v := .bool (decide (s.take p.length = p))) (R_assign rfl) rfl ?_
    refine L_nil ?_
    refine T_normal ?_
    refine hK2 _ _ ?_
    clear hK2
    refine W_ret ?_
    refine Q_ret (v := .bool (decide (s.take p.length = p))) (res1 Tryd.results116 rfl) ?_
    exact ⟨by rw [isPre_take (by omega)], rfl⟩
  · have hg1p := of_decide_eq_false hg1
    try rw [hg1]
    refine L_no (e := 10) rfl rfl rfl rfl ?_
    refine L_no (e := 10) rfl rfl rfl rfl ?_
    refine L_no (e := 10) rfl rfl rfl rfl ?_
    refine L_no (e := 10) rfl rfl rfl rfl ?_
    refine L_no (e := 10) rfl rfl rfl rfl ?_
    refine L_no (e := 10) rfl rfl rfl rfl ?_
    refine L_run (v := .bool false) (R_pick_f rfl rfl) rfl ?_
    refine L_run (v := .bool false) (R_assign rfl) rfl ?_
    refine L_nil ?_
    refine T_normal ?_
    refine hK2 _ _ ?_
    clear hK2
    refine W_ret ?_
    refine Q_ret (v := .bool false) (res1 Tryd.results116 rfl) ?_
    exact ⟨by rw [isPre_short (by omega)], rfl⟩

theorem C_HasPrefix (s : List UInt8) (p : List UInt8) (w : World) :
    Ret Tryd.prog 77 #[.string (st s), .string (st p)] w (fun v w' => v = .bool (p.isPrefixOf s) ∧ w = w') := by
  refine ret_of (args := [.string (st s), .string (st p)]) Tryd.func77 rfl 8 Tryd.ntmps77 rfl ?_
  refine W_seq (fun K1 hK1 => ?_)
  refine W_region ?_
  refine L_run (v := .bool false) (R_assign rfl) rfl ?_
  refine L_nil ?_
  refine T_normal ?_
  refine hK1 _ _ ?_
  clear hK1
  refine W_seq (fun K2 hK2 => ?_)
  refine W_region ?_
  refine L_run (v := .string (st s)) (R_move rfl) rfl ?_
  refine L_run (v := .string (st p)) (R_move rfl) rfl ?_
  refine L_op rfl rfl ?_
  refine O_call (args := [.string (st s), .string (st p)]) en116 rfl (C_slHasPrefix s p _) ?_
  rintro _ _ ⟨rfl, rfl⟩
  refine L_run (v := .bool (p.isPrefixOf s)) (R_assign rfl) rfl ?_
  refine L_nil ?_
  refine T_normal ?_
  refine hK2 _ _ ?_
  clear hK2
  refine W_ret ?_
  refine Q_ret (v := .bool (p.isPrefixOf s)) (res1 Tryd.results77 rfl) ?_
  exact ⟨rfl, rfl⟩

theorem C_slTrimPrefix (s : List UInt8) (p : List UInt8) (w : World) :
    Ret Tryd.prog 79 #[.string (st s), .string (st p)] w (fun v w' => v = .string (st (tp s p)) ∧ w = w') := by
  refine ret_of (args := [.string (st s), .string (st p)]) Tryd.func79 rfl 13 Tryd.ntmps79 rfl ?_
  refine W_seq (fun K1 hK1 => ?_)
  refine W_region ?_
  refine L_run (v := .string (st ([]))) (R_assign rfl) rfl ?_
  refine L_nil ?_
  refine T_normal ?_
  refine hK1 _ _ ?_
  clear hK1
  refine W_seq (fun K2 hK2 => ?_)
  refine W_seq (fun K3 hK3 => ?_)
  refine W_region ?_
  refine L_run (v := .string (st s)) (R_move rfl) rfl ?_
  refine L_run (v := .string (st p)) (R_move rfl) rfl ?_
  refine L_op rfl rfl ?_
  refine O_call (args := [.string (st s), .string (st p)]) en116 rfl (C_slHasPrefix s p _) ?_
  rintro _ _ ⟨rfl, rfl⟩
  refine L_nil ?_
  refine T_normal ?_
  refine hK3 _ _ ?_
  clear hK3
  refine W_cond (p.isPrefixOf s) rfl (fun hc0 => ?_) (fun hc0 => ?_)
  · skip
    have hpl := isPre_len hc0
    refine W_seq (fun K4 hK4 => ?_)
    refine W_region ?_
    refine L_run (v := .string (st s)) (R_move rfl) rfl ?_
    refine L_run (v := .string (st p)) (R_move rfl) rfl ?_
    refine L_run (v := .int .i64 (p.length : Int)) (X_slen Tryd.underlying9 rfl) rfl ?_
    refine L_run (v := .string (st (s.drop p.length))) (X_sslice1 p.length rfl ⟨_, _, rfl, rfl⟩ (by omega) Tryd.underlying9) rfl ?_
    refine L_run (v := .string (st (s.drop p.length))) (R_assign rfl) rfl ?_
    refine L_nil ?_
    refine T_normal ?_
    refine hK4 _ _ ?_
    clear hK4
    refine W_ret ?_
    refine T_ret ?_
    refine Q_ret (v := .string (st (s.drop p.length))) (res1 Tryd.results79 rfl) ?_
    clear hK2
    exact ⟨by unfold tp; rw [if_pos hc0], rfl⟩
  · skip
    refine W_skip ?_
    refine T_normal ?_
    refine hK2 _ _ ?_
    clear hK2
    refine W_seq (fun K5 hK5 => ?_)
    refine W_region ?_
    refine L_run (v := .string (st s)) (R_move rfl) rfl ?_
    refine L_run (v := .string (st s)) (R_assign rfl) rfl ?_
    refine L_nil ?_
    refine T_normal ?_
    refine hK5 _ _ ?_
    clear hK5
    refine W_ret ?_
    refine Q_ret (v := .string (st s)) (res1 Tryd.results79 rfl) ?_
    exact ⟨by unfold tp; rw [if_neg (by rw [hc0]; exact Bool.false_ne_true)], rfl⟩

theorem C_TrimPrefix (s : List UInt8) (p : List UInt8) (w : World) :
    Ret Tryd.prog 39 #[.string (st s), .string (st p)] w (fun v w' => v = .string (st (tp s p)) ∧ w = w') := by
  refine ret_of (args := [.string (st s), .string (st p)]) Tryd.func39 rfl 8 Tryd.ntmps39 rfl ?_
  refine W_seq (fun K1 hK1 => ?_)
  refine W_region ?_
  refine L_run (v := .string (st ([]))) (R_assign rfl) rfl ?_
  refine L_nil ?_
  refine T_normal ?_
  refine hK1 _ _ ?_
  clear hK1
  refine W_seq (fun K2 hK2 => ?_)
  refine W_region ?_
  refine L_run (v := .string (st s)) (R_move rfl) rfl ?_
  refine L_run (v := .string (st p)) (R_move rfl) rfl ?_
  refine L_op rfl rfl ?_
  refine O_call (args := [.string (st s), .string (st p)]) en79 rfl (C_slTrimPrefix s p _) ?_
  rintro _ _ ⟨rfl, rfl⟩
  refine L_run (v := .string (st (tp s p))) (R_assign rfl) rfl ?_
  refine L_nil ?_
  refine T_normal ?_
  refine hK2 _ _ ?_
  clear hK2
  refine W_ret ?_
  refine Q_ret (v := .string (st (tp s p))) (res1 Tryd.results39 rfl) ?_
  exact ⟨rfl, rfl⟩

theorem C_parseInt (s : List UInt8) (w : World) (htab : Lib.TabIs Tryd.prog w "internal/strconv.uint64pow10" .u64 Lib.pow10Tab) :
    Ret Tryd.prog 38 #[.string (st s)] w (fun v w' => ∃ (r : Int) (ok : Bool), v = .tuple #[.int .i64 r, .bool ok] ∧ (PI s r ok) ∧ Same All w w') := by
  refine ret_of (args := [.string (st s)]) Tryd.func38 rfl 31 Tryd.ntmps38 rfl ?_
  refine W_seq (fun K1 hK1 => ?_)
  refine W_region ?_
  refine L_run (v := .int .i64 0) (R_assign rfl) rfl ?_
  refine L_run (v := .bool false) (R_assign rfl) rfl ?_
  refine L_nil ?_
  refine T_normal ?_
  refine hK1 _ _ ?_
  clear hK1
  refine W_seq (fun K2 hK2 => ?_)
  refine W_region ?_
  refine L_run (v := .string (st s)) (R_move rfl) rfl ?_
  refine L_run (v := .int .i64 1) (R_assign rfl) rfl ?_
  refine L_run (v := .string (st s)) (R_assign rfl) rfl ?_
  refine L_nil ?_
  refine T_normal ?_
  refine hK2 _ _ ?_
  clear hK2
  refine W_seq (fun K3 hK3 => ?_)
  refine W_seq (fun K4 hK4 => ?_)
  refine W_region ?_
  refine L_run (v := .string (st s)) (R_move rfl) rfl ?_
  refine L_op rfl rfl ?_
  refine O_call (args := [.string (st s), .string (st ([45]))]) en77 rfl (C_HasPrefix s ([45]) _) ?_
  rintro _ _ ⟨rfl, rfl⟩
  refine L_nil ?_
  refine T_normal ?_
  refine hK4 _ _ ?_
  clear hK4
  refine W_cond (([45]).isPrefixOf s) rfl (fun hc0 => ?_) (fun hc0 => ?_)
  · skip
    have hpl : 1 ≤ s.length := isPre_len hc0
    refine W_draw (fun W => Same All w W) rfl ?_
    have hd1 : Same All w w.drew := (Same.refl _ _).drew
    refine A_take (i := 0) (v := .string (st s)) (by kernel_rfl) rfl (fun W1 hW1 => R_move rfl) ?_
    refine A_take (i := 1) (v := .string (st (s.drop 1))) (by kernel_rfl) rfl (fun W2 hW2 => X_sslice1 1 rfl ⟨_, _, rfl, rfl⟩ (by omega) Tryd.underlying9) ?_
    refine A_take (i := 2) (v := .int .i64 (-1)) (by kernel_rfl) rfl (fun W3 hW3 => R_assign rfl) ?_
    refine A_take (i := 3) (v := .string (st (s.drop 1))) (by kernel_rfl) rfl (fun W4 hW4 => R_assign rfl) ?_
    refine A_done (by kernel_rfl) hd1 ?_
    refine T_normal ?_
    refine hK3 _ _ ?_
    clear hK3
    refine W_seq (fun K5 hK5 => ?_)
    refine W_region ?_
    refine L_run (v := .string (st (s.drop 1))) (R_move rfl) rfl ?_
    refine L_op rfl rfl ?_
    refine O_call (args := [.string (st (s.drop 1))]) en78 rfl (C_iParseUint (s.drop 1) _ (tab_same htab (Same.trans (Same.refl All w) (Same.all hd1)))) ?_
    rintro _ w1 ⟨r1, ok1, rfl, hpu1, hs1⟩
    have hlehpu1 := PU.le hpu1
    refine L_run (v := .tuple #[.int .i64 r1, .bool ok1]) (R_move rfl) rfl ?_
    refine L_run (v := .int .i64 r1) (R_extract rfl rfl) rfl ?_
    refine L_run (v := .bool ok1) (R_extract rfl rfl) rfl ?_
    refine L_run (v := .int .i64 r1) (R_assign rfl) rfl ?_
    refine L_run (v := .bool ok1) (R_assign rfl) rfl ?_
    refine L_nil ?_
    refine T_normal ?_
    refine hK5 _ _ ?_
    clear hK5
    refine W_seq (fun K6 hK6 => ?_)
    refine W_seq (fun K7 hK7 => ?_)
    refine W_region ?_
    refine L_run (v := .bool ok1) (R_move rfl) rfl ?_
    refine L_run (v := .bool (!ok1)) (R_not rfl) rfl ?_
    refine L_run (v := .bool (!ok1)) (R_move rfl) rfl ?_
    rcases Bool.eq_false_or_eq_true (!ok1) with hg1 | hg1
    · have hg1p := notb_t hg1
      try rw [hg1]
      refine L_no (e := 20) rfl rfl rfl rfl ?_
      refine L_no (e := 20) rfl rfl rfl rfl ?_
      refine L_no (e := 20) rfl rfl rfl rfl ?_
      refine L_no (e := 20) rfl rfl rfl rfl ?_
      refine L_no (e := 20) rfl rfl rfl rfl ?_
      refine L_no (e := 20) rfl rfl rfl rfl ?_
      refine L_run (v := .bool true) (R_pick_t rfl rfl) rfl ?_
      refine L_nil ?_
      refine T_normal ?_
      refine hK7 _ _ ?_
      clear hK7
      refine W_cond true rfl (fun _ => ?_) (fun h => by cases h)
      refine W_seq (fun K8 hK8 => ?_)
      refine W_region ?_
      refine L_run (v := .int .i64 0) (R_assign rfl) rfl ?_
      refine L_run (v := .bool false) (R_assign rfl) rfl ?_
      refine L_nil ?_
      refine T_normal ?_
      refine hK8 _ _ ?_
      clear hK8
      refine W_ret ?_
      refine T_ret ?_
      refine Q_ret (v := .tuple #[.int .i64 0, .bool false]) (res2 Tryd.results38 rfl rfl) ?_
      clear hK6
      exact ⟨0, false, rfl, PI_minus hc0 hpu1 (.inl hg1p), (Same.trans (Same.trans (Same.refl All w) (Same.all hd1)) (Same.all hs1))⟩
    · have hg1p := notb_f hg1
      try rw [hg1]
      refine L_yesrun (e := 20) (v := .int .i64 (-1)) rfl rfl rfl (R_move rfl) rfl ?_
      refine L_yesrun (e := 20) (v := .int .i64 r1) rfl rfl rfl (R_move rfl) rfl ?_
      refine L_yesrun (e := 20) (v := .int .i64 ((-1) * r1)) rfl rfl rfl (R_mul rfl rfl (by omega) (by omega)) rfl ?_
      refine L_yes (d := 20) rfl rfl rfl rfl rfl ?_
      refine O_call (args := [.int .i64 ((-1) * r1)]) en60 rfl (C_iFormatInt ((-1) * r1) _ (tab_same htab (Same.trans (Same.trans (Same.refl All w) (Same.all hd1)) (Same.all hs1))) (by omega) (by omega)) ?_
      rintro _ w2 ⟨rfl, hs2⟩
      refine L_yesrun (e := 20) (v := .string (st s)) rfl rfl rfl (R_move rfl) rfl ?_
      refine L_yesrun (e := 20) (v := .bool (!decide (Lib.itoa ((-1) * r1) = s))) rfl rfl rfl (X_sneq rfl rfl) rfl ?_
      refine L_run (v := .bool (!decide (Lib.itoa ((-1) * r1) = s))) (R_pick_f rfl rfl) rfl ?_
      refine L_nil ?_
      refine T_normal ?_
      refine hK7 _ _ ?_
      clear hK7
      refine W_cond (!decide (Lib.itoa ((-1) * r1) = s)) rfl (fun hc1 => ?_) (fun hc1 => ?_)
      · have hc1 := not_t hc1
        refine W_seq (fun K9 hK9 => ?_)
        refine W_region ?_
        refine L_run (v := .int .i64 0) (R_assign rfl) rfl ?_
        refine L_run (v := .bool false) (R_assign rfl) rfl ?_
        refine L_nil ?_
        refine T_normal ?_
        refine hK9 _ _ ?_
        clear hK9
        refine W_ret ?_
        refine T_ret ?_
        refine Q_ret (v := .tuple #[.int .i64 0, .bool false]) (res2 Tryd.results38 rfl rfl) ?_
        clear hK6
        exact ⟨0, false, rfl, PI_minus hc0 hpu1 (.inr hc1), (Same.trans (Same.trans (Same.trans (Same.refl All w) (Same.all hd1)) (Same.all hs1)) (Same.all hs2))⟩
      · have hc1 := not_f hc1
        refine W_skip ?_
        refine T_normal ?_
        refine hK6 _ _ ?_
        clear hK6
        refine W_seq (fun K10 hK10 => ?_)
        refine W_region ?_
        refine L_run (v := .int .i64 (-1)) (R_move rfl) rfl ?_
        refine L_run (v := .int .i64 r1) (R_move rfl) rfl ?_
        refine L_run (v := .int .i64 ((-1) * r1)) (R_mul rfl rfl (by omega) (by omega)) rfl ?_
        refine L_run (v := .int .i64 ((-1) * r1)) (R_assign rfl) rfl ?_
        refine L_run (v := .bool true) (R_assign rfl) rfl ?_
        refine L_nil ?_
        refine T_normal ?_
        refine hK10 _ _ ?_
        clear hK10
        refine W_ret ?_
        refine Q_ret (v := .tuple #[.int .i64 ((-1) * r1), .bool true]) (res2 Tryd.results38 rfl rfl) ?_
        exact ⟨_, _, rfl, PI_good (by omega) (by omega) hc1, (Same.trans (Same.trans (Same.trans (Same.refl All w) (Same.all hd1)) (Same.all hs1)) (Same.all hs2))⟩
  · skip
    refine W_skip ?_
    refine T_normal ?_
    refine hK3 _ _ ?_
    clear hK3
    refine W_seq (fun K11 hK11 => ?_)
    refine W_region ?_
    refine L_run (v := .string (st s)) (R_move rfl) rfl ?_
    refine L_op rfl rfl ?_
    refine O_call (args := [.string (st s)]) en78 rfl (C_iParseUint s _ (htab)) ?_
    rintro _ w3 ⟨r2, ok2, rfl, hpu2, hs3⟩
    have hlehpu2 := PU.le hpu2
    refine L_run (v := .tuple #[.int .i64 r2, .bool ok2]) (R_move rfl) rfl ?_
    refine L_run (v := .int .i64 r2) (R_extract rfl rfl) rfl ?_
    refine L_run (v := .bool ok2) (R_extract rfl rfl) rfl ?_
    refine L_run (v := .int .i64 r2) (R_assign rfl) rfl ?_
    refine L_run (v := .bool ok2) (R_assign rfl) rfl ?_
    refine L_nil ?_
    refine T_normal ?_
    refine hK11 _ _ ?_
    clear hK11
    refine W_seq (fun K12 hK12 => ?_)
    refine W_seq (fun K13 hK13 => ?_)
    refine W_region ?_
    refine L_run (v := .bool ok2) (R_move rfl) rfl ?_
    refine L_run (v := .bool (!ok2)) (R_not rfl) rfl ?_
    refine L_run (v := .bool (!ok2)) (R_move rfl) rfl ?_
    rcases Bool.eq_false_or_eq_true (!ok2) with hg2 | hg2
    · have hg2p := notb_t hg2
      try rw [hg2]
      refine L_no (e := 20) rfl rfl rfl rfl ?_
      refine L_no (e := 20) rfl rfl rfl rfl ?_
      refine L_no (e := 20) rfl rfl rfl rfl ?_
      refine L_no (e := 20) rfl rfl rfl rfl ?_
      refine L_no (e := 20) rfl rfl rfl rfl ?_
      refine L_no (e := 20) rfl rfl rfl rfl ?_
      refine L_run (v := .bool true) (R_pick_t rfl rfl) rfl ?_
      refine L_nil ?_
      refine T_normal ?_
      refine hK13 _ _ ?_
      clear hK13
      refine W_cond true rfl (fun _ => ?_) (fun h => by cases h)
      refine W_seq (fun K14 hK14 => ?_)
      refine W_region ?_
      refine L_run (v := .int .i64 0) (R_assign rfl) rfl ?_
      refine L_run (v := .bool false) (R_assign rfl) rfl ?_
      refine L_nil ?_
      refine T_normal ?_
      refine hK14 _ _ ?_
      clear hK14
      refine W_ret ?_
      refine T_ret ?_
      refine Q_ret (v := .tuple #[.int .i64 0, .bool false]) (res2 Tryd.results38 rfl rfl) ?_
      clear hK12
      exact ⟨0, false, rfl, PI_plus hc0 hpu2 (.inl hg2p), (Same.trans (Same.refl All w) (Same.all hs3))⟩
    · have hg2p := notb_f hg2
      try rw [hg2]
      refine L_yesrun (e := 20) (v := .int .i64 1) rfl rfl rfl (R_move rfl) rfl ?_
      refine L_yesrun (e := 20) (v := .int .i64 r2) rfl rfl rfl (R_move rfl) rfl ?_
      refine L_yesrun (e := 20) (v := .int .i64 (1 * r2)) rfl rfl rfl (R_mul rfl rfl (by omega) (by omega)) rfl ?_
      refine L_yes (d := 20) rfl rfl rfl rfl rfl ?_
      refine O_call (args := [.int .i64 (1 * r2)]) en60 rfl (C_iFormatInt (1 * r2) _ (tab_same htab (Same.trans (Same.refl All w) (Same.all hs3))) (by omega) (by omega)) ?_
      rintro _ w4 ⟨rfl, hs4⟩
      refine L_yesrun (e := 20) (v := .string (st s)) rfl rfl rfl (R_move rfl) rfl ?_
      refine L_yesrun (e := 20) (v := .bool (!decide (Lib.itoa (1 * r2) = s))) rfl rfl rfl (X_sneq rfl rfl) rfl ?_
      refine L_run (v := .bool (!decide (Lib.itoa (1 * r2) = s))) (R_pick_f rfl rfl) rfl ?_
      refine L_nil ?_
      refine T_normal ?_
      refine hK13 _ _ ?_
      clear hK13
      refine W_cond (!decide (Lib.itoa (1 * r2) = s)) rfl (fun hc1 => ?_) (fun hc1 => ?_)
      · have hc1 := not_t hc1
        refine W_seq (fun K15 hK15 => ?_)
        refine W_region ?_
        refine L_run (v := .int .i64 0) (R_assign rfl) rfl ?_
        refine L_run (v := .bool false) (R_assign rfl) rfl ?_
        refine L_nil ?_
        refine T_normal ?_
        refine hK15 _ _ ?_
        clear hK15
        refine W_ret ?_
        refine T_ret ?_
        refine Q_ret (v := .tuple #[.int .i64 0, .bool false]) (res2 Tryd.results38 rfl rfl) ?_
        clear hK12
        exact ⟨0, false, rfl, PI_plus hc0 hpu2 (.inr hc1), (Same.trans (Same.trans (Same.refl All w) (Same.all hs3)) (Same.all hs4))⟩
      · have hc1 := not_f hc1
        refine W_skip ?_
        refine T_normal ?_
        refine hK12 _ _ ?_
        clear hK12
        refine W_seq (fun K16 hK16 => ?_)
        refine W_region ?_
        refine L_run (v := .int .i64 1) (R_move rfl) rfl ?_
        refine L_run (v := .int .i64 r2) (R_move rfl) rfl ?_
        refine L_run (v := .int .i64 (1 * r2)) (R_mul rfl rfl (by omega) (by omega)) rfl ?_
        refine L_run (v := .int .i64 (1 * r2)) (R_assign rfl) rfl ?_
        refine L_run (v := .bool true) (R_assign rfl) rfl ?_
        refine L_nil ?_
        refine T_normal ?_
        refine hK16 _ _ ?_
        clear hK16
        refine W_ret ?_
        refine Q_ret (v := .tuple #[.int .i64 (1 * r2), .bool true]) (res2 Tryd.results38 rfl rfl) ?_
        exact ⟨_, _, rfl, PI_good (by omega) (by omega) hc1, (Same.trans (Same.trans (Same.refl All w) (Same.all hs3)) (Same.all hs4))⟩

end Go.Proofs.YtpfbheodbgkgmaaDoor
