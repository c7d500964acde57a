/- The walks of ParseUint, of signed texts and of the two FormatPair. -/
import Derived.Test.YtpfbheodbgkgmaaDoorGxStr
import Derived.Test.YtpfbheodbgkgmaaDoorGxTxt
import Derived.Test.YtpfbheodbgkgmaaDoorChecked
import Derived.Test.YtpfbheodbgkgmaaDoorShelf
import Derived.Test.YtpfbheodbgkgmaaDoorTa
set_option linter.unusedSimpArgs false
set_option linter.unusedVariables false
namespace Go.Proofs.YtpfbheodbgkgmaaDoor
open Go Gx Go.Proofs
attribute [local irreducible] OpW wpL WC anyL Run
theorem en35 : Enters Tryd.prog 35 := enters Tryd.func35 rfl (by kernel_rfl)
theorem en36 : Enters Tryd.prog 36 := enters Tryd.func36 rfl (by kernel_rfl)
theorem en60 : Enters Tryd.prog 60 := enters Tryd.func60 rfl (by kernel_rfl)
theorem en71 : Enters Tryd.prog 71 := enters Tryd.func71 rfl (by kernel_rfl)
theorem en87 : Enters Tryd.prog 87 := enters Tryd.func87 rfl (by kernel_rfl)
theorem en89 : Enters Tryd.prog 89 := enters Tryd.func89 rfl (by kernel_rfl)
theorem en94 : Enters Tryd.prog 94 := enters Tryd.func94 rfl (by kernel_rfl)
theorem C_iParseUint (l : List UInt8) (w : World) (htab : Lib.TabIs Tryd.prog w "internal/strconv.uint64pow10" .u64 Lib.pow10Tab) :
    Ret Tryd.prog 78 #[.string (st l)] w (fun v w' => ∃ (r : Int) (ok : Bool), v = .tuple #[.int .i64 r, .bool ok] ∧ (PU l r ok) ∧ Same All w w') := by
  refine ret_of (args := [.string (st l)]) Tryd.func78 rfl 47 Tryd.ntmps78 rfl ?_
  refine W_seq (fun K1 hK1 => ?_)
  refine W_region ?_
  refine L_run (v := .int .i64 0) (R_assign rfl) rfl ?_
  refine L_run (v := .bool false) (R_assign rfl) rfl ?_
  refine L_nil ?_
  refine T_normal ?_
  refine hK1 _ _ ?_
  clear hK1
  refine W_seq (fun K2 hK2 => ?_)
  refine W_seq (fun K3 hK3 => ?_)
  refine W_region ?_
  refine L_run (v := .string (st l)) (R_move rfl) rfl ?_
  refine L_run (v := .int .i64 (l.length : Int)) (X_slen Tryd.underlying9 rfl) rfl ?_
  refine L_run (v := .bool (decide ((l.length : Int) = 0))) (R_eql rfl rfl) rfl ?_
  refine L_run (v := .bool (decide ((l.length : Int) = 0))) (R_move rfl) rfl ?_
  rcases Bool.eq_false_or_eq_true (decide ((l.length : Int) = 0)) with hg1 | hg1
  · have hg1p := of_decide_eq_true hg1
    try rw [hg1]
    refine L_no (e := 9) rfl rfl rfl rfl ?_
    refine L_no (e := 9) rfl rfl rfl rfl ?_
    refine L_no (e := 9) rfl rfl rfl rfl ?_
    refine L_run (v := .bool true) (R_pick_t rfl rfl) rfl ?_
    refine L_nil ?_
    refine T_normal ?_
    refine hK3 _ _ ?_
    clear hK3
    refine W_cond true rfl (fun _ => ?_) (fun h => by cases h)
    refine W_seq (fun K4 hK4 => ?_)
    refine W_region ?_
    refine L_run (v := .int .i64 0) (R_assign rfl) rfl ?_
    refine L_run (v := .bool false) (R_assign rfl) rfl ?_
    refine L_nil ?_
    refine T_normal ?_
    refine hK4 _ _ ?_
    clear hK4
    refine W_ret ?_
    refine T_ret ?_
    refine Q_ret (v := .tuple #[.int .i64 0, .bool false]) (res2 Tryd.results78 rfl rfl) ?_
    clear hK2
    exact ⟨0, false, rfl, PU_nil (by omega), (Same.refl All w)⟩
  · have hg1p := of_decide_eq_false hg1
    try rw [hg1]
    refine L_yesrun (e := 9) (v := .string (st l)) rfl rfl rfl (R_move rfl) rfl ?_
    refine L_yesrun (e := 9) (v := .int .i64 (l.length : Int)) rfl rfl rfl (X_slen Tryd.underlying9 rfl) rfl ?_
    refine L_yesrun (e := 9) (v := .bool (decide (10 < (l.length : Int)))) rfl rfl rfl (R_gtr rfl rfl) rfl ?_
    refine L_run (v := .bool (decide (10 < (l.length : Int)))) (R_pick_f rfl rfl) rfl ?_
    refine L_nil ?_
    refine T_normal ?_
    refine hK3 _ _ ?_
    clear hK3
    refine W_cond (decide (10 < (l.length : Int))) rfl (fun hc0 => ?_) (fun hc0 => ?_)
    · have hc0 := of_decide_eq_true hc0
      refine W_seq (fun K5 hK5 => ?_)
      refine W_region ?_
      refine L_run (v := .int .i64 0) (R_assign rfl) rfl ?_
      refine L_run (v := .bool false) (R_assign rfl) rfl ?_
      refine L_nil ?_
      refine T_normal ?_
      refine hK5 _ _ ?_
      clear hK5
      refine W_ret ?_
      refine T_ret ?_
      refine Q_ret (v := .tuple #[.int .i64 0, .bool false]) (res2 Tryd.results78 rfl rfl) ?_
      clear hK2
      exact ⟨0, false, rfl, PU_len (by omega), (Same.refl All w)⟩
    · have hc0 := of_decide_eq_false hc0
      refine W_skip ?_
      refine T_normal ?_
      refine hK2 _ _ ?_
      clear hK2
      refine W_seq (fun K6 hK6 => ?_)
      refine W_region ?_
      refine L_run (v := .int .i64 0) (R_assign rfl) rfl ?_
      refine L_nil ?_
      refine T_normal ?_
      refine hK6 _ _ ?_
      clear hK6
      refine W_seq (fun K7 hK7 => ?_)
      refine W_seq (fun K8 hK8 => ?_)
      refine W_region ?_
      refine L_run (v := .int .i64 0) (R_assign rfl) rfl ?_
      refine L_nil ?_
      refine T_normal ?_
      refine hK8 _ _ ?_
      clear hK8
      refine W_block ?_
      refine W_loop (G := Nat × Int) [2, 3, 4, 5, 14, 15, 16, 17, 18, 19, 20, 21, 22, 23, 24, 25, 26, 27, 28, 29, 30, 31, 32, 33, 34, 35, 36, 37] (fun (i, n) => [(5, .int .i64 (i : Int)), (4, .int .i64 n)]) (fun (i, n) w' => i ≤ l.length ∧ n = (val (l.take i) : Int) ∧ (∀ b ∈ l.take i, isDig b = true) ∧ Same All w w') (fun (i, n) => l.length - i) (0, 0) ⟨rfl, rfl, trivial⟩ ?hj0 ?_
      case hj0 => exact ⟨Nat.zero_le _, rfl, (fun b hb => by simp at hb), Same.refl _ _⟩
      rintro ⟨i, n⟩ j1 w1 ⟨hj1, hj2, hj3, hj4⟩
      have hv := val_lt10 (i := i) (by omega) hj3
      refine W_seq (fun K9 hK9 => ?_)
      refine W_seq (fun K10 hK10 => ?_)
      refine W_region ?_
      refine L_run (v := .int .i64 (i : Int)) (R_move rfl) rfl ?_
      refine L_run (v := .string (st l)) (R_move rfl) rfl ?_
      refine L_run (v := .int .i64 (l.length : Int)) (X_slen Tryd.underlying9 rfl) rfl ?_
      refine L_run (v := .bool (decide ((i : Int) < (l.length : Int)))) (R_lss rfl rfl) rfl ?_
      refine L_nil ?_
      refine T_normal ?_
      refine hK10 _ _ ?_
      clear hK10
      refine W_cond (decide ((i : Int) < (l.length : Int))) rfl (fun hc1 => ?_) (fun hc1 => ?_)
      · have hc1 := of_decide_eq_true hc1
        refine W_skip ?_
        refine T_normal ?_
        refine hK9 _ _ ?_
        clear hK9
        refine W_seq (fun K11 hK11 => ?_)
        refine W_block ?_
        refine W_seq (fun K12 hK12 => ?_)
        refine W_seq (fun K13 hK13 => ?_)
        refine W_region ?_
        refine L_run (v := .string (st l)) (R_move rfl) rfl ?_
        refine L_run (v := .int .i64 (i : Int)) (R_move rfl) rfl ?_
        refine L_run (v := .int .u8 ((l.getD i 0).toNat : Int)) (X_sindex i Tryd.underlying9 rfl rfl rfl (by omega)) rfl ?_
        refine L_run (v := .bool (decide (((l.getD i 0).toNat : Int) < 48))) (R_lss rfl rfl) rfl ?_
        refine L_run (v := .bool (decide (((l.getD i 0).toNat : Int) < 48))) (R_move rfl) rfl ?_
        rcases Bool.eq_false_or_eq_true (decide (((l.getD i 0).toNat : Int) < 48)) with hg2 | hg2
        · have hg2p := of_decide_eq_true hg2
          try rw [hg2]
          refine L_no (e := 24) rfl rfl rfl rfl ?_
          refine L_no (e := 24) rfl rfl rfl rfl ?_
          refine L_no (e := 24) rfl rfl rfl rfl ?_
          refine L_no (e := 24) rfl rfl rfl rfl ?_
          refine L_run (v := .bool true) (R_pick_t rfl rfl) rfl ?_
          refine L_nil ?_
          refine T_normal ?_
          refine hK13 _ _ ?_
          clear hK13
          refine W_cond true rfl (fun _ => ?_) (fun h => by cases h)
          refine W_seq (fun K14 hK14 => ?_)
          refine W_region ?_
          refine L_run (v := .int .i64 0) (R_assign rfl) rfl ?_
          refine L_run (v := .bool false) (R_assign rfl) rfl ?_
          refine L_nil ?_
          refine T_normal ?_
          refine hK14 _ _ ?_
          clear hK14
          refine W_ret ?_
          refine T_ret ?_
          refine B_ret ?_
          refine T_ret ?_
          refine T_ret ?_
          refine B_ret ?_
          refine T_ret ?_
          refine Q_ret (v := .tuple #[.int .i64 0, .bool false]) (res2 Tryd.results78 rfl rfl) ?_
          clear hK12 hK11 hK7
          exact ⟨0, false, rfl, PU_dig (i := i) (by omega) (not_dig_lo hg2p), (Same.trans (Same.refl All w) (Same.all hj4))⟩
        · have hg2p := of_decide_eq_false hg2
          try rw [hg2]
          refine L_yesrun (e := 24) (v := .string (st l)) rfl rfl rfl (R_move rfl) rfl ?_
          refine L_yesrun (e := 24) (v := .int .i64 (i : Int)) rfl rfl rfl (R_move rfl) rfl ?_
          refine L_yesrun (e := 24) (v := .int .u8 ((l.getD i 0).toNat : Int)) rfl rfl rfl (X_sindex i Tryd.underlying9 rfl rfl rfl (by omega)) rfl ?_
          refine L_yesrun (e := 24) (v := .bool (decide (57 < ((l.getD i 0).toNat : Int)))) rfl rfl rfl (R_gtr rfl rfl) rfl ?_
          refine L_run (v := .bool (decide (57 < ((l.getD i 0).toNat : Int)))) (R_pick_f rfl rfl) rfl ?_
          refine L_nil ?_
          refine T_normal ?_
          refine hK13 _ _ ?_
          clear hK13
          refine W_cond (decide (57 < ((l.getD i 0).toNat : Int))) rfl (fun hc2 => ?_) (fun hc2 => ?_)
          · have hc2 := of_decide_eq_true hc2
            refine W_seq (fun K15 hK15 => ?_)
            refine W_region ?_
            refine L_run (v := .int .i64 0) (R_assign rfl) rfl ?_
            refine L_run (v := .bool false) (R_assign rfl) rfl ?_
            refine L_nil ?_
            refine T_normal ?_
            refine hK15 _ _ ?_
            clear hK15
            refine W_ret ?_
            refine T_ret ?_
            refine B_ret ?_
            refine T_ret ?_
            refine T_ret ?_
            refine B_ret ?_
            refine T_ret ?_
            refine Q_ret (v := .tuple #[.int .i64 0, .bool false]) (res2 Tryd.results78 rfl rfl) ?_
            clear hK12 hK11 hK7
            exact ⟨0, false, rfl, PU_dig (i := i) (by omega) (not_dig_hi hc2), (Same.trans (Same.refl All w) (Same.all hj4))⟩
          · have hc2 := of_decide_eq_false hc2
            have hw8 := w8 (dig_le (dig_of hg2p hc2)).1
            refine W_skip ?_
            refine T_normal ?_
            refine hK12 _ _ ?_
            clear hK12
            refine W_region ?_
            refine L_run (v := .int .i64 n) (R_move rfl) rfl ?_
            refine L_run (v := .int .i64 (n * 10)) (R_mul rfl rfl (by omega) (by omega)) rfl ?_
            refine L_run (v := .string (st l)) (R_move rfl) rfl ?_
            refine L_run (v := .int .i64 (i : Int)) (R_move rfl) rfl ?_
            refine L_run (v := .int .u8 ((l.getD i 0).toNat : Int)) (X_sindex i Tryd.underlying9 rfl rfl rfl (by omega)) rfl ?_
            refine L_run (v := .int .u8 (IntKind.wrap .u8 (((l.getD i 0).toNat : Int) - 48))) (R_subw rfl rfl) rfl ?_
            refine L_run (v := .int .i64 (IntKind.wrap .i64 (IntKind.wrap .u8 (((l.getD i 0).toNat : Int) - 48)))) (R_ii (Option.isSome_iff_exists.2 ⟨_, Tryd.underlying5⟩) Tryd.underlying3 rfl) rfl ?_
            refine L_run (v := .int .i64 ((n * 10) + (IntKind.wrap .i64 (IntKind.wrap .u8 (((l.getD i 0).toNat : Int) - 48))))) (R_add rfl rfl (by omega) (by omega)) rfl ?_
            refine L_run (v := .int .i64 ((n * 10) + (IntKind.wrap .i64 (IntKind.wrap .u8 (((l.getD i 0).toNat : Int) - 48))))) (R_assign rfl) rfl ?_
            refine L_nil ?_
            refine B_normal ?_
            refine T_normal ?_
            refine hK11 _ _ ?_
            clear hK11
            refine W_region ?_
            refine L_run (v := .int .i64 (i : Int)) (R_move rfl) rfl ?_
            refine L_run (v := .int .i64 ((i : Int) + 1)) (R_add rfl rfl (by omega) (by omega)) rfl ?_
            refine L_run (v := .int .i64 ((i : Int) + 1)) (R_assign rfl) rfl ?_
            refine L_nil ?_
            refine T_normal ?_
            refine At.mk (i + 1, (n * 10) + (IntKind.wrap .i64 (IntKind.wrap .u8 (((l.getD i 0).toNat : Int) - 48)))) (Agree.upd rfl (Agree.upd rfl (Agree.upd rfl (Agree.upd rfl (Agree.upd rfl (Agree.upd rfl (Agree.upd rfl (Agree.upd rfl (Agree.upd rfl (Agree.upd rfl (Agree.upd rfl (Agree.upd rfl (Agree.upd rfl (Agree.upd rfl (Agree.upd rfl (Agree.upd rfl (Agree.upd rfl (Agree.upd rfl (Agree.upd rfl (Agree.upd rfl (Agree.upd rfl (Agree.upd rfl (Agree.upd rfl (Agree.upd rfl (Agree.upd rfl (Agree.upd rfl (Agree.upds rfl Agree.over))))))))))))))))))))))))))) ⟨rfl, rfl, trivial⟩ ?_
            have hst := pu_step (by omega) hj2 hj3 (dig_of hg2p hc2) (n' := (n * 10) + (IntKind.wrap .i64 (IntKind.wrap .u8 (((l.getD i 0).toNat : Int) - 48)))) (by rw [hw8]; omega)
            exact ⟨⟨by omega, hst.1, hst.2, (Same.trans (Same.refl All w) (Same.all hj4))⟩, by dsimp only; omega⟩
      · have hc1 := of_decide_eq_false hc1
        refine W_exit ?_
        refine T_exit ?_
        refine T_exit ?_
        refine B_hit ?_
        refine T_normal ?_
        refine hK7 _ _ ?_
        clear hK7
        refine W_seq (fun K16 hK16 => ?_)
        refine W_seq (fun K17 hK17 => ?_)
        refine W_region ?_
        refine L_run (v := .int .i64 n) (R_move rfl) rfl ?_
        refine L_run (v := .bool (decide (1000000000 < n))) (R_gtr rfl rfl) rfl ?_
        refine L_run (v := .bool (decide (1000000000 < n))) (R_move rfl) rfl ?_
        rcases Bool.eq_false_or_eq_true (decide (1000000000 < n)) with hg3 | hg3
        · have hg3p := of_decide_eq_true hg3
          try rw [hg3]
          refine L_no (e := 40) rfl rfl rfl rfl ?_
          refine L_no (e := 40) rfl rfl rfl rfl ?_
          refine L_no (e := 40) rfl rfl rfl rfl ?_
          refine L_no (e := 40) rfl rfl rfl rfl ?_
          refine L_run (v := .bool true) (R_pick_t rfl rfl) rfl ?_
          refine L_nil ?_
          refine T_normal ?_
          refine hK17 _ _ ?_
          clear hK17
          refine W_cond true rfl (fun _ => ?_) (fun h => by cases h)
          refine W_seq (fun K18 hK18 => ?_)
          refine W_region ?_
          refine L_run (v := .int .i64 0) (R_assign rfl) rfl ?_
          refine L_run (v := .bool false) (R_assign rfl) rfl ?_
          refine L_nil ?_
          refine T_normal ?_
          refine hK18 _ _ ?_
          clear hK18
          refine W_ret ?_
          refine T_ret ?_
          refine Q_ret (v := .tuple #[.int .i64 0, .bool false]) (res2 Tryd.results78 rfl rfl) ?_
          clear hK16 hK9
          exact ⟨0, false, rfl, PU_bad (val_all hj2 (by omega)) (.inl hg3p), (Same.trans (Same.refl All w) (Same.all hj4))⟩
        · have hg3p := of_decide_eq_false hg3
          try rw [hg3]
          refine L_yesrun (e := 40) (v := .int .i64 n) rfl rfl rfl (R_move rfl) rfl ?_
          refine L_yes (d := 40) rfl rfl rfl rfl rfl ?_
          refine O_call (args := [.int .i64 n]) en60 rfl (C_iFormatInt n _ (tab_same htab (Same.trans (Same.refl All w) (Same.all hj4))) (by omega) (by omega)) ?_
          rintro _ w2 ⟨rfl, hs1⟩
          refine L_yesrun (e := 40) (v := .string (st l)) rfl rfl rfl (R_move rfl) rfl ?_
          refine L_yesrun (e := 40) (v := .bool (!decide (Lib.itoa n = l))) rfl rfl rfl (X_sneq rfl rfl) rfl ?_
          refine L_run (v := .bool (!decide (Lib.itoa n = l))) (R_pick_f rfl rfl) rfl ?_
          refine L_nil ?_
          refine T_normal ?_
          refine hK17 _ _ ?_
          clear hK17
          refine W_cond (!decide (Lib.itoa n = l)) rfl (fun hc3 => ?_) (fun hc3 => ?_)
          · have hc3 := not_t hc3
            refine W_seq (fun K19 hK19 => ?_)
            refine W_region ?_
            refine L_run (v := .int .i64 0) (R_assign rfl) rfl ?_
            refine L_run (v := .bool false) (R_assign rfl) rfl ?_
            refine L_nil ?_
            refine T_normal ?_
            refine hK19 _ _ ?_
            clear hK19
            refine W_ret ?_
            refine T_ret ?_
            refine Q_ret (v := .tuple #[.int .i64 0, .bool false]) (res2 Tryd.results78 rfl rfl) ?_
            clear hK16 hK9
            exact ⟨0, false, rfl, PU_bad (val_all hj2 (by omega)) (.inr hc3), (Same.trans (Same.trans (Same.refl All w) (Same.all hj4)) (Same.all hs1))⟩
          · have hc3 := not_f hc3
            refine W_skip ?_
            refine T_normal ?_
            refine hK16 _ _ ?_
            clear hK16
            refine W_seq (fun K20 hK20 => ?_)
            refine W_region ?_
            refine L_run (v := .int .i64 n) (R_move rfl) rfl ?_
            refine L_run (v := .int .i64 n) (R_assign rfl) rfl ?_
            refine L_run (v := .bool true) (R_assign rfl) rfl ?_
            refine L_nil ?_
            refine T_normal ?_
            refine hK20 _ _ ?_
            clear hK20
            refine W_ret ?_
            refine Q_ret (v := .tuple #[.int .i64 n, .bool true]) (res2 Tryd.results78 rfl rfl) ?_
            clear hK9
            exact ⟨_, _, rfl, PU_good (val_all hj2 (by omega)) hg3p hc3, (Same.trans (Same.trans (Same.refl All w) (Same.all hj4)) (Same.all hs1))⟩

theorem C_l10Number (s : List UInt8) (w : World) :
    Ret Tryd.prog 53 #[.string (st s)] w (fun v w' => ∃ (r : Int) (ok : Bool), v = .tuple #[.int .i64 r, .bool ok] ∧ (LN s r ok) ∧ Same All w w') := by
  refine ret_of (args := [.string (st s)]) Tryd.func53 rfl 23 Tryd.ntmps53 rfl ?_
  refine W_seq (fun K1 hK1 => ?_)
  refine W_region ?_
  refine L_run (v := .int .i64 0) (R_assign rfl) rfl ?_
  refine L_run (v := .bool false) (R_assign rfl) rfl ?_
  refine L_nil ?_
  refine T_normal ?_
  refine hK1 _ _ ?_
  clear hK1
  refine W_seq (fun K2 hK2 => ?_)
  refine W_seq (fun K3 hK3 => ?_)
  refine W_region ?_
  refine L_run (v := .string (st s)) (R_move rfl) rfl ?_
  refine L_run (v := .int .i64 (s.length : Int)) (X_slen Tryd.underlying9 rfl) rfl ?_
  refine L_run (v := .bool (decide ((s.length : Int) < 2))) (R_lss rfl rfl) rfl ?_
  refine L_nil ?_
  refine T_normal ?_
  refine hK3 _ _ ?_
  clear hK3
  refine W_cond (decide ((s.length : Int) < 2)) rfl (fun hc0 => ?_) (fun hc0 => ?_)
  · have hc0 := of_decide_eq_true hc0
    refine W_seq (fun K4 hK4 => ?_)
    refine W_region ?_
    refine L_run (v := .int .i64 0) (R_assign rfl) rfl ?_
    refine L_run (v := .bool false) (R_assign rfl) rfl ?_
    refine L_nil ?_
    refine T_normal ?_
    refine hK4 _ _ ?_
    clear hK4
    refine W_ret ?_
    refine T_ret ?_
    refine Q_ret (v := .tuple #[.int .i64 0, .bool false]) (res2 Tryd.results53 rfl rfl) ?_
    clear hK2
    exact ⟨0, false, rfl, LN_short (by omega), (Same.refl All w)⟩
  · have hc0 := of_decide_eq_false hc0
    refine W_skip ?_
    refine T_normal ?_
    refine hK2 _ _ ?_
    clear hK2
    refine W_seq (fun K5 hK5 => ?_)
    refine W_region ?_
    refine L_run (v := .string (st s)) (R_move rfl) rfl ?_
    refine L_run (v := .string (st (s.drop 1))) (X_sslice1 1 rfl ⟨_, _, rfl, rfl⟩ (by omega) Tryd.underlying9) rfl ?_
    refine L_op rfl rfl ?_
    refine O_call (args := [.string (st (s.drop 1))]) en89 rfl (C_sParseUint (s.drop 1) _) ?_
    rintro _ w1 ⟨r1, ok1, rfl, hpu1, hs1⟩
    have hlehpu1 := PU.le hpu1
    refine L_run (v := .tuple #[.int .i64 r1, .bool ok1]) (R_move rfl) rfl ?_
    refine L_run (v := .int .i64 r1) (R_extract rfl rfl) rfl ?_
    refine L_run (v := .bool ok1) (R_extract rfl rfl) rfl ?_
    refine L_run (v := .int .i64 r1) (R_assign rfl) rfl ?_
    refine L_run (v := .bool ok1) (R_assign rfl) rfl ?_
    refine L_nil ?_
    refine T_normal ?_
    refine hK5 _ _ ?_
    clear hK5
    refine W_seq (fun K6 hK6 => ?_)
    refine W_seq (fun K7 hK7 => ?_)
    refine W_region ?_
    refine L_run (v := .string (st s)) (R_move rfl) rfl ?_
    refine L_run (v := .int .u8 ((s.getD 0 0).toNat : Int)) (X_sindex 0 Tryd.underlying9 rfl rfl rfl (by omega)) rfl ?_
    refine L_run (v := .bool (decide (((s.getD 0 0).toNat : Int) = 45))) (R_eql rfl rfl) rfl ?_
    refine L_nil ?_
    refine T_normal ?_
    refine hK7 _ _ ?_
    clear hK7
    refine W_cond (decide (((s.getD 0 0).toNat : Int) = 45)) rfl (fun hc1 => ?_) (fun hc1 => ?_)
    · have hc1 := of_decide_eq_true hc1
      have hle := hpu1.le
      refine W_seq (fun K8 hK8 => ?_)
      refine W_region ?_
      refine L_run (v := .int .i64 r1) (R_move rfl) rfl ?_
      refine L_run (v := .int .i64 (-r1)) (R_neg rfl (by omega) (by omega)) rfl ?_
      refine L_run (v := .bool ok1) (R_move rfl) rfl ?_
      refine L_run (v := .int .i64 (-r1)) (R_assign rfl) rfl ?_
      refine L_run (v := .bool ok1) (R_assign rfl) rfl ?_
      refine L_nil ?_
      refine T_normal ?_
      refine hK8 _ _ ?_
      clear hK8
      refine W_ret ?_
      refine T_ret ?_
      refine Q_ret (v := .tuple #[.int .i64 (-r1), .bool ok1]) (res2 Tryd.results53 rfl rfl) ?_
      clear hK6
      exact ⟨_, _, rfl, LN_minus hpu1 hc1, (Same.trans (Same.refl All w) (Same.all hs1))⟩
    · have hc1 := of_decide_eq_false hc1
      refine W_skip ?_
      refine T_normal ?_
      refine hK6 _ _ ?_
      clear hK6
      refine W_seq (fun K9 hK9 => ?_)
      refine W_region ?_
      refine L_run (v := .int .i64 r1) (R_move rfl) rfl ?_
      refine L_run (v := .bool ok1) (R_move rfl) rfl ?_
      refine L_run (v := .int .i64 r1) (R_assign rfl) rfl ?_
      refine L_run (v := .bool ok1) (R_assign rfl) rfl ?_
      refine L_nil ?_
      refine T_normal ?_
      refine hK9 _ _ ?_
      clear hK9
      refine W_ret ?_
      refine Q_ret (v := .tuple #[.int .i64 r1, .bool ok1]) (res2 Tryd.results53 rfl rfl) ?_
      exact ⟨_, _, rfl, LN_plus hpu1 hc1, (Same.trans (Same.refl All w) (Same.all hs1))⟩

theorem C_l10Signed (n : Int) (w : World) (hq : inQ n) :
    Ret Tryd.prog 94 #[.int .i64 n] w (fun v w' => v = .string (st (sg n)) ∧ Same All w w') := by
  have hl : (Lib.itoa n).length ≤ 20 := itoa_len (by unfold inQ at hq; omega) (by unfold inQ at hq; omega)
  have hq1 := hq.1
  have hq2 := hq.2
  refine ret_of (args := [.int .i64 n]) Tryd.func94 rfl 10 Tryd.ntmps94 rfl ?_
  refine W_seq (fun K1 hK1 => ?_)
  refine W_region ?_
  refine L_run (v := .string (st ([]))) (R_assign rfl) rfl ?_
  refine L_nil ?_
  refine T_normal ?_
  refine hK1 _ _ ?_
  clear hK1
  refine W_seq (fun K2 hK2 => ?_)
  refine W_seq (fun K3 hK3 => ?_)
  refine W_region ?_
  refine L_run (v := .int .i64 n) (R_move rfl) rfl ?_
  refine L_run (v := .bool (decide (n < 0))) (R_lss rfl rfl) rfl ?_
  refine L_nil ?_
  refine T_normal ?_
  refine hK3 _ _ ?_
  clear hK3
  refine W_cond (decide (n < 0)) rfl (fun hc0 => ?_) (fun hc0 => ?_)
  · have hc0 := of_decide_eq_true hc0
    refine W_seq (fun K4 hK4 => ?_)
    refine W_region ?_
    refine L_run (v := .int .i64 n) (R_move rfl) rfl ?_
    refine L_op rfl rfl ?_
    refine O_call (args := [.int .i64 n]) en91 rfl (C_sFormatInt n _ (by omega) (by omega)) ?_
    rintro _ w1 ⟨rfl, hs1⟩
    refine L_run (v := .string (st (Lib.itoa n))) (R_assign rfl) rfl ?_
    refine L_nil ?_
    refine T_normal ?_
    refine hK4 _ _ ?_
    clear hK4
    refine W_ret ?_
    refine T_ret ?_
    refine Q_ret (v := .string (st (Lib.itoa n))) (res1 Tryd.results94 rfl) ?_
    clear hK2
    exact ⟨by unfold sg; rw [if_pos hc0], (Same.trans (Same.refl All w) (Same.all hs1))⟩
  · have hc0 := of_decide_eq_false hc0
    refine W_skip ?_
    refine T_normal ?_
    refine hK2 _ _ ?_
    clear hK2
    refine W_seq (fun K5 hK5 => ?_)
    refine W_region ?_
    refine L_run (v := .int .i64 n) (R_move rfl) rfl ?_
    refine L_op rfl rfl ?_
    refine O_call (args := [.int .i64 n]) en91 rfl (C_sFormatInt n _ (by omega) (by omega)) ?_
    rintro _ w2 ⟨rfl, hs2⟩
    refine L_run (v := .string (st (([43]) ++ (Lib.itoa n)))) (X_sadd rfl rfl (by (try simp only [List.length_append, List.length_cons, List.length_nil]); omega)) rfl ?_
    refine L_run (v := .string (st (([43]) ++ (Lib.itoa n)))) (R_assign rfl) rfl ?_
    refine L_nil ?_
    refine T_normal ?_
    refine hK5 _ _ ?_
    clear hK5
    refine W_ret ?_
    refine Q_ret (v := .string (st (([43]) ++ (Lib.itoa n)))) (res1 Tryd.results94 rfl) ?_
    exact ⟨by unfold sg; rw [if_neg hc0]; rfl, (Same.trans (Same.refl All w) (Same.all hs2))⟩

theorem C_signedText (n : Int) (w : World) (htab : Lib.TabIs Tryd.prog w "internal/strconv.uint64pow10" .u64 Lib.pow10Tab) (hq : inQ n) :
    Ret Tryd.prog 36 #[.int .i64 n] w (fun v w' => v = .string (st (sg n)) ∧ Same All w w') := by
  have hl : (Lib.itoa n).length ≤ 20 := itoa_len (by unfold inQ at hq; omega) (by unfold inQ at hq; omega)
  have hq1 := hq.1
  have hq2 := hq.2
  refine ret_of (args := [.int .i64 n]) Tryd.func36 rfl 10 Tryd.ntmps36 rfl ?_
  refine W_seq (fun K1 hK1 => ?_)
  refine W_region ?_
  refine L_run (v := .string (st ([]))) (R_assign rfl) rfl ?_
  refine L_nil ?_
  refine T_normal ?_
  refine hK1 _ _ ?_
  clear hK1
  refine W_seq (fun K2 hK2 => ?_)
  refine W_seq (fun K3 hK3 => ?_)
  refine W_region ?_
  refine L_run (v := .int .i64 n) (R_move rfl) rfl ?_
  refine L_run (v := .bool (decide (n < 0))) (R_lss rfl rfl) rfl ?_
  refine L_nil ?_
  refine T_normal ?_
  refine hK3 _ _ ?_
  clear hK3
  refine W_cond (decide (n < 0)) rfl (fun hc0 => ?_) (fun hc0 => ?_)
  · have hc0 := of_decide_eq_true hc0
    refine W_seq (fun K4 hK4 => ?_)
    refine W_region ?_
    refine L_run (v := .int .i64 n) (R_move rfl) rfl ?_
    refine L_op rfl rfl ?_
    refine O_call (args := [.int .i64 n]) en60 rfl (C_iFormatInt n _ (htab) (by omega) (by omega)) ?_
    rintro _ w1 ⟨rfl, hs1⟩
    refine L_run (v := .string (st (Lib.itoa n))) (R_assign rfl) rfl ?_
    refine L_nil ?_
    refine T_normal ?_
    refine hK4 _ _ ?_
    clear hK4
    refine W_ret ?_
    refine T_ret ?_
    refine Q_ret (v := .string (st (Lib.itoa n))) (res1 Tryd.results36 rfl) ?_
    clear hK2
    exact ⟨by unfold sg; rw [if_pos hc0], (Same.trans (Same.refl All w) (Same.all hs1))⟩
  · have hc0 := of_decide_eq_false hc0
    refine W_skip ?_
    refine T_normal ?_
    refine hK2 _ _ ?_
    clear hK2
    refine W_seq (fun K5 hK5 => ?_)
    refine W_region ?_
    refine L_run (v := .int .i64 n) (R_move rfl) rfl ?_
    refine L_op rfl rfl ?_
    refine O_call (args := [.int .i64 n]) en60 rfl (C_iFormatInt n _ (htab) (by omega) (by omega)) ?_
    rintro _ w2 ⟨rfl, hs2⟩
    refine L_run (v := .string (st (([43]) ++ (Lib.itoa n)))) (X_sadd rfl rfl (by (try simp only [List.length_append, List.length_cons, List.length_nil]); omega)) rfl ?_
    refine L_run (v := .string (st (([43]) ++ (Lib.itoa n)))) (R_assign rfl) rfl ?_
    refine L_nil ?_
    refine T_normal ?_
    refine hK5 _ _ ?_
    clear hK5
    refine W_ret ?_
    refine Q_ret (v := .string (st (([43]) ++ (Lib.itoa n)))) (res1 Tryd.results36 rfl) ?_
    exact ⟨by unfold sg; rw [if_neg hc0]; rfl, (Same.trans (Same.refl All w) (Same.all hs2))⟩

theorem C_quantumOk (n : Int) (w : World) :
    Ret Tryd.prog 35 #[.int .i64 n] w (fun v w' => v = .bool (decide (-1000000000 ≤ n) && decide (n ≤ 1000000000)) ∧ w = w') := by
  refine ret_of (args := [.int .i64 n]) Tryd.func35 rfl 5 Tryd.ntmps35 rfl ?_
  refine W_seq (fun K1 hK1 => ?_)
  refine W_region ?_
  refine L_run (v := .bool false) (R_assign rfl) rfl ?_
  refine L_nil ?_
  refine T_normal ?_
  refine hK1 _ _ ?_
  clear hK1
  refine W_seq (fun K2 hK2 => ?_)
  refine W_region ?_
  refine L_run (v := .int .i64 n) (R_move rfl) rfl ?_
  refine L_op rfl rfl ?_
  refine O_call (args := [.int .i64 n, .int .i64 (-1000000000), .int .i64 1000000000]) en71 rfl (C_within n (-1000000000) 1000000000 _) ?_
  rintro _ _ ⟨rfl, rfl⟩
  refine L_run (v := .bool (decide ((-1000000000) ≤ n) && decide (n ≤ 1000000000))) (R_assign rfl) rfl ?_
  refine L_nil ?_
  refine T_normal ?_
  refine hK2 _ _ ?_
  clear hK2
  refine W_ret ?_
  refine Q_ret (v := .bool (decide ((-1000000000) ≤ n) && decide (n ≤ 1000000000))) (res1 Tryd.results35 rfl) ?_
  exact ⟨rfl, rfl⟩

theorem C_sFormatPair (a : Int) (b : Int) (w : World) :
    Ret Tryd.prog 54 #[.int .i64 a, .int .i64 b] w (fun v w' => ∃ (t : List UInt8), v = .string (st t) ∧ (FPR a b t) ∧ Same All w w') := by
  refine ret_of (args := [.int .i64 a, .int .i64 b]) Tryd.func54 rfl 19 Tryd.ntmps54 rfl ?_
  refine W_seq (fun K1 hK1 => ?_)
  refine W_region ?_
  refine L_run (v := .string (st ([]))) (R_assign rfl) rfl ?_
  refine L_nil ?_
  refine T_normal ?_
  refine hK1 _ _ ?_
  clear hK1
  refine W_seq (fun K2 hK2 => ?_)
  refine W_seq (fun K3 hK3 => ?_)
  refine W_region ?_
  refine L_run (v := .int .i64 a) (R_move rfl) rfl ?_
  refine L_op rfl rfl ?_
  refine O_call (args := [.int .i64 a, .int .i64 (-1000000000), .int .i64 1000000000]) en87 rfl (C_l01In a (-1000000000) 1000000000 _) ?_
  rintro _ _ ⟨rfl, rfl⟩
  refine L_run (v := .bool (!(decide ((-1000000000) ≤ a) && decide (a ≤ 1000000000)))) (R_not rfl) rfl ?_
  refine L_run (v := .bool (!(decide ((-1000000000) ≤ a) && decide (a ≤ 1000000000)))) (R_move rfl) rfl ?_
  rcases Bool.eq_false_or_eq_true (!(decide ((-1000000000) ≤ a) && decide (a ≤ 1000000000))) with hg1 | hg1
  · have hg1p := notb_t hg1
    try rw [hg1]
    refine L_no (e := 8) rfl rfl rfl rfl ?_
    refine L_no (e := 8) rfl rfl rfl rfl ?_
    refine L_no (e := 8) rfl rfl rfl rfl ?_
    refine L_run (v := .bool true) (R_pick_t rfl rfl) rfl ?_
    refine L_nil ?_
    refine T_normal ?_
    refine hK3 _ _ ?_
    clear hK3
    refine W_cond true rfl (fun _ => ?_) (fun h => by cases h)
    refine W_seq (fun K4 hK4 => ?_)
    refine W_region ?_
    refine L_run (v := .string (st ([]))) (R_assign rfl) rfl ?_
    refine L_nil ?_
    refine T_normal ?_
    refine hK4 _ _ ?_
    clear hK4
    refine W_ret ?_
    refine T_ret ?_
    refine Q_ret (v := .string (st ([]))) (res1 Tryd.results54 rfl) ?_
    clear hK2
    exact ⟨[], rfl, ⟨fun h _ => absurd h (not_inQ hg1p), fun _ => rfl⟩, (Same.refl All w)⟩
  · have hg1p := notb_f hg1
    try rw [hg1]
    refine L_yesrun (e := 8) (v := .int .i64 b) rfl rfl rfl (R_move rfl) rfl ?_
    refine L_yes (d := 8) rfl rfl rfl rfl rfl ?_
    refine O_call (args := [.int .i64 b, .int .i64 (-1000000000), .int .i64 1000000000]) en87 rfl (C_l01In b (-1000000000) 1000000000 _) ?_
    rintro _ _ ⟨rfl, rfl⟩
    refine L_yesrun (e := 8) (v := .bool (!(decide ((-1000000000) ≤ b) && decide (b ≤ 1000000000)))) rfl rfl rfl (R_not rfl) rfl ?_
    refine L_run (v := .bool (!(decide ((-1000000000) ≤ b) && decide (b ≤ 1000000000)))) (R_pick_f rfl rfl) rfl ?_
    refine L_nil ?_
    refine T_normal ?_
    refine hK3 _ _ ?_
    clear hK3
    refine W_cond (!(decide ((-1000000000) ≤ b) && decide (b ≤ 1000000000))) rfl (fun hc0 => ?_) (fun hc0 => ?_)
    · have hc0 := notb_t hc0
      refine W_seq (fun K5 hK5 => ?_)
      refine W_region ?_
      refine L_run (v := .string (st ([]))) (R_assign rfl) rfl ?_
      refine L_nil ?_
      refine T_normal ?_
      refine hK5 _ _ ?_
      clear hK5
      refine W_ret ?_
      refine T_ret ?_
      refine Q_ret (v := .string (st ([]))) (res1 Tryd.results54 rfl) ?_
      clear hK2
      exact ⟨[], rfl, ⟨fun _ h => absurd h (not_inQ hc0), fun _ => rfl⟩, (Same.refl All w)⟩
    · have hc0 := notb_f hc0
      have ha := inQ_of hg1p
      have hb := inQ_of hc0
      have hla := sg_len ha
      have hlb := sg_len hb
      refine W_skip ?_
      refine T_normal ?_
      refine hK2 _ _ ?_
      clear hK2
      refine W_seq (fun K6 hK6 => ?_)
      refine W_region ?_
      refine L_run (v := .int .i64 a) (R_move rfl) rfl ?_
      refine L_op rfl rfl ?_
      refine O_call (args := [.int .i64 a]) en94 rfl (C_l10Signed a _ (by assumption)) ?_
      rintro _ w1 ⟨rfl, hs1⟩
      refine L_run (v := .int .i64 b) (R_move rfl) rfl ?_
      refine L_op rfl rfl ?_
      refine O_call (args := [.int .i64 b]) en94 rfl (C_l10Signed b _ (by assumption)) ?_
      rintro _ w2 ⟨rfl, hs2⟩
      refine L_run (v := .string (st ((sg a) ++ (sg b)))) (X_sadd rfl rfl (by (try simp only [List.length_append, List.length_cons, List.length_nil]); omega)) rfl ?_
      refine L_run (v := .string (st (((sg a) ++ (sg b)) ++ ([105])))) (X_sadd rfl rfl (by (try simp only [List.length_append, List.length_cons, List.length_nil]); omega)) rfl ?_
      refine L_run (v := .string (st (((sg a) ++ (sg b)) ++ ([105])))) (R_assign rfl) rfl ?_
      refine L_nil ?_
      refine T_normal ?_
      refine hK6 _ _ ?_
      clear hK6
      refine W_ret ?_
      refine Q_ret (v := .string (st (((sg a) ++ (sg b)) ++ ([105])))) (res1 Tryd.results54 rfl) ?_
      exact ⟨_, rfl, ⟨fun _ _ => rfl, fun h => absurd ⟨ha, hb⟩ h⟩, (Same.trans (Same.trans (Same.refl All w) (Same.all hs1)) (Same.all hs2))⟩

theorem C_iFormatPair (a : Int) (b : Int) (w : World) (htab : Lib.TabIs Tryd.prog w "internal/strconv.uint64pow10" .u64 Lib.pow10Tab) :
    Ret Tryd.prog 11 #[.int .i64 a, .int .i64 b] w (fun v w' => ∃ (t : List UInt8), v = .string (st t) ∧ (FPR a b t) ∧ Same All w w') := by
  refine ret_of (args := [.int .i64 a, .int .i64 b]) Tryd.func11 rfl 19 Tryd.ntmps11 rfl ?_
  refine W_seq (fun K1 hK1 => ?_)
  refine W_region ?_
  refine L_run (v := .string (st ([]))) (R_assign rfl) rfl ?_
  refine L_nil ?_
  refine T_normal ?_
  refine hK1 _ _ ?_
  clear hK1
  refine W_seq (fun K2 hK2 => ?_)
  refine W_seq (fun K3 hK3 => ?_)
  refine W_region ?_
  refine L_run (v := .int .i64 a) (R_move rfl) rfl ?_
  refine L_op rfl rfl ?_
  refine O_call (args := [.int .i64 a]) en35 rfl (C_quantumOk a _) ?_
  rintro _ _ ⟨rfl, rfl⟩
  refine L_run (v := .bool (!(decide (-1000000000 ≤ a) && decide (a ≤ 1000000000)))) (R_not rfl) rfl ?_
  refine L_run (v := .bool (!(decide (-1000000000 ≤ a) && decide (a ≤ 1000000000)))) (R_move rfl) rfl ?_
  rcases Bool.eq_false_or_eq_true (!(decide (-1000000000 ≤ a) && decide (a ≤ 1000000000))) with hg1 | hg1
  · have hg1p := notb_t hg1
    try rw [hg1]
    refine L_no (e := 8) rfl rfl rfl rfl ?_
    refine L_no (e := 8) rfl rfl rfl rfl ?_
    refine L_no (e := 8) rfl rfl rfl rfl ?_
    refine L_run (v := .bool true) (R_pick_t rfl rfl) rfl ?_
    refine L_nil ?_
    refine T_normal ?_
    refine hK3 _ _ ?_
    clear hK3
    refine W_cond true rfl (fun _ => ?_) (fun h => by cases h)
    refine W_seq (fun K4 hK4 => ?_)
    refine W_region ?_
    refine L_run (v := .string (st ([]))) (R_assign rfl) rfl ?_
    refine L_nil ?_
    refine T_normal ?_
    refine hK4 _ _ ?_
    clear hK4
    refine W_ret ?_
    refine T_ret ?_
    refine Q_ret (v := .string (st ([]))) (res1 Tryd.results11 rfl) ?_
    clear hK2
    exact ⟨[], rfl, ⟨fun h _ => absurd h (not_inQ hg1p), fun _ => rfl⟩, (Same.refl All w)⟩
  · have hg1p := notb_f hg1
    try rw [hg1]
    refine L_yesrun (e := 8) (v := .int .i64 b) rfl rfl rfl (R_move rfl) rfl ?_
    refine L_yes (d := 8) rfl rfl rfl rfl rfl ?_
    refine O_call (args := [.int .i64 b]) en35 rfl (C_quantumOk b _) ?_
    rintro _ _ ⟨rfl, rfl⟩
    refine L_yesrun (e := 8) (v := .bool (!(decide (-1000000000 ≤ b) && decide (b ≤ 1000000000)))) rfl rfl rfl (R_not rfl) rfl ?_
    refine L_run (v := .bool (!(decide (-1000000000 ≤ b) && decide (b ≤ 1000000000)))) (R_pick_f rfl rfl) rfl ?_
    refine L_nil ?_
    refine T_normal ?_
    refine hK3 _ _ ?_
    clear hK3
    refine W_cond (!(decide (-1000000000 ≤ b) && decide (b ≤ 1000000000))) rfl (fun hc0 => ?_) (fun hc0 => ?_)
    · have hc0 := notb_t hc0
      refine W_seq (fun K5 hK5 => ?_)
      refine W_region ?_
      refine L_run (v := .string (st ([]))) (R_assign rfl) rfl ?_
      refine L_nil ?_
      refine T_normal ?_
      refine hK5 _ _ ?_
      clear hK5
      refine W_ret ?_
      refine T_ret ?_
      refine Q_ret (v := .string (st ([]))) (res1 Tryd.results11 rfl) ?_
      clear hK2
      exact ⟨[], rfl, ⟨fun _ h => absurd h (not_inQ hc0), fun _ => rfl⟩, (Same.refl All w)⟩
    · have hc0 := notb_f hc0
      have ha := inQ_of hg1p
      have hb := inQ_of hc0
      have hla := sg_len ha
      have hlb := sg_len hb
      refine W_skip ?_
      refine T_normal ?_
      refine hK2 _ _ ?_
      clear hK2
      refine W_seq (fun K6 hK6 => ?_)
      refine W_region ?_
      refine L_run (v := .int .i64 a) (R_move rfl) rfl ?_
      refine L_op rfl rfl ?_
      refine O_call (args := [.int .i64 a]) en36 rfl (C_signedText a _ (htab) (by assumption)) ?_
      rintro _ w1 ⟨rfl, hs1⟩
      refine L_run (v := .int .i64 b) (R_move rfl) rfl ?_
      refine L_op rfl rfl ?_
      refine O_call (args := [.int .i64 b]) en36 rfl (C_signedText b _ (tab_same htab (Same.trans (Same.refl All w) (Same.all hs1))) (by assumption)) ?_
      rintro _ w2 ⟨rfl, hs2⟩
      refine L_run (v := .string (st ((sg a) ++ (sg b)))) (X_sadd rfl rfl (by (try simp only [List.length_append, List.length_cons, List.length_nil]); omega)) rfl ?_
      refine L_run (v := .string (st (((sg a) ++ (sg b)) ++ ([105])))) (X_sadd rfl rfl (by (try simp only [List.length_append, List.length_cons, List.length_nil]); omega)) rfl ?_
      refine L_run (v := .string (st (((sg a) ++ (sg b)) ++ ([105])))) (R_assign rfl) rfl ?_
      refine L_nil ?_
      refine T_normal ?_
      refine hK6 _ _ ?_
      clear hK6
      refine W_ret ?_
      refine Q_ret (v := .string (st (((sg a) ++ (sg b)) ++ ([105])))) (res1 Tryd.results11 rfl) ?_
      exact ⟨_, rfl, ⟨fun _ _ => rfl, fun h => absurd ⟨ha, hb⟩ h⟩, (Same.trans (Same.trans (Same.refl All w) (Same.all hs1)) (Same.all hs2))⟩

end Go.Proofs.YtpfbheodbgkgmaaDoor
