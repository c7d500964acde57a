/- The walk of strings.IndexRune at the two signs and a rune beyond ASCII. -/
import Derived.Test.YtpfbheodbgkgmaaDoorGxStr
import Derived.Test.YtpfbheodbgkgmaaDoorGxTxt
import Derived.Test.YtpfbheodbgkgmaaDoorChecked
import Derived.Test.YtpfbheodbgkgmaaDoorShelf
import Derived.Test.YtpfbheodbgkgmaaDoorTa
import Derived.Test.YtpfbheodbgkgmaaDoorTb
import Derived.Test.YtpfbheodbgkgmaaDoorTd
import Derived.Test.YtpfbheodbgkgmaaDoorTw
set_option linter.unusedSimpArgs false
set_option linter.unusedVariables false
namespace Go.Proofs.YtpfbheodbgkgmaaDoor
open Go Gx Go.Proofs
attribute [local irreducible] OpW wpL WC anyL Run
theorem inf21 : Inf Tryd.prog 21 1 4 (.int .i32 0) := inf_of (by kernel_rfl)
theorem en102 : Enters Tryd.prog 102 := enters Tryd.func102 rfl (by kernel_rfl)
theorem en111 : Enters Tryd.prog 111 := enters Tryd.func111 rfl (by kernel_rfl)
theorem C_IndexRuneHi (r : Int) (w : World) (hr : 128 ≤ r) (hr1 : r ≤ 1114111) :
    Ret Tryd.prog 72 #[.string (st pm), .int .i32 r] w (fun v w' => v = .int .i64 (-1) ∧ Same All w w') := by
  have hpm : pm.length = 2 := rfl
  refine ret_of (args := [.string (st pm), .int .i32 r]) Tryd.func72 rfl 187 Tryd.ntmps72 rfl ?_
  refine W_seq (fun K1 hK1 => ?_)
  refine W_region ?_
  refine L_run (v := .int .i64 0) (R_assign rfl) rfl ?_
  refine L_nil ?_
  refine T_normal ?_
  refine hK1 _ _ ?_
  clear hK1
  refine W_block ?_
  refine W_seq (fun K2 hK2 => ?_)
  refine W_region ?_
  refine L_run (v := .int .i32 r) (R_move rfl) rfl ?_
  refine L_run (v := .bool (decide (0 ≤ r))) (R_leq rfl rfl) rfl ?_
  refine L_run (v := .bool (decide (0 ≤ r))) (R_move rfl) rfl ?_
  have hg1 : (decide (0 ≤ r)) = true := decide_eq_true (by omega)
  rw [hg1]
  refine L_yesrun (e := 163) (v := .int .i32 r) rfl rfl rfl (R_move rfl) rfl ?_
  refine L_yesrun (e := 163) (v := .bool (decide (r < 128))) rfl rfl rfl (R_lss rfl rfl) rfl ?_
  refine L_run (v := .bool (decide (r < 128))) (R_pick_t rfl rfl) rfl ?_
  refine L_run (v := .bool (decide (r < 128))) (R_assign rfl) rfl ?_
  refine L_nil ?_
  refine T_normal ?_
  refine hK2 _ _ ?_
  clear hK2
  have hc0 : (decide (r < 128)) = false := decide_eq_false (by omega)
  refine W_cond (decide (r < 128)) rfl (fun h => by rw [hc0] at h; cases h) (fun _ => ?_)
  refine W_seq (fun K3 hK3 => ?_)
  refine W_region ?_
  refine L_run (v := .int .i32 r) (R_move rfl) rfl ?_
  refine L_run (v := .bool (decide (r = 65533))) (R_eql rfl rfl) rfl ?_
  refine L_run (v := .bool (decide (r = 65533))) (R_assign rfl) rfl ?_
  refine L_nil ?_
  refine T_normal ?_
  refine hK3 _ _ ?_
  clear hK3
  refine W_cond (decide (r = 65533)) rfl (fun hc1 => ?_) (fun hc1 => ?_)
  · have hc1 := of_decide_eq_true hc1
    refine W_seq (fun K4 hK4 => ?_)
    refine W_seq (fun K5 hK5 => ?_)
    refine W_region ?_
    refine L_run (v := .string (st pm)) (R_move rfl) rfl ?_
    refine L_op rfl rfl ?_
    refine X_range (l := pm) Tryd.underlying9 rfl ?_
    intro b1 w1 hl1 hl1l hs1 hb1
    refine L_nil ?_
    refine T_normal ?_
    refine hK5 _ _ ?_
    clear hK5
    refine W_block ?_
    refine W_loop (G := Nat) [4, 5, 6, 176, 177, 178, 179, 180, 181, 182] (fun i => []) (fun i w' => i ≤ 2 ∧ w'.heap[b1]? = some (.stringIter (st pm) i) ∧ Same All w w') (fun i => 2 - i) 0 trivial ?hj0 ?_
    case hj0 => exact ⟨by omega, hb1, (Same.trans (Same.refl All w) (Same.all hs1))⟩
    rintro i j1 w2 ⟨hj1, hj2, hj3⟩
    refine W_seq (fun K6 hK6 => ?_)
    refine W_region ?_
    rcases Nat.lt_or_ge i pm.length with hi1 | hi1
    · refine L_op rfl rfl ?_
      refine X_next_more (l := pm) (i := i) rfl hj2 hi1 (pm_at (by assumption)) ?_
      intro w3 hs2 hb2 hz1
      refine L_run (v := .bool true) (R_extract rfl rfl) rfl ?_
      refine L_nil ?_
      refine T_normal ?_
      refine hK6 _ _ ?_
      clear hK6
      refine W_seq (fun K7 hK7 => ?_)
      refine W_cond true rfl (fun _ => ?_) (fun h => by cases h)
      refine W_skip ?_
      refine T_normal ?_
      refine hK7 _ _ ?_
      clear hK7
      refine W_block ?_
      refine W_seq (fun K8 hK8 => ?_)
      refine W_region ?_
      refine L_run (v := .int .i64 (i : Int)) (R_extract rfl rfl) rfl ?_
      refine L_run (v := .int .i32 ((pm.getD i 0).toNat : Int)) (R_extract rfl rfl) rfl ?_
      refine L_run (v := .int .i64 (i : Int)) (R_assign rfl) rfl ?_
      refine L_run (v := .int .i32 ((pm.getD i 0).toNat : Int)) (R_assign rfl) rfl ?_
      refine L_nil ?_
      refine T_normal ?_
      refine hK8 _ _ ?_
      clear hK8
      refine W_seq (fun K9 hK9 => ?_)
      refine W_region ?_
      refine L_run (v := .int .i32 ((pm.getD i 0).toNat : Int)) (R_move rfl) rfl ?_
      refine L_run (v := .bool (decide (((pm.getD i 0).toNat : Int) = 65533))) (R_eql rfl rfl) rfl ?_
      refine L_nil ?_
      refine T_normal ?_
      refine hK9 _ _ ?_
      clear hK9
      have hc3 : (decide (((pm.getD i 0).toNat : Int) = 65533)) = false := decide_eq_false (by have := pm_at hi1; omega)
      refine W_cond (decide (((pm.getD i 0).toNat : Int) = 65533)) rfl (fun h => by rw [hc3] at h; cases h) (fun _ => ?_)
      refine W_skip ?_
      refine B_normal ?_
      refine T_normal ?_
      refine At.mk (i + 1) (Agree.upd rfl (Agree.upd rfl (Agree.upd rfl (Agree.upd rfl (Agree.upd rfl (Agree.upd rfl (Agree.upd rfl (Agree.upd rfl (Agree.upds rfl Agree.over))))))))) trivial ?_
      exact ⟨⟨by have : pm.length = 2 := rfl; omega, hb2, (Same.after' (Same.trans (Same.refl All w) (Same.all hj3)) hs2 (by intro k hk hn; have := Same.size hs1; have := Same.size hj3; have := Same.size hs2; simp only [All, But, Lo, LoBut] at *; omega))⟩, by have : pm.length = 2 := rfl; omega⟩
    · refine L_op rfl rfl ?_
      refine X_next_end (l := pm) (i := i) rfl hj2 hi1 ?_
      refine L_run (v := .bool false) (R_extract rfl rfl) rfl ?_
      refine L_nil ?_
      refine T_normal ?_
      refine hK6 _ _ ?_
      clear hK6
      refine W_seq (fun K10 hK10 => ?_)
      refine W_cond false rfl (fun h => by cases h) (fun _ => ?_)
      refine W_exit ?_
      refine T_exit ?_
      refine T_exit ?_
      refine B_hit ?_
      refine T_normal ?_
      refine hK4 _ _ ?_
      clear hK4
      refine W_seq (fun K11 hK11 => ?_)
      refine W_region ?_
      refine L_run (v := .int .i64 (-1)) (R_assign rfl) rfl ?_
      refine L_nil ?_
      refine T_normal ?_
      refine hK11 _ _ ?_
      clear hK11
      refine W_ret ?_
      refine B_ret ?_
      refine Q_ret (v := .int .i64 (-1)) (res1 Tryd.results72 rfl) ?_
      clear hK10
      exact ⟨rfl, (Same.trans (Same.refl All w) (Same.all hj3))⟩
  · have hc1 := of_decide_eq_false hc1
    refine W_seq (fun K12 hK12 => ?_)
    refine W_region ?_
    refine L_run (v := .int .i32 r) (R_move rfl) rfl ?_
    refine L_op rfl rfl ?_
    refine O_call (args := [.int .i32 r]) en111 rfl (C_ValidRune r _) ?_
    rintro _ _ ⟨rfl, rfl⟩
    refine L_run (v := .bool (!(Lib.validRune r))) (R_not rfl) rfl ?_
    refine L_run (v := .bool (!(Lib.validRune r))) (R_assign rfl) rfl ?_
    refine L_nil ?_
    refine T_normal ?_
    refine hK12 _ _ ?_
    clear hK12
    refine W_cond (!(Lib.validRune r)) rfl (fun hc4 => ?_) (fun hc4 => ?_)
    · have hc4 := notb_t hc4
      refine W_seq (fun K13 hK13 => ?_)
      refine W_region ?_
      refine L_run (v := .int .i64 (-1)) (R_assign rfl) rfl ?_
      refine L_nil ?_
      refine T_normal ?_
      refine hK13 _ _ ?_
      clear hK13
      refine W_ret ?_
      refine B_ret ?_
      refine Q_ret (v := .int .i64 (-1)) (res1 Tryd.results72 rfl) ?_
      exact ⟨rfl, (Same.refl All w)⟩
    · have hc4 := notb_f hc4
      have her := encR_hi hr hc4
      have her1 := her.1.1
      have her2 := her.1.2
      refine W_scope ?_
      refine W_seq (fun K14 hK14 => ?_)
      refine W_region ?_
      refine L_run (v := .int .i32 r) (R_move rfl) rfl ?_
      refine L_run (v := .string (st (encR r))) (X_i2s (Option.isSome_iff_exists.2 ⟨_, Tryd.underlying21⟩) Tryd.underlying9 rfl) rfl ?_
      refine L_run (v := .string (st (encR r))) (R_assign rfl) rfl ?_
      refine L_nil ?_
      refine T_normal ?_
      refine hK14 _ _ ?_
      clear hK14
      refine W_seq (fun K15 hK15 => ?_)
      refine W_region ?_
      refine L_run (v := .string (st (encR r))) (R_move rfl) rfl ?_
      refine L_run (v := .int .i64 ((encR r).length : Int)) (X_slen Tryd.underlying9 rfl) rfl ?_
      refine L_run (v := .int .i64 (((encR r).length : Int) - 1)) (R_sub rfl rfl (by omega) (by omega)) rfl ?_
      refine L_run (v := .int .i64 (((encR r).length : Int) - 1)) (R_assign rfl) rfl ?_
      refine L_nil ?_
      refine T_normal ?_
      refine hK15 _ _ ?_
      clear hK15
      refine W_seq (fun K16 hK16 => ?_)
      refine W_region ?_
      refine L_run (v := .int .i64 (((encR r).length : Int) - 1)) (R_move rfl) rfl ?_
      refine L_run (v := .int .i64 (((encR r).length : Int) - 1)) (R_assign rfl) rfl ?_
      refine L_nil ?_
      refine T_normal ?_
      refine hK16 _ _ ?_
      clear hK16
      refine W_seq (fun K17 hK17 => ?_)
      refine W_region ?_
      refine L_run (v := .int .i64 0) (R_assign rfl) rfl ?_
      refine L_nil ?_
      refine T_normal ?_
      refine hK17 _ _ ?_
      clear hK17
      refine W_seq (fun K18 hK18 => ?_)
      refine W_block ?_
      refine W_loop (G := Unit) [4, 9, 10, 11, 12, 23, 24, 25, 26, 27, 28, 29, 30, 31, 32, 33, 34, 35, 36, 37, 38, 39, 40, 41, 42, 43, 44, 45, 46, 47, 48, 49, 50, 51, 52, 53, 54, 55, 56, 57, 58, 59, 60, 61, 62, 63, 64, 65, 66, 67, 68, 69, 70, 71, 72, 73, 74, 75, 76, 77, 78, 79, 80, 81, 82, 83, 84, 85, 86, 87, 88, 89, 90, 91, 92, 93, 94, 95, 96, 97, 98] (fun _ => [(9, .int .i64 (((encR r).length : Int) - 1)), (10, .int .i64 0)]) (fun _ w' => Same All w w') (fun _ => 0) () ⟨rfl, rfl, trivial⟩ ?hj1 ?_
      case hj1 => exact (Same.refl All w)
      rintro ⟨⟩ j2 w4 hj1
      refine W_seq (fun K19 hK19 => ?_)
      refine W_seq (fun K20 hK20 => ?_)
      refine W_region ?_
      refine L_run (v := .int .i64 (((encR r).length : Int) - 1)) (R_move rfl) rfl ?_
      refine L_run (v := .string (st pm)) (R_move rfl) rfl ?_
      refine L_run (v := .int .i64 (pm.length : Int)) (X_slen Tryd.underlying9 rfl) rfl ?_
      refine L_run (v := .bool (decide ((((encR r).length : Int) - 1) < (pm.length : Int)))) (R_lss rfl rfl) rfl ?_
      refine L_nil ?_
      refine T_normal ?_
      refine hK20 _ _ ?_
      clear hK20
      refine W_cond (decide ((((encR r).length : Int) - 1) < (pm.length : Int))) rfl (fun hc5 => ?_) (fun hc5 => ?_)
      · have hc5 := of_decide_eq_true hc5
        refine W_skip ?_
        refine T_normal ?_
        refine hK19 _ _ ?_
        clear hK19
        refine W_block ?_
        refine W_scope ?_
        refine W_seq (fun K21 hK21 => ?_)
        refine W_seq (fun K22 hK22 => ?_)
        refine W_draw (fun W => Same All w4 W) rfl ?_
        have hd1 : Same All w4 w4.drew := (Same.refl _ _).drew
        refine A_take (i := 0) (v := .string (st pm)) (by kernel_rfl) rfl (fun W1 hW1 => R_move rfl) ?_
        refine A_take (i := 1) (v := .int .i64 (((encR r).length : Int) - 1)) (by kernel_rfl) rfl (fun W2 hW2 => R_move rfl) ?_
        refine A_take (i := 2) (v := .int .u8 ((pm.getD (Int.toNat (((encR r).length : Int) - 1)) 0).toNat : Int)) (by kernel_rfl) rfl (fun W3 hW3 => X_sindex (Int.toNat (((encR r).length : Int) - 1)) Tryd.underlying9 rfl rfl (by omega) (by omega)) ?_
        refine A_take (i := 3) (v := .string (st (encR r))) (by kernel_rfl) rfl (fun W4 hW4 => R_move rfl) ?_
        refine A_take (i := 4) (v := .int .i64 (((encR r).length : Int) - 1)) (by kernel_rfl) rfl (fun W5 hW5 => R_move rfl) ?_
        refine A_take (i := 5) (v := .int .u8 (((encR r).getD (Int.toNat (((encR r).length : Int) - 1)) 0).toNat : Int)) (by kernel_rfl) rfl (fun W6 hW6 => X_sindex (Int.toNat (((encR r).length : Int) - 1)) Tryd.underlying9 rfl rfl (by omega) (by omega)) ?_
        refine A_take (i := 6) (v := .bool (!decide (((pm.getD (Int.toNat (((encR r).length : Int) - 1)) 0).toNat : Int) = (((encR r).getD (Int.toNat (((encR r).length : Int) - 1)) 0).toNat : Int)))) (by kernel_rfl) rfl (fun W7 hW7 => R_neq rfl rfl) ?_
        refine A_done (by kernel_rfl) hd1 ?_
        refine T_normal ?_
        refine hK22 _ _ ?_
        clear hK22
        have hc6 : (!decide (((pm.getD (Int.toNat (((encR r).length : Int) - 1)) 0).toNat : Int) = (((encR r).getD (Int.toNat (((encR r).length : Int) - 1)) 0).toNat : Int))) = true := rs_ne (by omega) (by omega) her
        refine W_cond (!decide (((pm.getD (Int.toNat (((encR r).length : Int) - 1)) 0).toNat : Int) = (((encR r).getD (Int.toNat (((encR r).length : Int) - 1)) 0).toNat : Int))) rfl (fun _ => ?_) (fun h => by rw [hc6] at h; cases h)
        refine W_seq (fun K23 hK23 => ?_)
        refine W_draw (fun W => Same All w4.drew W) rfl ?_
        have hd2 : Same All w4.drew w4.drew.drew := (Same.refl _ _).drew
        refine A_take (i := 0) (v := .string (st pm)) (by kernel_rfl) rfl (fun W8 hW8 => R_move rfl) ?_
        refine A_take (i := 1) (v := .int .i64 (((encR r).length : Int) - 1)) (by kernel_rfl) rfl (fun W9 hW9 => R_move rfl) ?_
        refine A_take (i := 2) (v := .int .i64 ((((encR r).length : Int) - 1) + 1)) (by kernel_rfl) rfl (fun W10 hW10 => R_add rfl rfl (by omega) (by omega)) ?_
        refine A_take (i := 3) (v := .string (st (pm.drop (Int.toNat ((((encR r).length : Int) - 1) + 1))))) (by kernel_rfl) rfl (fun W11 hW11 => X_sslice1 (Int.toNat ((((encR r).length : Int) - 1) + 1)) rfl ⟨_, _, rfl, (by omega)⟩ (by omega) Tryd.underlying9) ?_
        refine A_take (i := 4) (v := .string (st (encR r))) (by kernel_rfl) rfl (fun W12 hW12 => R_move rfl) ?_
        refine A_take (i := 5) (v := .int .i64 (((encR r).length : Int) - 1)) (by kernel_rfl) rfl (fun W13 hW13 => R_move rfl) ?_
        refine A_take (i := 6) (v := .int .u8 (((encR r).getD (Int.toNat (((encR r).length : Int) - 1)) 0).toNat : Int)) (by kernel_rfl) rfl (fun W14 hW14 => X_sindex (Int.toNat (((encR r).length : Int) - 1)) Tryd.underlying9 rfl rfl (by omega) (by omega)) ?_
        refine A_one (i := 7) (by kernel_rfl) rfl rfl rfl hd2 ?_
        refine O_call (args := [.string (st (pm.drop (Int.toNat ((((encR r).length : Int) - 1) + 1)))), .int .u8 (((encR r).getD (Int.toNat (((encR r).length : Int) - 1)) 0).toNat : Int)]) en102 rfl (C_sIndexByte (pm.drop (Int.toNat ((((encR r).length : Int) - 1) + 1))) (((encR r).getD (Int.toNat (((encR r).length : Int) - 1)) 0).toNat : Int) _) ?_
        rintro _ _ ⟨rfl, rfl⟩
        have hd3 : Same All w4.drew w4.drew.drew := hd2
        refine A_take (i := 8) (v := .int .i64 (Lib.indexByte (pm.drop (Int.toNat ((((encR r).length : Int) - 1) + 1))) (Nat.toUInt8 (Int.toNat (((encR r).getD (Int.toNat (((encR r).length : Int) - 1)) 0).toNat : Int))))) (by kernel_rfl) rfl (fun W15 hW15 => R_assign rfl) ?_
        refine A_done (by kernel_rfl) hd3 ?_
        refine T_normal ?_
        refine hK23 _ _ ?_
        clear hK23
        refine W_seq (fun K24 hK24 => ?_)
        refine W_seq (fun K25 hK25 => ?_)
        refine W_region ?_
        refine L_run (v := .int .i64 (Lib.indexByte (pm.drop (Int.toNat ((((encR r).length : Int) - 1) + 1))) (Nat.toUInt8 (Int.toNat (((encR r).getD (Int.toNat (((encR r).length : Int) - 1)) 0).toNat : Int))))) (R_move rfl) rfl ?_
        refine L_run (v := .bool (decide (Lib.indexByte (pm.drop (Int.toNat ((((encR r).length : Int) - 1) + 1))) (Nat.toUInt8 (Int.toNat (((encR r).getD (Int.toNat (((encR r).length : Int) - 1)) 0).toNat : Int))) < 0))) (R_lss rfl rfl) rfl ?_
        refine L_nil ?_
        refine T_normal ?_
        refine hK25 _ _ ?_
        clear hK25
        have hc7 : (decide (Lib.indexByte (pm.drop (Int.toNat ((((encR r).length : Int) - 1) + 1))) (Nat.toUInt8 (Int.toNat (((encR r).getD (Int.toNat (((encR r).length : Int) - 1)) 0).toNat : Int))) < 0)) = true := decide_eq_true (by rw [List.drop_eq_nil_of_le (by omega)]; show (-1 : Int) < 0; decide)
        refine W_cond (decide (Lib.indexByte (pm.drop (Int.toNat ((((encR r).length : Int) - 1) + 1))) (Nat.toUInt8 (Int.toNat (((encR r).getD (Int.toNat (((encR r).length : Int) - 1)) 0).toNat : Int))) < 0)) rfl (fun _ => ?_) (fun h => by rw [hc7] at h; cases h)
        refine W_seq (fun K26 hK26 => ?_)
        refine W_region ?_
        refine L_run (v := .int .i64 (-1)) (R_assign rfl) rfl ?_
        refine L_nil ?_
        refine T_normal ?_
        refine hK26 _ _ ?_
        clear hK26
        refine W_ret ?_
        refine T_ret ?_
        refine T_ret ?_
        dsimp only
        refine B_ret ?_
        refine T_ret ?_
        refine B_ret ?_
        refine T_ret ?_
        dsimp only
        refine B_ret ?_
        refine Q_ret (v := .int .i64 (-1)) (res1 Tryd.results72 rfl) ?_
        clear hK24 hK21 hK18
        exact ⟨rfl, (Same.trans (Same.trans (Same.trans (Same.refl All w) (Same.all hj1)) (Same.all hd1)) (Same.all hd2))⟩
      · have hc5 := of_decide_eq_false hc5
        refine W_exit ?_
        refine T_exit ?_
        refine T_exit ?_
        refine B_hit ?_
        refine T_normal ?_
        refine hK18 _ _ ?_
        clear hK18
        refine W_seq (fun K27 hK27 => ?_)
        refine W_seq (fun K28 hK28 => ?_)
        refine W_region ?_
        refine L_run (v := .int .i64 (-1)) (R_assign rfl) rfl ?_
        refine L_nil ?_
        refine T_normal ?_
        refine hK28 _ _ ?_
        clear hK28
        refine W_ret ?_
        refine T_ret ?_
        dsimp only
        refine B_ret ?_
        refine Q_ret (v := .int .i64 (-1)) (res1 Tryd.results72 rfl) ?_
        clear hK27 hK19
        exact ⟨rfl, (Same.trans (Same.refl All w) (Same.all hj1))⟩

end Go.Proofs.YtpfbheodbgkgmaaDoor
