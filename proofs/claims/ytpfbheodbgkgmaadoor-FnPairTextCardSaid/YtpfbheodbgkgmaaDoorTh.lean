/- The walk of strings.LastIndexAny at the two signs. -/
import Derived.Test.YtpfbheodbgkgmaaDoorGxStr
import Derived.Test.YtpfbheodbgkgmaaDoorGxTxt
import Derived.Test.YtpfbheodbgkgmaaDoorChecked
import Derived.Test.YtpfbheodbgkgmaaDoorShelf
import Derived.Test.YtpfbheodbgkgmaaDoorTa
import Derived.Test.YtpfbheodbgkgmaaDoorTb
import Derived.Test.YtpfbheodbgkgmaaDoorTd
import Derived.Test.YtpfbheodbgkgmaaDoorTw
import Derived.Test.YtpfbheodbgkgmaaDoorTf
import Derived.Test.YtpfbheodbgkgmaaDoorTg
set_option linter.unusedSimpArgs false
set_option linter.unusedVariables false
namespace Go.Proofs.YtpfbheodbgkgmaaDoor
open Go Gx Go.Proofs
attribute [local irreducible] OpW wpL WC anyL Run
theorem en72 : Enters Tryd.prog 72 := enters Tryd.func72 rfl (by kernel_rfl)
theorem en73 : Enters Tryd.prog 73 := enters Tryd.func73 rfl (by kernel_rfl)
theorem en74 : Enters Tryd.prog 74 := enters Tryd.func74 rfl (by kernel_rfl)
theorem en75 : Enters Tryd.prog 75 := enters Tryd.func75 rfl (by kernel_rfl)
theorem en76 : Enters Tryd.prog 76 := enters Tryd.func76 rfl (by kernel_rfl)
theorem C_LastIndexAny (s : List UInt8) (w : World) (hU : Lib.Utf8Tabs 2 3 w) (hsz : s.length < 4294967281) :
    Ret Tryd.prog 37 #[.string (st s), .string (st pm)] w (fun v w' => ∃ (k : Int), v = .int .i64 k ∧ (-1 ≤ k) ∧ (k < (s.length : Int)) ∧ (LIAp s k) ∧ Same All w w') := by
  have hpm : pm.length = 2 := rfl
  have hs0 : ∀ h : s.length = 1, noSgn s 1 := fun h => noSgn_end s (by omega)
  refine ret_of (args := [.string (st s), .string (st pm)]) Tryd.func37 rfl 96 Tryd.ntmps37 rfl ?_
  refine W_seq (fun K1 hK1 => ?_)
  refine W_region ?_
  refine L_run (v := .int .i64 0) (R_assign rfl) rfl ?_
  refine L_nil ?_
  refine T_normal ?_
  refine hK1 _ _ ?_
  clear hK1
  refine W_seq (fun K2 hK2 => ?_)
  refine W_seq (fun K3 hK3 => ?_)
  refine W_region ?_
  refine L_run (v := .string (st pm)) (R_move rfl) rfl ?_
  refine L_run (v := .bool (decide (pm = []))) (X_seql rfl rfl) rfl ?_
  refine L_nil ?_
  refine T_normal ?_
  refine hK3 _ _ ?_
  clear hK3
  have hc0 : (decide (pm = [])) = false := by decide
  refine W_cond (decide (pm = [])) rfl (fun h => by rw [hc0] at h; cases h) (fun _ => ?_)
  refine W_skip ?_
  refine T_normal ?_
  refine hK2 _ _ ?_
  clear hK2
  refine W_seq (fun K4 hK4 => ?_)
  refine W_seq (fun K5 hK5 => ?_)
  refine W_region ?_
  refine L_run (v := .string (st s)) (R_move rfl) rfl ?_
  refine L_run (v := .int .i64 (s.length : Int)) (X_slen Tryd.underlying9 rfl) rfl ?_
  refine L_run (v := .bool (decide ((s.length : Int) = 1))) (R_eql rfl rfl) rfl ?_
  refine L_nil ?_
  refine T_normal ?_
  refine hK5 _ _ ?_
  clear hK5
  refine W_cond (decide ((s.length : Int) = 1)) rfl (fun hc1 => ?_) (fun hc1 => ?_)
  · have hc1 := of_decide_eq_true hc1
    refine W_seq (fun K6 hK6 => ?_)
    refine W_region ?_
    refine L_run (v := .string (st s)) (R_move rfl) rfl ?_
    refine L_run (v := .int .u8 ((s.getD 0 0).toNat : Int)) (X_sindex 0 Tryd.underlying9 rfl rfl rfl (by omega)) rfl ?_
    refine L_run (v := .int .i32 ((s.getD 0 0).toNat : Int)) (R_iiw (Option.isSome_iff_exists.2 ⟨_, Tryd.underlying5⟩) Tryd.underlying21 rfl (w32 (by omega) (by have := byte_lt (s.getD 0 0); omega))) rfl ?_
    refine L_run (v := .int .i32 ((s.getD 0 0).toNat : Int)) (R_assign rfl) rfl ?_
    refine L_nil ?_
    refine T_normal ?_
    refine hK6 _ _ ?_
    clear hK6
    refine W_seq (fun K7 hK7 => ?_)
    refine W_seq (fun K8 hK8 => ?_)
    refine W_region ?_
    refine L_run (v := .int .i32 ((s.getD 0 0).toNat : Int)) (R_move rfl) rfl ?_
    refine L_run (v := .bool (decide (128 ≤ ((s.getD 0 0).toNat : Int)))) (R_geq rfl rfl) rfl ?_
    refine L_nil ?_
    refine T_normal ?_
    refine hK8 _ _ ?_
    clear hK8
    refine W_cond (decide (128 ≤ ((s.getD 0 0).toNat : Int))) rfl (fun hc2 => ?_) (fun hc2 => ?_)
    · have hc2 := of_decide_eq_true hc2
      refine W_region ?_
      refine L_run (v := .int .i32 65533) (R_assign rfl) rfl ?_
      refine L_nil ?_
      refine T_normal ?_
      refine hK7 _ _ ?_
      clear hK7
      refine W_seq (fun K9 hK9 => ?_)
      refine W_seq (fun K10 hK10 => ?_)
      refine W_region ?_
      refine L_run (v := .string (st pm)) (R_move rfl) rfl ?_
      refine L_run (v := .int .i32 65533) (R_move rfl) rfl ?_
      refine L_op rfl rfl ?_
      refine O_call (args := [.string (st pm), .int .i32 65533]) en72 rfl (C_IndexRunePm 65533 _ (by omega) (by first | omega | exact Int.ofNat_le.2 (Lib.decodeLastL_rune _) | (have := byte_lt (s.getD 0 0); omega))) ?_
      rintro _ w1 ⟨k1, rfl, hir1, hs1⟩
      refine L_run (v := .bool (decide (0 ≤ k1))) (R_geq rfl rfl) rfl ?_
      refine L_nil ?_
      refine T_normal ?_
      refine hK10 _ _ ?_
      clear hK10
      refine W_cond (decide (0 ≤ k1)) rfl (fun hc3 => ?_) (fun hc3 => ?_)
      · have hc3 := of_decide_eq_true hc3
        refine W_seq (fun K11 hK11 => ?_)
        refine W_region ?_
        refine L_run (v := .int .i64 0) (R_assign rfl) rfl ?_
        refine L_nil ?_
        refine T_normal ?_
        refine hK11 _ _ ?_
        clear hK11
        refine W_ret ?_
        refine T_ret ?_
        refine T_ret ?_
        refine Q_ret (v := .int .i64 0) (res1 Tryd.results37 rfl) ?_
        clear hK9 hK4
        exact ⟨0, rfl, by omega, by omega, fun ha => absurd (asc_at ha 0) (by omega), (Same.trans (Same.refl All w) (Same.all hs1))⟩
      · have hc3 := of_decide_eq_false hc3
        refine W_skip ?_
        refine T_normal ?_
        refine hK9 _ _ ?_
        clear hK9
        refine W_seq (fun K12 hK12 => ?_)
        refine W_region ?_
        refine L_run (v := .int .i64 (-1)) (R_assign rfl) rfl ?_
        refine L_nil ?_
        refine T_normal ?_
        refine hK12 _ _ ?_
        clear hK12
        refine W_ret ?_
        refine T_ret ?_
        refine Q_ret (v := .int .i64 (-1)) (res1 Tryd.results37 rfl) ?_
        clear hK4
        exact ⟨(-1), rfl, by omega, by omega, fun ha => absurd (asc_at ha 0) (by omega), (Same.trans (Same.refl All w) (Same.all hs1))⟩
    · have hc2 := of_decide_eq_false hc2
      refine W_skip ?_
      refine T_normal ?_
      refine hK7 _ _ ?_
      clear hK7
      refine W_seq (fun K13 hK13 => ?_)
      refine W_seq (fun K14 hK14 => ?_)
      refine W_region ?_
      refine L_run (v := .string (st pm)) (R_move rfl) rfl ?_
      refine L_run (v := .int .i32 ((s.getD 0 0).toNat : Int)) (R_move rfl) rfl ?_
      refine L_op rfl rfl ?_
      refine O_call (args := [.string (st pm), .int .i32 ((s.getD 0 0).toNat : Int)]) en72 rfl (C_IndexRunePm ((s.getD 0 0).toNat : Int) _ (by omega) (by first | omega | exact Int.ofNat_le.2 (Lib.decodeLastL_rune _) | (have := byte_lt (s.getD 0 0); omega))) ?_
      rintro _ w2 ⟨k2, rfl, hir2, hs2⟩
      refine L_run (v := .bool (decide (0 ≤ k2))) (R_geq rfl rfl) rfl ?_
      refine L_nil ?_
      refine T_normal ?_
      refine hK14 _ _ ?_
      clear hK14
      refine W_cond (decide (0 ≤ k2)) rfl (fun hc3 => ?_) (fun hc3 => ?_)
      · have hc3 := of_decide_eq_true hc3
        refine W_seq (fun K15 hK15 => ?_)
        refine W_region ?_
        refine L_run (v := .int .i64 0) (R_assign rfl) rfl ?_
        refine L_nil ?_
        refine T_normal ?_
        refine hK15 _ _ ?_
        clear hK15
        refine W_ret ?_
        refine T_ret ?_
        refine T_ret ?_
        refine Q_ret (v := .int .i64 0) (res1 Tryd.results37 rfl) ?_
        clear hK13 hK4
        exact ⟨0, rfl, by omega, by omega, LIA_hit (hs0 (by omega)) (fun _ => by omega) (fun ha => (hir2.2 _ rfl (asc_at ha 0)).1 hc3), (Same.trans (Same.refl All w) (Same.all hs2))⟩
      · have hc3 := of_decide_eq_false hc3
        refine W_skip ?_
        refine T_normal ?_
        refine hK13 _ _ ?_
        clear hK13
        refine W_seq (fun K16 hK16 => ?_)
        refine W_region ?_
        refine L_run (v := .int .i64 (-1)) (R_assign rfl) rfl ?_
        refine L_nil ?_
        refine T_normal ?_
        refine hK16 _ _ ?_
        clear hK16
        refine W_ret ?_
        refine T_ret ?_
        refine Q_ret (v := .int .i64 (-1)) (res1 Tryd.results37 rfl) ?_
        clear hK4
        exact ⟨(-1), rfl, by omega, by omega, LIA_none (i := 0) (noSgn_back (hs0 (by omega)) (fun _ => by omega) (fun ha _ => fun h4 => hc3 ((hir2.2 _ rfl (asc_at ha 0)).2 h4))) (by omega), (Same.trans (Same.refl All w) (Same.all hs2))⟩
  · have hc1 := of_decide_eq_false hc1
    refine W_skip ?_
    refine T_normal ?_
    refine hK4 _ _ ?_
    clear hK4
    refine W_seq (fun K17 hK17 => ?_)
    refine W_seq (fun K18 hK18 => ?_)
    refine W_region ?_
    refine L_run (v := .string (st s)) (R_move rfl) rfl ?_
    refine L_run (v := .int .i64 (s.length : Int)) (X_slen Tryd.underlying9 rfl) rfl ?_
    refine L_op rfl rfl ?_
    refine O_call (args := [.int .i64 (s.length : Int)]) en73 rfl (C_shouldUse (s.length : Int) _) ?_
    rintro _ _ ⟨rfl, rfl⟩
    refine L_nil ?_
    refine T_normal ?_
    refine hK18 _ _ ?_
    clear hK18
    refine W_cond (decide (8 < (s.length : Int))) rfl (fun hc4 => ?_) (fun hc4 => ?_)
    · have hc4 := of_decide_eq_true hc4
      refine W_seq (fun K19 hK19 => ?_)
      refine W_region ?_
      refine L_run (v := .string (st pm)) (R_move rfl) rfl ?_
      refine L_op rfl rfl ?_
      refine O_call (args := [.string (st pm)]) en74 rfl (C_makeSet  _) ?_
      rintro _ w3 ⟨rfl, hs3⟩
      refine L_run (v := .tuple #[.agg (Lib.setCells pm), .bool true]) (R_move rfl) rfl ?_
      refine L_run (v := .agg (Lib.setCells pm)) (R_extract rfl rfl) rfl ?_
      refine L_run (v := .bool true) (R_extract rfl rfl) rfl ?_
      refine L_op rfl rfl ?_
      refine X_alloc (Array.replicate 256 (.bool false)) inf113 rfl ?_
      intro b1 w4 hB1g hB1l hs4 hB1
      refine L_op rfl rfl ?_
      refine X_store (.agg (Lib.setCells pm)) (Lib.setCells pm) rfl rfl inf113 hB1 stA stB stC stD ?_
      intro w5 hs5 hB2z hB2
      refine L_run (v := .bool true) (R_assign rfl) rfl ?_
      refine L_nil ?_
      refine T_normal ?_
      refine hK19 _ _ ?_
      clear hK19
      refine W_seq (fun K20 hK20 => ?_)
      refine W_region ?_
      refine L_run (v := .bool true) (R_move rfl) rfl ?_
      refine L_nil ?_
      refine T_normal ?_
      refine hK20 _ _ ?_
      clear hK20
      refine W_cond true rfl (fun _ => ?_) (fun h => by cases h)
      refine W_seq (fun K21 hK21 => ?_)
      refine W_seq (fun K22 hK22 => ?_)
      refine W_region ?_
      refine L_run (v := .string (st s)) (R_move rfl) rfl ?_
      refine L_run (v := .int .i64 (s.length : Int)) (X_slen Tryd.underlying9 rfl) rfl ?_
      refine L_run (v := .int .i64 ((s.length : Int) - 1)) (R_sub rfl rfl (by omega) (by omega)) rfl ?_
      refine L_run (v := .int .i64 ((s.length : Int) - 1)) (R_assign rfl) rfl ?_
      refine L_nil ?_
      refine T_normal ?_
      refine hK22 _ _ ?_
      clear hK22
      refine W_block ?_
      refine W_loop (G := Int) [4, 8, 42, 43, 44, 45, 46, 47, 48, 49, 50] (fun i => [(8, .int .i64 i)]) (fun i w' => -1 ≤ i ∧ i < (s.length : Int) ∧ noSgn s (i + 1) ∧ Same All w w' ∧ Bx w' b1 113 (Lib.setCells pm)) (fun i => (i + 1).toNat) ((s.length : Int) - 1) ⟨rfl, trivial⟩ ?hj0 ?_
      case hj0 => exact ⟨by omega, by omega, noSgn_end s (by omega), (Same.after' (Same.trans (Same.trans (Same.refl All w) (Same.all hs3)) (Same.all hs4)) hs5 (by intro k hk hn; have := Same.size hs3; have := Same.size hs4; have := Same.size hs5; simp only [All, But, Lo, LoBut] at *; omega)), hB2⟩
      rintro i j1 w6 ⟨hj1, hj2, hj3, hj4, hj5⟩
      refine W_seq (fun K23 hK23 => ?_)
      refine W_seq (fun K24 hK24 => ?_)
      refine W_region ?_
      refine L_run (v := .int .i64 i) (R_move rfl) rfl ?_
      refine L_run (v := .bool (decide (0 ≤ i))) (R_geq rfl rfl) rfl ?_
      refine L_nil ?_
      refine T_normal ?_
      refine hK24 _ _ ?_
      clear hK24
      refine W_cond (decide (0 ≤ i)) rfl (fun hc6 => ?_) (fun hc6 => ?_)
      · have hc6 := of_decide_eq_true hc6
        refine W_skip ?_
        refine T_normal ?_
        refine hK23 _ _ ?_
        clear hK23
        refine W_seq (fun K25 hK25 => ?_)
        refine W_block ?_
        refine W_seq (fun K26 hK26 => ?_)
        refine W_region ?_
        refine L_run (v := .string (st s)) (R_move rfl) rfl ?_
        refine L_run (v := .int .i64 i) (R_move rfl) rfl ?_
        refine L_run (v := .int .u8 ((s.getD (Int.toNat i) 0).toNat : Int)) (X_sindex (Int.toNat i) Tryd.underlying9 rfl rfl (by omega) (by omega)) rfl ?_
        refine L_op rfl rfl ?_
        refine O_call (args := [.pointer (some ⟨b1, 0, none⟩), .int .u8 ((s.getD (Int.toNat i) 0).toNat : Int)]) en75 rfl (C_contains b1 (s.getD (Int.toNat i) 0) _ (hj5)) ?_
        rintro _ _ ⟨rfl, rfl⟩
        refine L_nil ?_
        refine T_normal ?_
        refine hK26 _ _ ?_
        clear hK26
        refine W_cond (decide (isSgn (s.getD (Int.toNat i) 0))) rfl (fun hc7 => ?_) (fun hc7 => ?_)
        · have hc7 := of_decide_eq_true hc7
          refine W_seq (fun K27 hK27 => ?_)
          refine W_region ?_
          refine L_run (v := .int .i64 i) (R_move rfl) rfl ?_
          refine L_run (v := .int .i64 i) (R_assign rfl) rfl ?_
          refine L_nil ?_
          refine T_normal ?_
          refine hK27 _ _ ?_
          clear hK27
          refine W_ret ?_
          refine B_ret ?_
          refine T_ret ?_
          refine T_ret ?_
          refine B_ret ?_
          refine T_ret ?_
          refine T_ret ?_
          refine Q_ret (v := .int .i64 i) (res1 Tryd.results37 rfl) ?_
          clear hK25 hK21 hK17
          exact ⟨_, rfl, by omega, by omega, LIA_hit hj3 (fun _ => by omega) (fun _ => hc7), (Same.trans (Same.refl All w) (Same.all hj4))⟩
        · have hc7 := of_decide_eq_false hc7
          refine W_skip ?_
          refine B_normal ?_
          refine T_normal ?_
          refine hK25 _ _ ?_
          clear hK25
          refine W_region ?_
          refine L_run (v := .int .i64 i) (R_move rfl) rfl ?_
          refine L_run (v := .int .i64 (i - 1)) (R_sub rfl rfl (by omega) (by omega)) rfl ?_
          refine L_run (v := .int .i64 (i - 1)) (R_assign rfl) rfl ?_
          refine L_nil ?_
          refine T_normal ?_
          refine At.mk (i - 1) (Agree.upd rfl (Agree.upd rfl (Agree.upd rfl (Agree.upd rfl (Agree.upd rfl (Agree.upd rfl (Agree.upd rfl (Agree.upd rfl (Agree.upd rfl (Agree.upds rfl Agree.over)))))))))) ⟨rfl, trivial⟩ ?_
          exact ⟨⟨by omega, by omega, noSgn_back hj3 (fun _ => by omega) (fun _ _ => by rw [show i - 1 + 1 = i by omega]; exact hc7), (Same.trans (Same.refl All w) (Same.all hj4)), hj5⟩, by omega⟩
      · have hc6 := of_decide_eq_false hc6
        refine W_exit ?_
        refine T_exit ?_
        refine T_exit ?_
        refine B_hit ?_
        refine T_normal ?_
        refine hK21 _ _ ?_
        clear hK21
        refine W_seq (fun K28 hK28 => ?_)
        refine W_region ?_
        refine L_run (v := .int .i64 (-1)) (R_assign rfl) rfl ?_
        refine L_nil ?_
        refine T_normal ?_
        refine hK28 _ _ ?_
        clear hK28
        refine W_ret ?_
        refine T_ret ?_
        refine Q_ret (v := .int .i64 (-1)) (res1 Tryd.results37 rfl) ?_
        clear hK23 hK17
        exact ⟨_, rfl, by omega, by omega, LIA_none hj3 (by omega), (Same.trans (Same.refl All w) (Same.all hj4))⟩
    · have hc4 := of_decide_eq_false hc4
      refine W_skip ?_
      refine T_normal ?_
      refine hK17 _ _ ?_
      clear hK17
      refine W_seq (fun K29 hK29 => ?_)
      refine W_seq (fun K30 hK30 => ?_)
      refine W_region ?_
      refine L_run (v := .string (st pm)) (R_move rfl) rfl ?_
      refine L_run (v := .int .i64 (pm.length : Int)) (X_slen Tryd.underlying9 rfl) rfl ?_
      refine L_run (v := .bool (decide ((pm.length : Int) = 1))) (R_eql rfl rfl) rfl ?_
      refine L_nil ?_
      refine T_normal ?_
      refine hK30 _ _ ?_
      clear hK30
      have hc8 : (decide ((pm.length : Int) = 1)) = false := by decide
      refine W_cond (decide ((pm.length : Int) = 1)) rfl (fun h => by rw [hc8] at h; cases h) (fun _ => ?_)
      refine W_skip ?_
      refine T_normal ?_
      refine hK29 _ _ ?_
      clear hK29
      refine W_seq (fun K31 hK31 => ?_)
      refine W_seq (fun K32 hK32 => ?_)
      refine W_region ?_
      refine L_run (v := .string (st s)) (R_move rfl) rfl ?_
      refine L_run (v := .int .i64 (s.length : Int)) (X_slen Tryd.underlying9 rfl) rfl ?_
      refine L_run (v := .int .i64 (s.length : Int)) (R_assign rfl) rfl ?_
      refine L_nil ?_
      refine T_normal ?_
      refine hK32 _ _ ?_
      clear hK32
      refine W_block ?_
      refine W_loop (G := Int) [4, 13, 14, 15, 79, 80, 81, 82, 83, 84, 85, 86, 87, 88, 89, 90, 91, 92, 93, 94, 95] (fun i => [(13, .int .i64 i)]) (fun i w' => 0 ≤ i ∧ i ≤ (s.length : Int) ∧ noSgn s i ∧ Same All w w') (fun i => i.toNat) (s.length : Int) ⟨rfl, trivial⟩ ?hj2 ?_
      case hj2 => exact ⟨by omega, by omega, noSgn_end s (by omega), (Same.refl All w)⟩
      rintro i j2 w7 ⟨hj1, hj2, hj3, hj4⟩
      have hdw : 0 < i → 1 ≤ (Lib.decodeLastL (s.take (Int.toNat i))).2 ∧ (Lib.decodeLastL (s.take (Int.toNat i))).2 ≤ Int.toNat i := fun h => by have := Lib.decodeLastL_width (s.take (Int.toNat i)) (by rw [List.length_take]; omega); rw [List.length_take] at this; omega
      have hda : asc s → 0 < i → Lib.decodeLastL (s.take (Int.toNat i)) = ((s.getD (Int.toNat i - 1) 0).toNat, 1) := fun ha h => dl_ascii (by omega) (by omega) ha
      refine W_seq (fun K33 hK33 => ?_)
      refine W_seq (fun K34 hK34 => ?_)
      refine W_region ?_
      refine L_run (v := .int .i64 i) (R_move rfl) rfl ?_
      refine L_run (v := .bool (decide (0 < i))) (R_gtr rfl rfl) rfl ?_
      refine L_nil ?_
      refine T_normal ?_
      refine hK34 _ _ ?_
      clear hK34
      refine W_cond (decide (0 < i)) rfl (fun hc12 => ?_) (fun hc12 => ?_)
      · have hc12 := of_decide_eq_true hc12
        refine W_skip ?_
        refine T_normal ?_
        refine hK33 _ _ ?_
        clear hK33
        refine W_block ?_
        refine W_seq (fun K35 hK35 => ?_)
        refine W_region ?_
        refine L_run (v := .string (st s)) (R_move rfl) rfl ?_
        refine L_run (v := .int .i64 i) (R_move rfl) rfl ?_
        refine L_run (v := .string (st (s.take (Int.toNat i)))) (X_sslice0 (Int.toNat i) rfl ⟨_, _, rfl, (by omega)⟩ (by omega) Tryd.underlying9) rfl ?_
        refine L_op rfl rfl ?_
        refine O_call (args := [.string (st (s.take (Int.toNat i)))]) en76 rfl (C_DecodeLast (s.take (Int.toNat i)) _ (by (try simp only [List.length_take]); omega) (u8_same hU (Same.trans (Same.refl All w) (Same.all hj4)))) ?_
        rintro _ w8 ⟨rfl, hs6⟩
        refine L_run (v := .tuple #[.int .i32 ((Lib.decodeLastL (s.take (Int.toNat i))).1 : Int), .int .i64 ((Lib.decodeLastL (s.take (Int.toNat i))).2 : Int)]) (R_move rfl) rfl ?_
        refine L_run (v := .int .i32 ((Lib.decodeLastL (s.take (Int.toNat i))).1 : Int)) (R_extract rfl rfl) rfl ?_
        refine L_run (v := .int .i64 ((Lib.decodeLastL (s.take (Int.toNat i))).2 : Int)) (R_extract rfl rfl) rfl ?_
        refine L_run (v := .int .i32 ((Lib.decodeLastL (s.take (Int.toNat i))).1 : Int)) (R_assign rfl) rfl ?_
        refine L_run (v := .int .i64 ((Lib.decodeLastL (s.take (Int.toNat i))).2 : Int)) (R_assign rfl) rfl ?_
        refine L_nil ?_
        refine T_normal ?_
        refine hK35 _ _ ?_
        clear hK35
        refine W_seq (fun K36 hK36 => ?_)
        refine W_region ?_
        refine L_run (v := .int .i64 i) (R_move rfl) rfl ?_
        refine L_run (v := .int .i64 ((Lib.decodeLastL (s.take (Int.toNat i))).2 : Int)) (R_move rfl) rfl ?_
        refine L_run (v := .int .i64 (i - ((Lib.decodeLastL (s.take (Int.toNat i))).2 : Int))) (R_sub rfl rfl (by omega) (by omega)) rfl ?_
        refine L_run (v := .int .i64 (i - ((Lib.decodeLastL (s.take (Int.toNat i))).2 : Int))) (R_assign rfl) rfl ?_
        refine L_nil ?_
        refine T_normal ?_
        refine hK36 _ _ ?_
        clear hK36
        refine W_seq (fun K37 hK37 => ?_)
        refine W_region ?_
        refine L_run (v := .string (st pm)) (R_move rfl) rfl ?_
        refine L_run (v := .int .i32 ((Lib.decodeLastL (s.take (Int.toNat i))).1 : Int)) (R_move rfl) rfl ?_
        refine L_op rfl rfl ?_
        refine O_call (args := [.string (st pm), .int .i32 ((Lib.decodeLastL (s.take (Int.toNat i))).1 : Int)]) en72 rfl (C_IndexRunePm ((Lib.decodeLastL (s.take (Int.toNat i))).1 : Int) _ (by omega) (by first | omega | exact Int.ofNat_le.2 (Lib.decodeLastL_rune _) | (have := byte_lt (s.getD 0 0); omega))) ?_
        rintro _ w9 ⟨k3, rfl, hir3, hs7⟩
        refine L_run (v := .bool (decide (0 ≤ k3))) (R_geq rfl rfl) rfl ?_
        refine L_nil ?_
        refine T_normal ?_
        refine hK37 _ _ ?_
        clear hK37
        refine W_cond (decide (0 ≤ k3)) rfl (fun hc13 => ?_) (fun hc13 => ?_)
        · have hc13 := of_decide_eq_true hc13
          refine W_seq (fun K38 hK38 => ?_)
          refine W_region ?_
          refine L_run (v := .int .i64 (i - ((Lib.decodeLastL (s.take (Int.toNat i))).2 : Int))) (R_move rfl) rfl ?_
          refine L_run (v := .int .i64 (i - ((Lib.decodeLastL (s.take (Int.toNat i))).2 : Int))) (R_assign rfl) rfl ?_
          refine L_nil ?_
          refine T_normal ?_
          refine hK38 _ _ ?_
          clear hK38
          refine W_ret ?_
          refine B_ret ?_
          refine T_ret ?_
          refine B_ret ?_
          refine T_ret ?_
          refine Q_ret (v := .int .i64 (i - ((Lib.decodeLastL (s.take (Int.toNat i))).2 : Int))) (res1 Tryd.results37 rfl) ?_
          clear hK31
          have hq := hdw (by omega)
          exact ⟨_, rfl, by omega, by omega, LIA_hit hj3 (fun ha => by rw [hda ha (by omega)]; rfl) (fun ha => by
            have e := hda ha (by omega)
            rw [e] at hir3 ⊢
            have h3 := hir3.2 _ rfl (asc_at ha _)
            rw [show Int.toNat (i - ((1 : Nat) : Int)) = Int.toNat i - 1 by omega]
            exact h3.1 hc13), (Same.trans (Same.trans (Same.trans (Same.refl All w) (Same.all hj4)) (Same.all hs6)) (Same.all hs7))⟩
        · have hc13 := of_decide_eq_false hc13
          refine W_skip ?_
          refine B_normal ?_
          refine T_normal ?_
          refine At.mk (i - ((Lib.decodeLastL (s.take (Int.toNat i))).2 : Int)) (Agree.upd rfl (Agree.upd rfl (Agree.upd rfl (Agree.upd rfl (Agree.upd rfl (Agree.upd rfl (Agree.upd rfl (Agree.upd rfl (Agree.upd rfl (Agree.upd rfl (Agree.upd rfl (Agree.upd rfl (Agree.upd rfl (Agree.upd rfl (Agree.upd rfl (Agree.upd rfl (Agree.upd rfl (Agree.upd rfl (Agree.upd rfl (Agree.upds rfl Agree.over)))))))))))))))))))) ⟨rfl, trivial⟩ ?_
          have hq := hdw (by omega)
          exact ⟨⟨by omega, by omega, noSgn_back hj3 (fun ha => by rw [hda ha (by omega)]; rfl) (fun ha h => by
            have e := hda ha (by omega)
            rw [e] at hir3 ⊢
            have h3 := hir3.2 _ rfl (asc_at ha _)
            rw [show Int.toNat (i - ((1 : Nat) : Int)) = Int.toNat i - 1 by omega]
            exact fun h4 => absurd (h3.2 h4) (by omega)), (Same.trans (Same.trans (Same.trans (Same.refl All w) (Same.all hj4)) (Same.all hs6)) (Same.all hs7))⟩, by omega⟩
      · have hc12 := of_decide_eq_false hc12
        refine W_exit ?_
        refine T_exit ?_
        refine T_exit ?_
        refine B_hit ?_
        refine T_normal ?_
        refine hK31 _ _ ?_
        clear hK31
        refine W_seq (fun K39 hK39 => ?_)
        refine W_region ?_
        refine L_run (v := .int .i64 (-1)) (R_assign rfl) rfl ?_
        refine L_nil ?_
        refine T_normal ?_
        refine hK39 _ _ ?_
        clear hK39
        refine W_ret ?_
        refine Q_ret (v := .int .i64 (-1)) (res1 Tryd.results37 rfl) ?_
        clear hK33
        exact ⟨_, rfl, by omega, by omega, LIA_none hj3 (by omega), (Same.trans (Same.refl All w) (Same.all hj4))⟩

end Go.Proofs.YtpfbheodbgkgmaaDoor
