/- The walks of the model SplitFields and ParseRecord. -/
import Derived.Test.YtpfbheodbgkgmaaDoorGxStr
import Derived.Test.YtpfbheodbgkgmaaDoorGxTxt
import Derived.Test.YtpfbheodbgkgmaaDoorChecked
import Derived.Test.YtpfbheodbgkgmaaDoorShelf
import Derived.Test.YtpfbheodbgkgmaaDoorTa
import Derived.Test.YtpfbheodbgkgmaaDoorTb
import Derived.Test.YtpfbheodbgkgmaaDoorRa
import Derived.Test.YtpfbheodbgkgmaaDoorGxRec
set_option linter.unusedSimpArgs false
set_option linter.unusedVariables false
namespace Go.Proofs.YtpfbheodbgkgmaaDoor
open Go Gx Go.Proofs
attribute [local irreducible] OpW wpL WC anyL Run
theorem inf36 : Inf Tryd.prog 36 1 24 (.slice none 0 0) := inf_of (by kernel_rfl)
theorem pl44 : ∀ w : World, (((#[{ name := "Meter", type := 3, offset := 0, embedded := false, tag := "", pkgPath := "", byteOffset := 0 }, { name := "At", type := 3, offset := 1, embedded := false, tag := "", pkgPath := "", byteOffset := 8 }, { name := "Re", type := 3, offset := 2, embedded := false, tag := "", pkgPath := "", byteOffset := 16 }, { name := "Im", type := 3, offset := 3, embedded := false, tag := "", pkgPath := "", byteOffset := 24 }] : Array Field).mapM fun f => do pure (f.offset, ← Go.sizeOf f.type)) : Sem (Array (Nat × Nat))).run Tryd.prog w = .ok #[(0, 1), (1, 1), (2, 1), (3, 1)] w := by intro w; kernel_rfl
theorem en48 : Enters Tryd.prog 48 := enters Tryd.func48 rfl (by kernel_rfl)
theorem en49 : Enters Tryd.prog 49 := enters Tryd.func49 rfl (by kernel_rfl)
theorem en50 : Enters Tryd.prog 50 := enters Tryd.func50 rfl (by kernel_rfl)
theorem C_SplitFields (s : List UInt8) (w : World) :
    Ret Tryd.prog 48 #[.string (st s)] w (fun v w' => ∃ (a : Option Addr) (cp : Nat) (out : List (List UInt8)) (ok : Bool), v = .tuple #[.slice a out.length cp, .bool ok] ∧ (Rd stE All w' a out) ∧ (SF s out ok) ∧ Same All w w') := by
  refine ret_of (args := [.string (st s)]) Tryd.func48 rfl 62 Tryd.ntmps48 rfl ?_
  refine W_seq (fun K1 hK1 => ?_)
  refine W_region ?_
  refine L_run (v := .slice none 0 0) (R_assign rfl) rfl ?_
  refine L_run (v := .bool false) (R_assign rfl) rfl ?_
  refine L_nil ?_
  refine T_normal ?_
  refine hK1 _ _ ?_
  clear hK1
  refine W_seq (fun K2 hK2 => ?_)
  refine W_region ?_
  refine L_op rfl rfl ?_
  refine X_buildSlice [] [] #[] Tryd.underlying36 inf9 rfl rfl rfl rfl rfl rfl ?_
  intro b1 w1 hB1g hB1l hs1 hB1
  refine L_run (v := .slice (some ⟨b1, 0, none⟩) 0 0) (R_assign rfl) rfl ?_
  refine L_nil ?_
  refine T_normal ?_
  refine hK2 _ _ ?_
  clear hK2
  refine W_seq (fun K3 hK3 => ?_)
  refine W_seq (fun K4 hK4 => ?_)
  refine W_region ?_
  refine L_run (v := .string (st s)) (R_move rfl) rfl ?_
  refine L_run (v := .int .i64 (s.length : Int)) (X_slen Tryd.underlying9 rfl) rfl ?_
  refine L_run (v := .bool (decide (600 < (s.length : Int)))) (R_gtr rfl rfl) rfl ?_
  refine L_nil ?_
  refine T_normal ?_
  refine hK4 _ _ ?_
  clear hK4
  refine W_cond (decide (600 < (s.length : Int))) rfl (fun hc0 => ?_) (fun hc0 => ?_)
  · have hc0 := of_decide_eq_true hc0
    refine W_seq (fun K5 hK5 => ?_)
    refine W_region ?_
    refine L_run (v := .slice (some ⟨b1, 0, none⟩) 0 0) (R_move rfl) rfl ?_
    refine L_run (v := .slice (some ⟨b1, 0, none⟩) 0 0) (R_assign rfl) rfl ?_
    refine L_run (v := .bool false) (R_assign rfl) rfl ?_
    refine L_nil ?_
    refine T_normal ?_
    refine hK5 _ _ ?_
    clear hK5
    refine W_ret ?_
    refine T_ret ?_
    refine Q_ret (v := .tuple #[.slice (some ⟨b1, 0, none⟩) 0 0, .bool false]) (res2 Tryd.results48 rfl rfl) ?_
    clear hK3
    exact ⟨_, _, [], false, rfl, Rd.nil _ _ _ _, ⟨(fun h => nomatch h), fun _ => .inl (by omega)⟩, (Same.trans (Same.refl All w) (Same.all hs1))⟩
  · have hc0 := of_decide_eq_false hc0
    refine W_skip ?_
    refine T_normal ?_
    refine hK3 _ _ ?_
    clear hK3
    refine W_seq (fun K6 hK6 => ?_)
    refine W_region ?_
    refine L_run (v := .int .i64 0) (R_assign rfl) rfl ?_
    refine L_nil ?_
    refine T_normal ?_
    refine hK6 _ _ ?_
    clear hK6
    refine W_seq (fun K7 hK7 => ?_)
    refine W_seq (fun K8 hK8 => ?_)
    refine W_region ?_
    refine L_run (v := .int .i64 0) (R_assign rfl) rfl ?_
    refine L_nil ?_
    refine T_normal ?_
    refine hK8 _ _ ?_
    clear hK8
    refine W_block ?_
    refine W_loop (G := Nat × Nat × Option Addr × Nat × List (List UInt8)) [2, 3, 4, 5, 6, 12, 13, 14, 15, 16, 17, 18, 19, 20, 21, 22, 23, 24, 25, 26, 27, 28, 29, 30, 31, 32, 33, 34, 35, 36, 37, 38, 39, 40, 41, 42, 43, 44, 45, 46, 47, 48, 49, 50, 51, 52, 53, 54, 55, 56] (fun (bg, i, a, c, out) => [(5, .int .i64 (bg : Int)), (6, .int .i64 (i : Int)), (4, .slice a out.length c)]) (fun (bg, i, a, c, out) w' => bg ≤ i ∧ i ≤ s.length + 1 ∧ out.length ≤ i ∧ CW s bg i out ∧ Same All w w' ∧ Ow stE 9 w.heap.size w' a c out) (fun (bg, i, a, c, out) => s.length + 1 - i) (0, 0, some ⟨b1, 0, none⟩, 0, []) ⟨rfl, rfl, rfl, trivial⟩ ?hj0 ?_
    case hj0 => exact ⟨Nat.le_refl _, by omega, by simp, cw0 s, (Same.trans (Same.refl All w) (Same.all hs1)), Ow.made (E := stE) (l := []) hB1 hB1g (by decide)⟩
    rintro ⟨bg, i, a, c, out⟩ j1 w2 ⟨hj1, hj2, hj3, hj4, hj5, hj6⟩
    have hz5 := Same.size hj5
    refine W_seq (fun K9 hK9 => ?_)
    refine W_seq (fun K10 hK10 => ?_)
    refine W_region ?_
    refine L_run (v := .int .i64 (i : Int)) (R_move rfl) rfl ?_
    refine L_run (v := .string (st s)) (R_move rfl) rfl ?_
    refine L_run (v := .int .i64 (s.length : Int)) (X_slen Tryd.underlying9 rfl) rfl ?_
    refine L_run (v := .bool (decide ((i : Int) ≤ (s.length : Int)))) (R_leq rfl rfl) rfl ?_
    refine L_nil ?_
    refine T_normal ?_
    refine hK10 _ _ ?_
    clear hK10
    refine W_cond (decide ((i : Int) ≤ (s.length : Int))) rfl (fun hc1 => ?_) (fun hc1 => ?_)
    · have hc1 := of_decide_eq_true hc1
      refine W_skip ?_
      refine T_normal ?_
      refine hK9 _ _ ?_
      clear hK9
      refine W_seq (fun K11 hK11 => ?_)
      refine W_block ?_
      refine W_seq (fun K12 hK12 => ?_)
      refine W_seq (fun K13 hK13 => ?_)
      refine W_region ?_
      refine L_run (v := .int .i64 (i : Int)) (R_move rfl) rfl ?_
      refine L_run (v := .string (st s)) (R_move rfl) rfl ?_
      refine L_run (v := .int .i64 (s.length : Int)) (X_slen Tryd.underlying9 rfl) rfl ?_
      refine L_run (v := .bool (decide ((i : Int) < (s.length : Int)))) (R_lss rfl rfl) rfl ?_
      refine L_run (v := .bool (decide ((i : Int) < (s.length : Int)))) (R_move rfl) rfl ?_
      rcases Bool.eq_false_or_eq_true (decide ((i : Int) < (s.length : Int))) with hg1 | hg1
      · have hg1p := of_decide_eq_true hg1
        try rw [hg1]
        refine L_yesrun (e := 22) (v := .string (st s)) rfl rfl rfl (R_move rfl) rfl ?_
        refine L_yesrun (e := 22) (v := .int .i64 (i : Int)) rfl rfl rfl (R_move rfl) rfl ?_
        refine L_yesrun (e := 22) (v := .int .u8 ((s.getD i 0).toNat : Int)) rfl rfl rfl (X_sindex i Tryd.underlying9 rfl rfl rfl (by omega)) rfl ?_
        refine L_yesrun (e := 22) (v := .bool (decide (((s.getD i 0).toNat : Int) < 32))) rfl rfl rfl (R_lss rfl rfl) rfl ?_
        refine L_yesrun (e := 22) (v := .bool (decide (((s.getD i 0).toNat : Int) < 32))) rfl rfl rfl (R_move rfl) rfl ?_
        rcases Bool.eq_false_or_eq_true (decide (((s.getD i 0).toNat : Int) < 32)) with hg2 | hg2
        · have hg2p := of_decide_eq_true hg2
          try rw [hg2]
          refine L_no (e := 27) rfl rfl rfl rfl ?_
          refine L_no (e := 27) rfl rfl rfl rfl ?_
          refine L_no (e := 27) rfl rfl rfl rfl ?_
          refine L_no (e := 27) rfl rfl rfl rfl ?_
          refine L_yesrun (e := 22) (v := .bool true) rfl rfl rfl (R_pick_t rfl rfl) rfl ?_
          refine L_run (v := .bool true) (R_pick_t rfl rfl) rfl ?_
          refine L_nil ?_
          refine T_normal ?_
          refine hK13 _ _ ?_
          clear hK13
          refine W_cond true rfl (fun _ => ?_) (fun h => by cases h)
          refine W_seq (fun K14 hK14 => ?_)
          refine W_region ?_
          refine L_op rfl rfl ?_
          refine X_buildSlice [] [] #[] Tryd.underlying36 inf9 rfl rfl rfl rfl rfl rfl ?_
          intro b2 w3 hB2g hB2l hs2 hB2
          refine L_run (v := .slice (some ⟨b2, 0, none⟩) 0 0) (R_assign rfl) rfl ?_
          refine L_run (v := .bool false) (R_assign rfl) rfl ?_
          refine L_nil ?_
          refine T_normal ?_
          refine hK14 _ _ ?_
          clear hK14
          refine W_ret ?_
          refine T_ret ?_
          refine B_ret ?_
          refine T_ret ?_
          refine T_ret ?_
          refine B_ret ?_
          refine T_ret ?_
          refine Q_ret (v := .tuple #[.slice (some ⟨b2, 0, none⟩) 0 0, .bool false]) (res2 Tryd.results48 rfl rfl) ?_
          clear hK12 hK11 hK7
          exact ⟨_, _, [], false, rfl, Rd.nil _ _ _ _, ⟨(fun h => nomatch h), fun _ => .inr (.inl ⟨_, getD_mem (show i < s.length by omega), .inl (by omega)⟩)⟩, (Same.trans (Same.trans (Same.refl All w) (Same.all hj5)) (Same.all hs2))⟩
        · have hg2p := of_decide_eq_false hg2
          try rw [hg2]
          refine L_yesrun (e := 27) (v := .string (st s)) rfl rfl rfl (R_move rfl) rfl ?_
          refine L_yesrun (e := 27) (v := .int .i64 (i : Int)) rfl rfl rfl (R_move rfl) rfl ?_
          refine L_yesrun (e := 27) (v := .int .u8 ((s.getD i 0).toNat : Int)) rfl rfl rfl (X_sindex i Tryd.underlying9 rfl rfl rfl (by omega)) rfl ?_
          refine L_yesrun (e := 27) (v := .bool (decide (126 < ((s.getD i 0).toNat : Int)))) rfl rfl rfl (R_gtr rfl rfl) rfl ?_
          refine L_yesrun (e := 22) (v := .bool (decide (126 < ((s.getD i 0).toNat : Int)))) rfl rfl rfl (R_pick_f rfl rfl) rfl ?_
          refine L_run (v := .bool (decide (126 < ((s.getD i 0).toNat : Int)))) (R_pick_t rfl rfl) rfl ?_
          refine L_nil ?_
          refine T_normal ?_
          refine hK13 _ _ ?_
          clear hK13
          refine W_cond (decide (126 < ((s.getD i 0).toNat : Int))) rfl (fun hc2 => ?_) (fun hc2 => ?_)
          · have hc2 := of_decide_eq_true hc2
            refine W_seq (fun K15 hK15 => ?_)
            refine W_region ?_
            refine L_op rfl rfl ?_
            refine X_buildSlice [] [] #[] Tryd.underlying36 inf9 rfl rfl rfl rfl rfl rfl ?_
            intro b3 w4 hB3g hB3l hs3 hB3
            refine L_run (v := .slice (some ⟨b3, 0, none⟩) 0 0) (R_assign rfl) rfl ?_
            refine L_run (v := .bool false) (R_assign rfl) rfl ?_
            refine L_nil ?_
            refine T_normal ?_
            refine hK15 _ _ ?_
            clear hK15
            refine W_ret ?_
            refine T_ret ?_
            refine B_ret ?_
            refine T_ret ?_
            refine T_ret ?_
            refine B_ret ?_
            refine T_ret ?_
            refine Q_ret (v := .tuple #[.slice (some ⟨b3, 0, none⟩) 0 0, .bool false]) (res2 Tryd.results48 rfl rfl) ?_
            clear hK12 hK11 hK7
            exact ⟨_, _, [], false, rfl, Rd.nil _ _ _ _, ⟨(fun h => nomatch h), fun _ => .inr (.inl ⟨_, getD_mem (show i < s.length by omega), .inr (by omega)⟩)⟩, (Same.trans (Same.trans (Same.refl All w) (Same.all hj5)) (Same.all hs3))⟩
          · have hc2 := of_decide_eq_false hc2
            refine W_skip ?_
            refine T_normal ?_
            refine hK12 _ _ ?_
            clear hK12
            refine W_seq (fun K16 hK16 => ?_)
            refine W_seq (fun K17 hK17 => ?_)
            refine W_region ?_
            refine L_run (v := .int .i64 (i : Int)) (R_move rfl) rfl ?_
            refine L_run (v := .string (st s)) (R_move rfl) rfl ?_
            refine L_run (v := .int .i64 (s.length : Int)) (X_slen Tryd.underlying9 rfl) rfl ?_
            refine L_run (v := .bool (decide ((i : Int) < (s.length : Int)))) (R_lss rfl rfl) rfl ?_
            refine L_run (v := .bool (decide ((i : Int) < (s.length : Int)))) (R_move rfl) rfl ?_
            rcases Bool.eq_false_or_eq_true (decide ((i : Int) < (s.length : Int))) with hg3 | hg3
            · have hg3p := of_decide_eq_true hg3
              try rw [hg3]
              refine L_yesrun (e := 39) (v := .string (st s)) rfl rfl rfl (R_move rfl) rfl ?_
              refine L_yesrun (e := 39) (v := .int .i64 (i : Int)) rfl rfl rfl (R_move rfl) rfl ?_
              refine L_yesrun (e := 39) (v := .int .u8 ((s.getD i 0).toNat : Int)) rfl rfl rfl (X_sindex i Tryd.underlying9 rfl rfl rfl (by omega)) rfl ?_
              refine L_yesrun (e := 39) (v := .bool (!decide (((s.getD i 0).toNat : Int) = 32))) rfl rfl rfl (R_neq rfl rfl) rfl ?_
              refine L_run (v := .bool (!decide (((s.getD i 0).toNat : Int) = 32))) (R_pick_t rfl rfl) rfl ?_
              refine L_nil ?_
              refine T_normal ?_
              refine hK17 _ _ ?_
              clear hK17
              refine W_cond (!decide (((s.getD i 0).toNat : Int) = 32)) rfl (fun hc3 => ?_) (fun hc3 => ?_)
              · have hc3 := not_t hc3
                refine W_exit ?_
                refine T_exit ?_
                refine B_hit ?_
                refine T_normal ?_
                refine hK11 _ _ ?_
                clear hK11
                refine W_region ?_
                refine L_run (v := .int .i64 (i : Int)) (R_move rfl) rfl ?_
                refine L_run (v := .int .i64 ((i : Int) + 1)) (R_add rfl rfl (by omega) (by omega)) rfl ?_
                refine L_run (v := .int .i64 ((i : Int) + 1)) (R_assign rfl) rfl ?_
                refine L_nil ?_
                refine T_normal ?_
                refine At.mk (bg, i + 1, a, c, out) (Agree.upd rfl (Agree.upd rfl (Agree.upd rfl (Agree.upd rfl (Agree.upd rfl (Agree.upd rfl (Agree.upd rfl (Agree.upd rfl (Agree.upd rfl (Agree.upd rfl (Agree.upd rfl (Agree.upd rfl (Agree.upd rfl (Agree.upd rfl (Agree.upd rfl (Agree.upd rfl (Agree.upd rfl (Agree.upd rfl (Agree.upd rfl (Agree.upd rfl (Agree.upd rfl (Agree.upd rfl (Agree.upd rfl (Agree.upd rfl (Agree.upd rfl (Agree.upd rfl (Agree.upd rfl (Agree.upd rfl (Agree.upd rfl (Agree.upd rfl (Agree.upd rfl (Agree.upd rfl (Agree.upd rfl (Agree.upds rfl Agree.over)))))))))))))))))))))))))))))))))) ⟨rfl, rfl, rfl, trivial⟩ ?_
                exact ⟨⟨by omega, by omega, by omega, cw_cont hj4 (by omega) hj1 (by assumption), (Same.trans (Same.refl All w) (Same.all hj5)), hj6⟩, by dsimp only; omega⟩
              · have hc3 := not_f hc3
                refine W_skip ?_
                refine T_normal ?_
                refine hK16 _ _ ?_
                clear hK16
                refine W_seq (fun K18 hK18 => ?_)
                refine W_seq (fun K19 hK19 => ?_)
                refine W_region ?_
                refine L_run (v := .int .i64 (bg : Int)) (R_move rfl) rfl ?_
                refine L_run (v := .int .i64 (i : Int)) (R_move rfl) rfl ?_
                refine L_run (v := .bool (decide ((bg : Int) < (i : Int)))) (R_lss rfl rfl) rfl ?_
                refine L_nil ?_
                refine T_normal ?_
                refine hK19 _ _ ?_
                clear hK19
                refine W_cond (decide ((bg : Int) < (i : Int))) rfl (fun hc4 => ?_) (fun hc4 => ?_)
                · have hc4 := of_decide_eq_true hc4
                  refine W_region ?_
                  refine L_run (v := .slice a out.length c) (R_move rfl) rfl ?_
                  refine L_run (v := .string (st s)) (R_move rfl) rfl ?_
                  refine L_run (v := .int .i64 (bg : Int)) (R_move rfl) rfl ?_
                  refine L_run (v := .int .i64 (i : Int)) (R_move rfl) rfl ?_
                  refine L_run (v := .string (st ((s.take i).drop bg))) (X_sslice bg i rfl ⟨_, _, rfl, rfl⟩ ⟨_, _, rfl, rfl⟩ (by omega) (by omega) Tryd.underlying9) rfl ?_
                  refine L_op rfl rfl ?_
                  refine X_buildSlice [.tmp 52] [.string (st ((s.take i).drop bg))] #[.string (st ((s.take i).drop bg))] Tryd.underlying36 inf9 rfl rfl rfl rfl rfl rfl ?_
                  intro b4 w5 hB4g hB4l hs4 hB4
                  refine L_op rfl rfl ?_
                  have h1 := Ow.same hj6 hs4 (fun _ _ => trivial)
                  refine X_append1 (E := stE) (l := out) ((s.take i).drop bg) rfl rfl h1 hB4 rfl Tryd.underlying36 inf9 rfl rfl (by decide) (by omega) (by omega) ?_
                  intro a1 c1 w6 hs5 hO1
                  refine L_run (v := .slice a1 ((out ++ [(s.take i).drop bg]).length) c1) (R_assign rfl) rfl ?_
                  refine L_nil ?_
                  refine T_normal ?_
                  refine hK18 _ _ ?_
                  clear hK18
                  refine W_region ?_
                  refine L_run (v := .int .i64 (i : Int)) (R_move rfl) rfl ?_
                  refine L_run (v := .int .i64 ((i : Int) + 1)) (R_add rfl rfl (by omega) (by omega)) rfl ?_
                  refine L_run (v := .int .i64 ((i : Int) + 1)) (R_assign rfl) rfl ?_
                  refine L_nil ?_
                  refine B_normal ?_
                  refine T_normal ?_
                  refine hK11 _ _ ?_
                  clear hK11
                  refine W_region ?_
                  refine L_run (v := .int .i64 (i : Int)) (R_move rfl) rfl ?_
                  refine L_run (v := .int .i64 ((i : Int) + 1)) (R_add rfl rfl (by omega) (by omega)) rfl ?_
                  refine L_run (v := .int .i64 ((i : Int) + 1)) (R_assign rfl) rfl ?_
                  refine L_nil ?_
                  refine T_normal ?_
                  refine At.mk (i + 1, i + 1, a1, c1, out ++ [(s.take i).drop bg]) (Agree.upd rfl (Agree.upd rfl (Agree.upd rfl (Agree.upd rfl (Agree.upd rfl (Agree.upd rfl (Agree.upd rfl (Agree.upd rfl (Agree.upd rfl (Agree.upd rfl (Agree.upd rfl (Agree.upd rfl (Agree.upd rfl (Agree.upd rfl (Agree.upd rfl (Agree.upd rfl (Agree.upd rfl (Agree.upd rfl (Agree.upd rfl (Agree.upd rfl (Agree.upd rfl (Agree.upd rfl (Agree.upd rfl (Agree.upd rfl (Agree.upd rfl (Agree.upd rfl (Agree.upd rfl (Agree.upd rfl (Agree.upd rfl (Agree.upd rfl (Agree.upd rfl (Agree.upd rfl (Agree.upd rfl (Agree.upd rfl (Agree.upd rfl (Agree.upd rfl (Agree.upd rfl (Agree.upd rfl (Agree.upd rfl (Agree.upd rfl (Agree.upd rfl (Agree.upd rfl (Agree.upd rfl (Agree.upd rfl (Agree.upd rfl (Agree.upd rfl (Agree.upd rfl (Agree.upds rfl Agree.over)))))))))))))))))))))))))))))))))))))))))))))))) ⟨rfl, rfl, rfl, trivial⟩ ?_
                  exact ⟨⟨by omega, by omega, by rw [List.length_append]; simp only [List.length_cons, List.length_nil]; omega, cw_cut hj4 (by omega) hj1 (by first | (intro _; omega) | (intro h; omega) | (intro _; assumption)) ⟨fun _ => rfl, fun h => by omega⟩, (Same.after' (Same.trans (Same.trans (Same.refl All w) (Same.all hj5)) (Same.all hs4)) hs5 (by intro k hk hn; have := Same.size hs1; have := Same.size hj5; have := Same.size hs4; have := Same.size hs5; intro e; have := Ow.lt h1 _ e.symm; simp only [All, But, Lo, LoBut] at *; omega)), hO1⟩, by dsimp only; omega⟩
                · have hc4 := of_decide_eq_false hc4
                  refine W_skip ?_
                  refine T_normal ?_
                  refine hK18 _ _ ?_
                  clear hK18
                  refine W_region ?_
                  refine L_run (v := .int .i64 (i : Int)) (R_move rfl) rfl ?_
                  refine L_run (v := .int .i64 ((i : Int) + 1)) (R_add rfl rfl (by omega) (by omega)) rfl ?_
                  refine L_run (v := .int .i64 ((i : Int) + 1)) (R_assign rfl) rfl ?_
                  refine L_nil ?_
                  refine B_normal ?_
                  refine T_normal ?_
                  refine hK11 _ _ ?_
                  clear hK11
                  refine W_region ?_
                  refine L_run (v := .int .i64 (i : Int)) (R_move rfl) rfl ?_
                  refine L_run (v := .int .i64 ((i : Int) + 1)) (R_add rfl rfl (by omega) (by omega)) rfl ?_
                  refine L_run (v := .int .i64 ((i : Int) + 1)) (R_assign rfl) rfl ?_
                  refine L_nil ?_
                  refine T_normal ?_
                  refine At.mk (i + 1, i + 1, a, c, out) (Agree.upd rfl (Agree.upd rfl (Agree.upd rfl (Agree.upd rfl (Agree.upd rfl (Agree.upd rfl (Agree.upd rfl (Agree.upd rfl (Agree.upd rfl (Agree.upd rfl (Agree.upd rfl (Agree.upd rfl (Agree.upd rfl (Agree.upd rfl (Agree.upd rfl (Agree.upd rfl (Agree.upd rfl (Agree.upd rfl (Agree.upd rfl (Agree.upd rfl (Agree.upd rfl (Agree.upd rfl (Agree.upd rfl (Agree.upd rfl (Agree.upd rfl (Agree.upd rfl (Agree.upd rfl (Agree.upd rfl (Agree.upd rfl (Agree.upd rfl (Agree.upd rfl (Agree.upd rfl (Agree.upd rfl (Agree.upd rfl (Agree.upd rfl (Agree.upd rfl (Agree.upd rfl (Agree.upd rfl (Agree.upd rfl (Agree.upds rfl Agree.over)))))))))))))))))))))))))))))))))))))))) ⟨rfl, rfl, rfl, trivial⟩ ?_
                  exact ⟨⟨by omega, by omega, by omega, cw_cut hj4 (by omega) hj1 (by first | (intro _; omega) | (intro h; omega) | (intro _; assumption)) ⟨fun h => by omega, fun _ => rfl⟩, (Same.trans (Same.refl All w) (Same.all hj5)), hj6⟩, by dsimp only; omega⟩
            · have hg3p := of_decide_eq_false hg3
              try rw [hg3]
              refine L_no (e := 39) rfl rfl rfl rfl ?_
              refine L_no (e := 39) rfl rfl rfl rfl ?_
              refine L_no (e := 39) rfl rfl rfl rfl ?_
              refine L_no (e := 39) rfl rfl rfl rfl ?_
              refine L_run (v := .bool false) (R_pick_f rfl rfl) rfl ?_
              refine L_nil ?_
              refine T_normal ?_
              refine hK17 _ _ ?_
              clear hK17
              refine W_cond false rfl (fun h => by cases h) (fun _ => ?_)
              refine W_skip ?_
              refine T_normal ?_
              refine hK16 _ _ ?_
              clear hK16
              refine W_seq (fun K20 hK20 => ?_)
              refine W_seq (fun K21 hK21 => ?_)
              refine W_region ?_
              refine L_run (v := .int .i64 (bg : Int)) (R_move rfl) rfl ?_
              refine L_run (v := .int .i64 (i : Int)) (R_move rfl) rfl ?_
              refine L_run (v := .bool (decide ((bg : Int) < (i : Int)))) (R_lss rfl rfl) rfl ?_
              refine L_nil ?_
              refine T_normal ?_
              refine hK21 _ _ ?_
              clear hK21
              refine W_cond (decide ((bg : Int) < (i : Int))) rfl (fun hc4 => ?_) (fun hc4 => ?_)
              · have hc4 := of_decide_eq_true hc4
                refine W_region ?_
                refine L_run (v := .slice a out.length c) (R_move rfl) rfl ?_
                refine L_run (v := .string (st s)) (R_move rfl) rfl ?_
                refine L_run (v := .int .i64 (bg : Int)) (R_move rfl) rfl ?_
                refine L_run (v := .int .i64 (i : Int)) (R_move rfl) rfl ?_
                refine L_run (v := .string (st ((s.take i).drop bg))) (X_sslice bg i rfl ⟨_, _, rfl, rfl⟩ ⟨_, _, rfl, rfl⟩ (by omega) (by omega) Tryd.underlying9) rfl ?_
                refine L_op rfl rfl ?_
                refine X_buildSlice [.tmp 52] [.string (st ((s.take i).drop bg))] #[.string (st ((s.take i).drop bg))] Tryd.underlying36 inf9 rfl rfl rfl rfl rfl rfl ?_
                intro b5 w7 hB5g hB5l hs6 hB5
                refine L_op rfl rfl ?_
                have h2 := Ow.same hj6 hs6 (fun _ _ => trivial)
                refine X_append1 (E := stE) (l := out) ((s.take i).drop bg) rfl rfl h2 hB5 rfl Tryd.underlying36 inf9 rfl rfl (by decide) (by omega) (by omega) ?_
                intro a2 c2 w8 hs7 hO2
                refine L_run (v := .slice a2 ((out ++ [(s.take i).drop bg]).length) c2) (R_assign rfl) rfl ?_
                refine L_nil ?_
                refine T_normal ?_
                refine hK20 _ _ ?_
                clear hK20
                refine W_region ?_
                refine L_run (v := .int .i64 (i : Int)) (R_move rfl) rfl ?_
                refine L_run (v := .int .i64 ((i : Int) + 1)) (R_add rfl rfl (by omega) (by omega)) rfl ?_
                refine L_run (v := .int .i64 ((i : Int) + 1)) (R_assign rfl) rfl ?_
                refine L_nil ?_
                refine B_normal ?_
                refine T_normal ?_
                refine hK11 _ _ ?_
                clear hK11
                refine W_region ?_
                refine L_run (v := .int .i64 (i : Int)) (R_move rfl) rfl ?_
                refine L_run (v := .int .i64 ((i : Int) + 1)) (R_add rfl rfl (by omega) (by omega)) rfl ?_
                refine L_run (v := .int .i64 ((i : Int) + 1)) (R_assign rfl) rfl ?_
                refine L_nil ?_
                refine T_normal ?_
                refine At.mk (i + 1, i + 1, a2, c2, out ++ [(s.take i).drop bg]) (Agree.upd rfl (Agree.upd rfl (Agree.upd rfl (Agree.upd rfl (Agree.upd rfl (Agree.upd rfl (Agree.upd rfl (Agree.upd rfl (Agree.upd rfl (Agree.upd rfl (Agree.upd rfl (Agree.upd rfl (Agree.upd rfl (Agree.upd rfl (Agree.upd rfl (Agree.upd rfl (Agree.upd rfl (Agree.upd rfl (Agree.upd rfl (Agree.upd rfl (Agree.upd rfl (Agree.upd rfl (Agree.upd rfl (Agree.upd rfl (Agree.upd rfl (Agree.upd rfl (Agree.upd rfl (Agree.upd rfl (Agree.upd rfl (Agree.upd rfl (Agree.upd rfl (Agree.upd rfl (Agree.upd rfl (Agree.upd rfl (Agree.upd rfl (Agree.upd rfl (Agree.upd rfl (Agree.upd rfl (Agree.upd rfl (Agree.upd rfl (Agree.upd rfl (Agree.upd rfl (Agree.upd rfl (Agree.upd rfl (Agree.upd rfl (Agree.upd rfl (Agree.upd rfl (Agree.upds rfl Agree.over)))))))))))))))))))))))))))))))))))))))))))))))) ⟨rfl, rfl, rfl, trivial⟩ ?_
                exact ⟨⟨by omega, by omega, by rw [List.length_append]; simp only [List.length_cons, List.length_nil]; omega, cw_cut hj4 (by omega) hj1 (by first | (intro _; omega) | (intro h; omega) | (intro _; assumption)) ⟨fun _ => rfl, fun h => by omega⟩, (Same.after' (Same.trans (Same.trans (Same.refl All w) (Same.all hj5)) (Same.all hs6)) hs7 (by intro k hk hn; have := Same.size hs1; have := Same.size hj5; have := Same.size hs6; have := Same.size hs7; intro e; have := Ow.lt h2 _ e.symm; simp only [All, But, Lo, LoBut] at *; omega)), hO2⟩, by dsimp only; omega⟩
              · have hc4 := of_decide_eq_false hc4
                refine W_skip ?_
                refine T_normal ?_
                refine hK20 _ _ ?_
                clear hK20
                refine W_region ?_
                refine L_run (v := .int .i64 (i : Int)) (R_move rfl) rfl ?_
                refine L_run (v := .int .i64 ((i : Int) + 1)) (R_add rfl rfl (by omega) (by omega)) rfl ?_
                refine L_run (v := .int .i64 ((i : Int) + 1)) (R_assign rfl) rfl ?_
                refine L_nil ?_
                refine B_normal ?_
                refine T_normal ?_
                refine hK11 _ _ ?_
                clear hK11
                refine W_region ?_
                refine L_run (v := .int .i64 (i : Int)) (R_move rfl) rfl ?_
                refine L_run (v := .int .i64 ((i : Int) + 1)) (R_add rfl rfl (by omega) (by omega)) rfl ?_
                refine L_run (v := .int .i64 ((i : Int) + 1)) (R_assign rfl) rfl ?_
                refine L_nil ?_
                refine T_normal ?_
                refine At.mk (i + 1, i + 1, a, c, out) (Agree.upd rfl (Agree.upd rfl (Agree.upd rfl (Agree.upd rfl (Agree.upd rfl (Agree.upd rfl (Agree.upd rfl (Agree.upd rfl (Agree.upd rfl (Agree.upd rfl (Agree.upd rfl (Agree.upd rfl (Agree.upd rfl (Agree.upd rfl (Agree.upd rfl (Agree.upd rfl (Agree.upd rfl (Agree.upd rfl (Agree.upd rfl (Agree.upd rfl (Agree.upd rfl (Agree.upd rfl (Agree.upd rfl (Agree.upd rfl (Agree.upd rfl (Agree.upd rfl (Agree.upd rfl (Agree.upd rfl (Agree.upd rfl (Agree.upd rfl (Agree.upd rfl (Agree.upd rfl (Agree.upd rfl (Agree.upd rfl (Agree.upd rfl (Agree.upd rfl (Agree.upd rfl (Agree.upd rfl (Agree.upd rfl (Agree.upds rfl Agree.over)))))))))))))))))))))))))))))))))))))))) ⟨rfl, rfl, rfl, trivial⟩ ?_
                exact ⟨⟨by omega, by omega, by omega, cw_cut hj4 (by omega) hj1 (by first | (intro _; omega) | (intro h; omega) | (intro _; assumption)) ⟨fun h => by omega, fun _ => rfl⟩, (Same.trans (Same.refl All w) (Same.all hj5)), hj6⟩, by dsimp only; omega⟩
      · have hg1p := of_decide_eq_false hg1
        try rw [hg1]
        refine L_no (e := 22) rfl rfl rfl rfl ?_
        refine L_no (e := 22) rfl rfl rfl rfl ?_
        refine L_no (e := 22) rfl rfl rfl rfl ?_
        refine L_no (e := 22) rfl rfl rfl rfl ?_
        refine L_no (e := 22) rfl rfl rfl rfl ?_
        refine L_nou (e := 27) rfl rfl rfl rfl ?_
        refine L_nou (e := 27) rfl rfl rfl rfl ?_
        refine L_nou (e := 27) rfl rfl rfl rfl ?_
        refine L_nou (e := 27) rfl rfl rfl rfl ?_
        refine L_no (e := 22) rfl rfl rfl rfl ?_
        refine L_run (v := .bool false) (R_pick_f rfl rfl) rfl ?_
        refine L_nil ?_
        refine T_normal ?_
        refine hK13 _ _ ?_
        clear hK13
        refine W_cond false rfl (fun h => by cases h) (fun _ => ?_)
        refine W_skip ?_
        refine T_normal ?_
        refine hK12 _ _ ?_
        clear hK12
        refine W_seq (fun K22 hK22 => ?_)
        refine W_seq (fun K23 hK23 => ?_)
        refine W_region ?_
        refine L_run (v := .int .i64 (i : Int)) (R_move rfl) rfl ?_
        refine L_run (v := .string (st s)) (R_move rfl) rfl ?_
        refine L_run (v := .int .i64 (s.length : Int)) (X_slen Tryd.underlying9 rfl) rfl ?_
        refine L_run (v := .bool (decide ((i : Int) < (s.length : Int)))) (R_lss rfl rfl) rfl ?_
        refine L_run (v := .bool (decide ((i : Int) < (s.length : Int)))) (R_move rfl) rfl ?_
        rcases Bool.eq_false_or_eq_true (decide ((i : Int) < (s.length : Int))) with hg4 | hg4
        · have hg4p := of_decide_eq_true hg4
          try rw [hg4]
          refine L_yesrun (e := 39) (v := .string (st s)) rfl rfl rfl (R_move rfl) rfl ?_
          refine L_yesrun (e := 39) (v := .int .i64 (i : Int)) rfl rfl rfl (R_move rfl) rfl ?_
          refine L_yesrun (e := 39) (v := .int .u8 ((s.getD i 0).toNat : Int)) rfl rfl rfl (X_sindex i Tryd.underlying9 rfl rfl rfl (by omega)) rfl ?_
          refine L_yesrun (e := 39) (v := .bool (!decide (((s.getD i 0).toNat : Int) = 32))) rfl rfl rfl (R_neq rfl rfl) rfl ?_
          refine L_run (v := .bool (!decide (((s.getD i 0).toNat : Int) = 32))) (R_pick_t rfl rfl) rfl ?_
          refine L_nil ?_
          refine T_normal ?_
          refine hK23 _ _ ?_
          clear hK23
          refine W_cond (!decide (((s.getD i 0).toNat : Int) = 32)) rfl (fun hc3 => ?_) (fun hc3 => ?_)
          · have hc3 := not_t hc3
            refine W_exit ?_
            refine T_exit ?_
            refine B_hit ?_
            refine T_normal ?_
            refine hK11 _ _ ?_
            clear hK11
            refine W_region ?_
            refine L_run (v := .int .i64 (i : Int)) (R_move rfl) rfl ?_
            refine L_run (v := .int .i64 ((i : Int) + 1)) (R_add rfl rfl (by omega) (by omega)) rfl ?_
            refine L_run (v := .int .i64 ((i : Int) + 1)) (R_assign rfl) rfl ?_
            refine L_nil ?_
            refine T_normal ?_
            refine At.mk (bg, i + 1, a, c, out) (Agree.upd rfl (Agree.upd rfl (Agree.upd rfl (Agree.upd rfl (Agree.upd rfl (Agree.upd rfl (Agree.upd rfl (Agree.upd rfl (Agree.upd rfl (Agree.upd rfl (Agree.upd rfl (Agree.upd rfl (Agree.upd rfl (Agree.upd rfl (Agree.upd rfl (Agree.upd rfl (Agree.upd rfl (Agree.upd rfl (Agree.upd rfl (Agree.upd rfl (Agree.upd rfl (Agree.upd rfl (Agree.upd rfl (Agree.upd rfl (Agree.upd rfl (Agree.upd rfl (Agree.upd rfl (Agree.upd rfl (Agree.upd rfl (Agree.upd rfl (Agree.upd rfl (Agree.upd rfl (Agree.upd rfl (Agree.upds rfl Agree.over)))))))))))))))))))))))))))))))))) ⟨rfl, rfl, rfl, trivial⟩ ?_
            exact ⟨⟨by omega, by omega, by omega, cw_cont hj4 (by omega) hj1 (by assumption), (Same.trans (Same.refl All w) (Same.all hj5)), hj6⟩, by dsimp only; omega⟩
          · have hc3 := not_f hc3
            refine W_skip ?_
            refine T_normal ?_
            refine hK22 _ _ ?_
            clear hK22
            refine W_seq (fun K24 hK24 => ?_)
            refine W_seq (fun K25 hK25 => ?_)
            refine W_region ?_
            refine L_run (v := .int .i64 (bg : Int)) (R_move rfl) rfl ?_
            refine L_run (v := .int .i64 (i : Int)) (R_move rfl) rfl ?_
            refine L_run (v := .bool (decide ((bg : Int) < (i : Int)))) (R_lss rfl rfl) rfl ?_
            refine L_nil ?_
            refine T_normal ?_
            refine hK25 _ _ ?_
            clear hK25
            refine W_cond (decide ((bg : Int) < (i : Int))) rfl (fun hc4 => ?_) (fun hc4 => ?_)
            · have hc4 := of_decide_eq_true hc4
              refine W_region ?_
              refine L_run (v := .slice a out.length c) (R_move rfl) rfl ?_
              refine L_run (v := .string (st s)) (R_move rfl) rfl ?_
              refine L_run (v := .int .i64 (bg : Int)) (R_move rfl) rfl ?_
              refine L_run (v := .int .i64 (i : Int)) (R_move rfl) rfl ?_
              refine L_run (v := .string (st ((s.take i).drop bg))) (X_sslice bg i rfl ⟨_, _, rfl, rfl⟩ ⟨_, _, rfl, rfl⟩ (by omega) (by omega) Tryd.underlying9) rfl ?_
              refine L_op rfl rfl ?_
              refine X_buildSlice [.tmp 52] [.string (st ((s.take i).drop bg))] #[.string (st ((s.take i).drop bg))] Tryd.underlying36 inf9 rfl rfl rfl rfl rfl rfl ?_
              intro b6 w9 hB6g hB6l hs8 hB6
              refine L_op rfl rfl ?_
              have h3 := Ow.same hj6 hs8 (fun _ _ => trivial)
              refine X_append1 (E := stE) (l := out) ((s.take i).drop bg) rfl rfl h3 hB6 rfl Tryd.underlying36 inf9 rfl rfl (by decide) (by omega) (by omega) ?_
              intro a3 c3 w10 hs9 hO3
              refine L_run (v := .slice a3 ((out ++ [(s.take i).drop bg]).length) c3) (R_assign rfl) rfl ?_
              refine L_nil ?_
              refine T_normal ?_
              refine hK24 _ _ ?_
              clear hK24
              refine W_region ?_
              refine L_run (v := .int .i64 (i : Int)) (R_move rfl) rfl ?_
              refine L_run (v := .int .i64 ((i : Int) + 1)) (R_add rfl rfl (by omega) (by omega)) rfl ?_
              refine L_run (v := .int .i64 ((i : Int) + 1)) (R_assign rfl) rfl ?_
              refine L_nil ?_
              refine B_normal ?_
              refine T_normal ?_
              refine hK11 _ _ ?_
              clear hK11
              refine W_region ?_
              refine L_run (v := .int .i64 (i : Int)) (R_move rfl) rfl ?_
              refine L_run (v := .int .i64 ((i : Int) + 1)) (R_add rfl rfl (by omega) (by omega)) rfl ?_
              refine L_run (v := .int .i64 ((i : Int) + 1)) (R_assign rfl) rfl ?_
              refine L_nil ?_
              refine T_normal ?_
              refine At.mk (i + 1, i + 1, a3, c3, out ++ [(s.take i).drop bg]) (Agree.upd rfl (Agree.upd rfl (Agree.upd rfl (Agree.upd rfl (Agree.upd rfl (Agree.upd rfl (Agree.upd rfl (Agree.upd rfl (Agree.upd rfl (Agree.upd rfl (Agree.upd rfl (Agree.upd rfl (Agree.upd rfl (Agree.upd rfl (Agree.upd rfl (Agree.upd rfl (Agree.upd rfl (Agree.upd rfl (Agree.upd rfl (Agree.upd rfl (Agree.upd rfl (Agree.upd rfl (Agree.upd rfl (Agree.upd rfl (Agree.upd rfl (Agree.upd rfl (Agree.upd rfl (Agree.upd rfl (Agree.upd rfl (Agree.upd rfl (Agree.upd rfl (Agree.upd rfl (Agree.upd rfl (Agree.upd rfl (Agree.upd rfl (Agree.upd rfl (Agree.upd rfl (Agree.upd rfl (Agree.upd rfl (Agree.upd rfl (Agree.upd rfl (Agree.upd rfl (Agree.upd rfl (Agree.upd rfl (Agree.upd rfl (Agree.upd rfl (Agree.upd rfl (Agree.upds rfl Agree.over)))))))))))))))))))))))))))))))))))))))))))))))) ⟨rfl, rfl, rfl, trivial⟩ ?_
              exact ⟨⟨by omega, by omega, by rw [List.length_append]; simp only [List.length_cons, List.length_nil]; omega, cw_cut hj4 (by omega) hj1 (by first | (intro _; omega) | (intro h; omega) | (intro _; assumption)) ⟨fun _ => rfl, fun h => by omega⟩, (Same.after' (Same.trans (Same.trans (Same.refl All w) (Same.all hj5)) (Same.all hs8)) hs9 (by intro k hk hn; have := Same.size hs1; have := Same.size hj5; have := Same.size hs8; have := Same.size hs9; intro e; have := Ow.lt h3 _ e.symm; simp only [All, But, Lo, LoBut] at *; omega)), hO3⟩, by dsimp only; omega⟩
            · have hc4 := of_decide_eq_false hc4
              refine W_skip ?_
              refine T_normal ?_
              refine hK24 _ _ ?_
              clear hK24
              refine W_region ?_
              refine L_run (v := .int .i64 (i : Int)) (R_move rfl) rfl ?_
              refine L_run (v := .int .i64 ((i : Int) + 1)) (R_add rfl rfl (by omega) (by omega)) rfl ?_
              refine L_run (v := .int .i64 ((i : Int) + 1)) (R_assign rfl) rfl ?_
              refine L_nil ?_
              refine B_normal ?_
              refine T_normal ?_
              refine hK11 _ _ ?_
              clear hK11
              refine W_region ?_
              refine L_run (v := .int .i64 (i : Int)) (R_move rfl) rfl ?_
              refine L_run (v := .int .i64 ((i : Int) + 1)) (R_add rfl rfl (by omega) (by omega)) rfl ?_
              refine L_run (v := .int .i64 ((i : Int) + 1)) (R_assign rfl) rfl ?_
              refine L_nil ?_
              refine T_normal ?_
              refine At.mk (i + 1, i + 1, a, c, out) (Agree.upd rfl (Agree.upd rfl (Agree.upd rfl (Agree.upd rfl (Agree.upd rfl (Agree.upd rfl (Agree.upd rfl (Agree.upd rfl (Agree.upd rfl (Agree.upd rfl (Agree.upd rfl (Agree.upd rfl (Agree.upd rfl (Agree.upd rfl (Agree.upd rfl (Agree.upd rfl (Agree.upd rfl (Agree.upd rfl (Agree.upd rfl (Agree.upd rfl (Agree.upd rfl (Agree.upd rfl (Agree.upd rfl (Agree.upd rfl (Agree.upd rfl (Agree.upd rfl (Agree.upd rfl (Agree.upd rfl (Agree.upd rfl (Agree.upd rfl (Agree.upd rfl (Agree.upd rfl (Agree.upd rfl (Agree.upd rfl (Agree.upd rfl (Agree.upd rfl (Agree.upd rfl (Agree.upd rfl (Agree.upd rfl (Agree.upds rfl Agree.over)))))))))))))))))))))))))))))))))))))))) ⟨rfl, rfl, rfl, trivial⟩ ?_
              exact ⟨⟨by omega, by omega, by omega, cw_cut hj4 (by omega) hj1 (by first | (intro _; omega) | (intro h; omega) | (intro _; assumption)) ⟨fun h => by omega, fun _ => rfl⟩, (Same.trans (Same.refl All w) (Same.all hj5)), hj6⟩, by dsimp only; omega⟩
        · have hg4p := of_decide_eq_false hg4
          try rw [hg4]
          refine L_no (e := 39) rfl rfl rfl rfl ?_
          refine L_no (e := 39) rfl rfl rfl rfl ?_
          refine L_no (e := 39) rfl rfl rfl rfl ?_
          refine L_no (e := 39) rfl rfl rfl rfl ?_
          refine L_run (v := .bool false) (R_pick_f rfl rfl) rfl ?_
          refine L_nil ?_
          refine T_normal ?_
          refine hK23 _ _ ?_
          clear hK23
          refine W_cond false rfl (fun h => by cases h) (fun _ => ?_)
          refine W_skip ?_
          refine T_normal ?_
          refine hK22 _ _ ?_
          clear hK22
          refine W_seq (fun K26 hK26 => ?_)
          refine W_seq (fun K27 hK27 => ?_)
          refine W_region ?_
          refine L_run (v := .int .i64 (bg : Int)) (R_move rfl) rfl ?_
          refine L_run (v := .int .i64 (i : Int)) (R_move rfl) rfl ?_
          refine L_run (v := .bool (decide ((bg : Int) < (i : Int)))) (R_lss rfl rfl) rfl ?_
          refine L_nil ?_
          refine T_normal ?_
          refine hK27 _ _ ?_
          clear hK27
          refine W_cond (decide ((bg : Int) < (i : Int))) rfl (fun hc4 => ?_) (fun hc4 => ?_)
          · have hc4 := of_decide_eq_true hc4
            refine W_region ?_
            refine L_run (v := .slice a out.length c) (R_move rfl) rfl ?_
            refine L_run (v := .string (st s)) (R_move rfl) rfl ?_
            refine L_run (v := .int .i64 (bg : Int)) (R_move rfl) rfl ?_
            refine L_run (v := .int .i64 (i : Int)) (R_move rfl) rfl ?_
            refine L_run (v := .string (st ((s.take i).drop bg))) (X_sslice bg i rfl ⟨_, _, rfl, rfl⟩ ⟨_, _, rfl, rfl⟩ (by omega) (by omega) Tryd.underlying9) rfl ?_
            refine L_op rfl rfl ?_
            refine X_buildSlice [.tmp 52] [.string (st ((s.take i).drop bg))] #[.string (st ((s.take i).drop bg))] Tryd.underlying36 inf9 rfl rfl rfl rfl rfl rfl ?_
            intro b7 w11 hB7g hB7l hs10 hB7
            refine L_op rfl rfl ?_
            have h4 := Ow.same hj6 hs10 (fun _ _ => trivial)
            refine X_append1 (E := stE) (l := out) ((s.take i).drop bg) rfl rfl h4 hB7 rfl Tryd.underlying36 inf9 rfl rfl (by decide) (by omega) (by omega) ?_
            intro a4 c4 w12 hs11 hO4
            refine L_run (v := .slice a4 ((out ++ [(s.take i).drop bg]).length) c4) (R_assign rfl) rfl ?_
            refine L_nil ?_
            refine T_normal ?_
            refine hK26 _ _ ?_
            clear hK26
            refine W_region ?_
            refine L_run (v := .int .i64 (i : Int)) (R_move rfl) rfl ?_
            refine L_run (v := .int .i64 ((i : Int) + 1)) (R_add rfl rfl (by omega) (by omega)) rfl ?_
            refine L_run (v := .int .i64 ((i : Int) + 1)) (R_assign rfl) rfl ?_
            refine L_nil ?_
            refine B_normal ?_
            refine T_normal ?_
            refine hK11 _ _ ?_
            clear hK11
            refine W_region ?_
            refine L_run (v := .int .i64 (i : Int)) (R_move rfl) rfl ?_
            refine L_run (v := .int .i64 ((i : Int) + 1)) (R_add rfl rfl (by omega) (by omega)) rfl ?_
            refine L_run (v := .int .i64 ((i : Int) + 1)) (R_assign rfl) rfl ?_
            refine L_nil ?_
            refine T_normal ?_
            refine At.mk (i + 1, i + 1, a4, c4, out ++ [(s.take i).drop bg]) (Agree.upd rfl (Agree.upd rfl (Agree.upd rfl (Agree.upd rfl (Agree.upd rfl (Agree.upd rfl (Agree.upd rfl (Agree.upd rfl (Agree.upd rfl (Agree.upd rfl (Agree.upd rfl (Agree.upd rfl (Agree.upd rfl (Agree.upd rfl (Agree.upd rfl (Agree.upd rfl (Agree.upd rfl (Agree.upd rfl (Agree.upd rfl (Agree.upd rfl (Agree.upd rfl (Agree.upd rfl (Agree.upd rfl (Agree.upd rfl (Agree.upd rfl (Agree.upd rfl (Agree.upd rfl (Agree.upd rfl (Agree.upd rfl (Agree.upd rfl (Agree.upd rfl (Agree.upd rfl (Agree.upd rfl (Agree.upd rfl (Agree.upd rfl (Agree.upd rfl (Agree.upd rfl (Agree.upd rfl (Agree.upd rfl (Agree.upd rfl (Agree.upd rfl (Agree.upd rfl (Agree.upd rfl (Agree.upd rfl (Agree.upd rfl (Agree.upd rfl (Agree.upd rfl (Agree.upds rfl Agree.over)))))))))))))))))))))))))))))))))))))))))))))))) ⟨rfl, rfl, rfl, trivial⟩ ?_
            exact ⟨⟨by omega, by omega, by rw [List.length_append]; simp only [List.length_cons, List.length_nil]; omega, cw_cut hj4 (by omega) hj1 (by first | (intro _; omega) | (intro h; omega) | (intro _; assumption)) ⟨fun _ => rfl, fun h => by omega⟩, (Same.after' (Same.trans (Same.trans (Same.refl All w) (Same.all hj5)) (Same.all hs10)) hs11 (by intro k hk hn; have := Same.size hs1; have := Same.size hj5; have := Same.size hs10; have := Same.size hs11; intro e; have := Ow.lt h4 _ e.symm; simp only [All, But, Lo, LoBut] at *; omega)), hO4⟩, by dsimp only; omega⟩
          · have hc4 := of_decide_eq_false hc4
            refine W_skip ?_
            refine T_normal ?_
            refine hK26 _ _ ?_
            clear hK26
            refine W_region ?_
            refine L_run (v := .int .i64 (i : Int)) (R_move rfl) rfl ?_
            refine L_run (v := .int .i64 ((i : Int) + 1)) (R_add rfl rfl (by omega) (by omega)) rfl ?_
            refine L_run (v := .int .i64 ((i : Int) + 1)) (R_assign rfl) rfl ?_
            refine L_nil ?_
            refine B_normal ?_
            refine T_normal ?_
            refine hK11 _ _ ?_
            clear hK11
            refine W_region ?_
            refine L_run (v := .int .i64 (i : Int)) (R_move rfl) rfl ?_
            refine L_run (v := .int .i64 ((i : Int) + 1)) (R_add rfl rfl (by omega) (by omega)) rfl ?_
            refine L_run (v := .int .i64 ((i : Int) + 1)) (R_assign rfl) rfl ?_
            refine L_nil ?_
            refine T_normal ?_
            refine At.mk (i + 1, i + 1, a, c, out) (Agree.upd rfl (Agree.upd rfl (Agree.upd rfl (Agree.upd rfl (Agree.upd rfl (Agree.upd rfl (Agree.upd rfl (Agree.upd rfl (Agree.upd rfl (Agree.upd rfl (Agree.upd rfl (Agree.upd rfl (Agree.upd rfl (Agree.upd rfl (Agree.upd rfl (Agree.upd rfl (Agree.upd rfl (Agree.upd rfl (Agree.upd rfl (Agree.upd rfl (Agree.upd rfl (Agree.upd rfl (Agree.upd rfl (Agree.upd rfl (Agree.upd rfl (Agree.upd rfl (Agree.upd rfl (Agree.upd rfl (Agree.upd rfl (Agree.upd rfl (Agree.upd rfl (Agree.upd rfl (Agree.upd rfl (Agree.upd rfl (Agree.upd rfl (Agree.upd rfl (Agree.upd rfl (Agree.upd rfl (Agree.upd rfl (Agree.upds rfl Agree.over)))))))))))))))))))))))))))))))))))))))) ⟨rfl, rfl, rfl, trivial⟩ ?_
            exact ⟨⟨by omega, by omega, by omega, cw_cut hj4 (by omega) hj1 (by first | (intro _; omega) | (intro h; omega) | (intro _; assumption)) ⟨fun h => by omega, fun _ => rfl⟩, (Same.trans (Same.refl All w) (Same.all hj5)), hj6⟩, by dsimp only; omega⟩
    · have hc1 := of_decide_eq_false hc1
      refine W_exit ?_
      refine T_exit ?_
      refine T_exit ?_
      refine B_hit ?_
      refine T_normal ?_
      refine hK7 _ _ ?_
      clear hK7
      refine W_seq (fun K28 hK28 => ?_)
      refine W_seq (fun K29 hK29 => ?_)
      refine W_region ?_
      refine L_run (v := .slice a out.length c) (R_move rfl) rfl ?_
      refine L_run (v := .int .i64 (out.length : Int)) (R_len Tryd.underlying36 rfl) rfl ?_
      refine L_run (v := .bool (decide (24 < (out.length : Int)))) (R_gtr rfl rfl) rfl ?_
      refine L_nil ?_
      refine T_normal ?_
      refine hK29 _ _ ?_
      clear hK29
      refine W_cond (decide (24 < (out.length : Int))) rfl (fun hc5 => ?_) (fun hc5 => ?_)
      · have hc5 := of_decide_eq_true hc5
        refine W_seq (fun K30 hK30 => ?_)
        refine W_region ?_
        refine L_op rfl rfl ?_
        refine X_buildSlice [] [] #[] Tryd.underlying36 inf9 rfl rfl rfl rfl rfl rfl ?_
        intro b8 w13 hB8g hB8l hs12 hB8
        refine L_run (v := .slice (some ⟨b8, 0, none⟩) 0 0) (R_assign rfl) rfl ?_
        refine L_run (v := .bool false) (R_assign rfl) rfl ?_
        refine L_nil ?_
        refine T_normal ?_
        refine hK30 _ _ ?_
        clear hK30
        refine W_ret ?_
        refine T_ret ?_
        refine Q_ret (v := .tuple #[.slice (some ⟨b8, 0, none⟩) 0 0, .bool false]) (res2 Tryd.results48 rfl rfl) ?_
        clear hK28 hK9
        exact ⟨_, _, [], false, rfl, Rd.nil _ _ _ _, ⟨(fun h => nomatch h), fun _ => .inr (.inr (by rw [← cw_end hj4 (by omega)]; omega))⟩, (Same.trans (Same.trans (Same.refl All w) (Same.all hj5)) (Same.all hs12))⟩
      · have hc5 := of_decide_eq_false hc5
        refine W_skip ?_
        refine T_normal ?_
        refine hK28 _ _ ?_
        clear hK28
        refine W_seq (fun K31 hK31 => ?_)
        refine W_region ?_
        refine L_run (v := .slice a out.length c) (R_move rfl) rfl ?_
        refine L_run (v := .slice a out.length c) (R_assign rfl) rfl ?_
        refine L_run (v := .bool true) (R_assign rfl) rfl ?_
        refine L_nil ?_
        refine T_normal ?_
        refine hK31 _ _ ?_
        clear hK31
        refine W_ret ?_
        refine Q_ret (v := .tuple #[.slice a out.length c, .bool true]) (res2 Tryd.results48 rfl rfl) ?_
        clear hK9
        exact ⟨_, _, out, true, rfl, (Ow.rd (N := All) hj6 (fun _ _ _ => trivial)), ⟨fun _ => cw_end hj4 (by omega), fun h => nomatch h⟩, (Same.trans (Same.refl All w) (Same.all hj5))⟩

theorem C_eqRecord (x0 x1 x2 x3 : Int) (y0 y1 y2 y3 : Int) (w : World) :
    Ret Tryd.prog 21 #[.agg #[.int .i64 x0, .int .i64 x1, .int .i64 x2, .int .i64 x3], .agg #[.int .i64 y0, .int .i64 y1, .int .i64 y2, .int .i64 y3]] w (fun v w' => v = .bool (decide (x0 = y0) && decide (x1 = y1) && decide (x2 = y2) && decide (x3 = y3)) ∧ Same All w w') := by
  refine ret_of (args := [.agg #[.int .i64 x0, .int .i64 x1, .int .i64 x2, .int .i64 x3], .agg #[.int .i64 y0, .int .i64 y1, .int .i64 y2, .int .i64 y3]]) Tryd.func21 rfl 25 Tryd.ntmps21 rfl ?_
  refine W_seq (fun K1 hK1 => ?_)
  refine W_region ?_
  refine L_op rfl rfl ?_
  refine X_box (.agg #[.int .i64 x0, .int .i64 x1, .int .i64 x2, .int .i64 x3]) #[.int .i64 x0, .int .i64 x1, .int .i64 x2, .int .i64 x3] rfl rfl ?_
  intro b1 w1 hB1g hB1l hs1 hB1
  refine L_op rfl rfl ?_
  refine X_box (.agg #[.int .i64 y0, .int .i64 y1, .int .i64 y2, .int .i64 y3]) #[.int .i64 y0, .int .i64 y1, .int .i64 y2, .int .i64 y3] rfl rfl ?_
  intro b2 w2 hB2g hB2l hs2 hB2
  refine L_run (v := .bool false) (R_assign rfl) rfl ?_
  refine L_nil ?_
  refine T_normal ?_
  refine hK1 _ _ ?_
  clear hK1
  refine W_seq (fun K2 hK2 => ?_)
  refine W_seq (fun K3 hK3 => ?_)
  refine W_region ?_
  refine L_run (v := .pointer (some ⟨b1, 0, none⟩)) (X_fieldAddr 0 ({ name := "Meter", type := 3, offset := 0, embedded := false, tag := "", pkgPath := "", byteOffset := 0 }) rfl Tryd.underlying44 rfl inf3 rfl rfl) rfl ?_
  have h1 := Bx.same hs2 hB1 trivial
  refine L_run (v := .int .i64 x0) (R_loadB rfl h1 rfl Tryd.underlying3 rfl) rfl ?_
  refine L_run (v := .pointer (some ⟨b2, 0, none⟩)) (X_fieldAddr 0 ({ name := "Meter", type := 3, offset := 0, embedded := false, tag := "", pkgPath := "", byteOffset := 0 }) rfl Tryd.underlying44 rfl inf3 rfl rfl) rfl ?_
  refine L_run (v := .int .i64 y0) (R_loadB rfl hB2 rfl Tryd.underlying3 rfl) rfl ?_
  refine L_run (v := .bool (!decide (x0 = y0))) (R_neq rfl rfl) rfl ?_
  refine L_nil ?_
  refine T_normal ?_
  refine hK3 _ _ ?_
  clear hK3
  refine W_cond (!decide (x0 = y0)) rfl (fun hc0 => ?_) (fun hc0 => ?_)
  · have hc0 := not_t hc0
    refine W_seq (fun K4 hK4 => ?_)
    refine W_region ?_
    refine L_run (v := .bool false) (R_assign rfl) rfl ?_
    refine L_nil ?_
    refine T_normal ?_
    refine hK4 _ _ ?_
    clear hK4
    refine W_ret ?_
    refine T_ret ?_
    refine Q_ret (v := .bool false) (res1 Tryd.results21 rfl) ?_
    clear hK2
    exact ⟨by simp [hc0], (Same.trans (Same.trans (Same.refl All w) (Same.all hs1)) (Same.all hs2))⟩
  · have hc0 := not_f hc0
    refine W_skip ?_
    refine T_normal ?_
    refine hK2 _ _ ?_
    clear hK2
    refine W_seq (fun K5 hK5 => ?_)
    refine W_seq (fun K6 hK6 => ?_)
    refine W_region ?_
    refine L_run (v := .pointer (some ⟨b1, 1, none⟩)) (X_fieldAddr 1 ({ name := "At", type := 3, offset := 1, embedded := false, tag := "", pkgPath := "", byteOffset := 8 }) rfl Tryd.underlying44 rfl inf3 rfl rfl) rfl ?_
    refine L_run (v := .int .i64 x1) (R_loadB rfl h1 rfl Tryd.underlying3 rfl) rfl ?_
    refine L_run (v := .pointer (some ⟨b2, 1, none⟩)) (X_fieldAddr 1 ({ name := "At", type := 3, offset := 1, embedded := false, tag := "", pkgPath := "", byteOffset := 8 }) rfl Tryd.underlying44 rfl inf3 rfl rfl) rfl ?_
    refine L_run (v := .int .i64 y1) (R_loadB rfl hB2 rfl Tryd.underlying3 rfl) rfl ?_
    refine L_run (v := .bool (!decide (x1 = y1))) (R_neq rfl rfl) rfl ?_
    refine L_nil ?_
    refine T_normal ?_
    refine hK6 _ _ ?_
    clear hK6
    refine W_cond (!decide (x1 = y1)) rfl (fun hc1 => ?_) (fun hc1 => ?_)
    · have hc1 := not_t hc1
      refine W_seq (fun K7 hK7 => ?_)
      refine W_region ?_
      refine L_run (v := .bool false) (R_assign rfl) rfl ?_
      refine L_nil ?_
      refine T_normal ?_
      refine hK7 _ _ ?_
      clear hK7
      refine W_ret ?_
      refine T_ret ?_
      refine Q_ret (v := .bool false) (res1 Tryd.results21 rfl) ?_
      clear hK5
      exact ⟨by simp [hc1], (Same.trans (Same.trans (Same.refl All w) (Same.all hs1)) (Same.all hs2))⟩
    · have hc1 := not_f hc1
      refine W_skip ?_
      refine T_normal ?_
      refine hK5 _ _ ?_
      clear hK5
      refine W_seq (fun K8 hK8 => ?_)
      refine W_seq (fun K9 hK9 => ?_)
      refine W_region ?_
      refine L_run (v := .pointer (some ⟨b1, 2, none⟩)) (X_fieldAddr 2 ({ name := "Re", type := 3, offset := 2, embedded := false, tag := "", pkgPath := "", byteOffset := 16 }) rfl Tryd.underlying44 rfl inf3 rfl rfl) rfl ?_
      refine L_run (v := .int .i64 x2) (R_loadB rfl h1 rfl Tryd.underlying3 rfl) rfl ?_
      refine L_run (v := .pointer (some ⟨b2, 2, none⟩)) (X_fieldAddr 2 ({ name := "Re", type := 3, offset := 2, embedded := false, tag := "", pkgPath := "", byteOffset := 16 }) rfl Tryd.underlying44 rfl inf3 rfl rfl) rfl ?_
      refine L_run (v := .int .i64 y2) (R_loadB rfl hB2 rfl Tryd.underlying3 rfl) rfl ?_
      refine L_run (v := .bool (!decide (x2 = y2))) (R_neq rfl rfl) rfl ?_
      refine L_nil ?_
      refine T_normal ?_
      refine hK9 _ _ ?_
      clear hK9
      refine W_cond (!decide (x2 = y2)) rfl (fun hc2 => ?_) (fun hc2 => ?_)
      · have hc2 := not_t hc2
        refine W_seq (fun K10 hK10 => ?_)
        refine W_region ?_
        refine L_run (v := .bool false) (R_assign rfl) rfl ?_
        refine L_nil ?_
        refine T_normal ?_
        refine hK10 _ _ ?_
        clear hK10
        refine W_ret ?_
        refine T_ret ?_
        refine Q_ret (v := .bool false) (res1 Tryd.results21 rfl) ?_
        clear hK8
        exact ⟨by simp [hc2], (Same.trans (Same.trans (Same.refl All w) (Same.all hs1)) (Same.all hs2))⟩
      · have hc2 := not_f hc2
        refine W_skip ?_
        refine T_normal ?_
        refine hK8 _ _ ?_
        clear hK8
        refine W_seq (fun K11 hK11 => ?_)
        refine W_seq (fun K12 hK12 => ?_)
        refine W_region ?_
        refine L_run (v := .pointer (some ⟨b1, 3, none⟩)) (X_fieldAddr 3 ({ name := "Im", type := 3, offset := 3, embedded := false, tag := "", pkgPath := "", byteOffset := 24 }) rfl Tryd.underlying44 rfl inf3 rfl rfl) rfl ?_
        refine L_run (v := .int .i64 x3) (R_loadB rfl h1 rfl Tryd.underlying3 rfl) rfl ?_
        refine L_run (v := .pointer (some ⟨b2, 3, none⟩)) (X_fieldAddr 3 ({ name := "Im", type := 3, offset := 3, embedded := false, tag := "", pkgPath := "", byteOffset := 24 }) rfl Tryd.underlying44 rfl inf3 rfl rfl) rfl ?_
        refine L_run (v := .int .i64 y3) (R_loadB rfl hB2 rfl Tryd.underlying3 rfl) rfl ?_
        refine L_run (v := .bool (!decide (x3 = y3))) (R_neq rfl rfl) rfl ?_
        refine L_nil ?_
        refine T_normal ?_
        refine hK12 _ _ ?_
        clear hK12
        refine W_cond (!decide (x3 = y3)) rfl (fun hc3 => ?_) (fun hc3 => ?_)
        · have hc3 := not_t hc3
          refine W_seq (fun K13 hK13 => ?_)
          refine W_region ?_
          refine L_run (v := .bool false) (R_assign rfl) rfl ?_
          refine L_nil ?_
          refine T_normal ?_
          refine hK13 _ _ ?_
          clear hK13
          refine W_ret ?_
          refine T_ret ?_
          refine Q_ret (v := .bool false) (res1 Tryd.results21 rfl) ?_
          clear hK11
          exact ⟨by simp [hc3], (Same.trans (Same.trans (Same.refl All w) (Same.all hs1)) (Same.all hs2))⟩
        · have hc3 := not_f hc3
          refine W_skip ?_
          refine T_normal ?_
          refine hK11 _ _ ?_
          clear hK11
          refine W_seq (fun K14 hK14 => ?_)
          refine W_region ?_
          refine L_run (v := .bool true) (R_assign rfl) rfl ?_
          refine L_nil ?_
          refine T_normal ?_
          refine hK14 _ _ ?_
          clear hK14
          refine W_ret ?_
          refine Q_ret (v := .bool true) (res1 Tryd.results21 rfl) ?_
          exact ⟨by simp [hc0, hc1, hc2, hc3], (Same.trans (Same.trans (Same.refl All w) (Same.all hs1)) (Same.all hs2))⟩

theorem C_sParseRecord (s : List UInt8) (w : World) :
    Ret Tryd.prog 19 #[.string (st s)] w (fun v w' => ∃ (a : Int) (b : Int) (c : Int) (d : Int) (ok : Bool), v = .tuple #[.agg #[.int .i64 a, .int .i64 b, .int .i64 c, .int .i64 d], .bool ok] ∧ (RP s a b c d ok) ∧ Same All w w') := by
  refine ret_of (args := [.string (st s)]) Tryd.func19 rfl 83 Tryd.ntmps19 rfl ?_
  refine W_seq (fun K1 hK1 => ?_)
  refine W_region ?_
  refine L_op rfl rfl ?_
  refine X_alloc #[.int .i64 0, .int .i64 0, .int .i64 0, .int .i64 0] inf44 rfl ?_
  intro b1 w1 hB1g hB1l hs1 hB1
  refine L_run (v := .bool false) (R_assign rfl) rfl ?_
  refine L_nil ?_
  refine T_normal ?_
  refine hK1 _ _ ?_
  clear hK1
  refine W_seq (fun K2 hK2 => ?_)
  refine W_region ?_
  refine L_run (v := .string (st s)) (R_move rfl) rfl ?_
  refine L_op rfl rfl ?_
  refine O_call (args := [.string (st s)]) en48 rfl (C_SplitFields s _) ?_
  rintro _ w2 ⟨a1, cp1, out1, ok1, rfl, hrd1, hsf1, hs2⟩
  refine L_run (v := .tuple #[.slice a1 out1.length cp1, .bool ok1]) (R_move rfl) rfl ?_
  refine L_run (v := .slice a1 out1.length cp1) (R_extract rfl rfl) rfl ?_
  refine L_run (v := .bool ok1) (R_extract rfl rfl) rfl ?_
  refine L_run (v := .slice a1 out1.length cp1) (R_assign rfl) rfl ?_
  refine L_run (v := .bool ok1) (R_assign rfl) rfl ?_
  refine L_nil ?_
  refine T_normal ?_
  refine hK2 _ _ ?_
  clear hK2
  refine W_seq (fun K3 hK3 => ?_)
  refine W_seq (fun K4 hK4 => ?_)
  refine W_region ?_
  refine L_run (v := .bool ok1) (R_move rfl) rfl ?_
  refine L_run (v := .bool (!ok1)) (R_not rfl) rfl ?_
  refine L_run (v := .bool (!ok1)) (R_move rfl) rfl ?_
  rcases Bool.eq_false_or_eq_true (!ok1) with hg1 | hg1
  · have hg1p := notb_t hg1
    try rw [hg1]
    refine L_no (e := 22) rfl rfl rfl rfl ?_
    refine L_no (e := 22) rfl rfl rfl rfl ?_
    refine L_no (e := 22) rfl rfl rfl rfl ?_
    refine L_run (v := .bool true) (R_pick_t rfl rfl) rfl ?_
    refine L_nil ?_
    refine T_normal ?_
    refine hK4 _ _ ?_
    clear hK4
    refine W_cond true rfl (fun _ => ?_) (fun h => by cases h)
    refine W_seq (fun K5 hK5 => ?_)
    refine W_region ?_
    refine L_run (v := .agg #[.int .i64 0, .int .i64 0, .int .i64 0, .int .i64 0]) (R_build (ps := []) (pv := []) (cs := #[.int .i64 0, .int .i64 0, .int .i64 0, .int .i64 0]) Tryd.underlying44 (inf44).choose_spec.1 (inf44).choose_spec.2.2.2 pl44 rfl rfl) rfl ?_
    refine L_op rfl rfl ?_
    have h1 := Bx.same hs2 hB1 trivial
    refine X_store (.agg #[.int .i64 0, .int .i64 0, .int .i64 0, .int .i64 0]) #[.int .i64 0, .int .i64 0, .int .i64 0, .int .i64 0] rfl rfl inf44 h1 rfl rfl rfl rfl ?_
    intro w3 hs3 hB2z hB2
    refine L_run (v := .bool false) (R_assign rfl) rfl ?_
    refine L_nil ?_
    refine T_normal ?_
    refine hK5 _ _ ?_
    clear hK5
    refine W_ret ?_
    refine T_ret ?_
    refine Q_ret (v := .tuple #[.agg #[.int .i64 0, .int .i64 0, .int .i64 0, .int .i64 0], .bool false]) (resC2 Tryd.results19 rfl rfl hB2 Tryd.underlying44 rfl (inf44).choose_spec.1 (inf44).choose_spec.2.1.symm) ?_
    clear hK3
    have hno : ∀ x y z u, inR x y z u → fr x y z u = s → False := by
      intro x y z u hq e
      obtain ⟨e1, e2⟩ := sf_fr hsf1 hq e
      rw [e1] at hg1p; cases hg1p
    exact ⟨0, 0, 0, 0, false, rfl, RP_no hno, (Same.after' (Same.trans (Same.trans (Same.refl All w) (Same.all hs1)) (Same.all hs2)) hs3 (by intro k hk hn; have := Same.size hs1; have := Same.size hs2; have := Same.size hs3; simp only [All, But, Lo, LoBut] at *; omega))⟩
  · have hg1p := notb_f hg1
    try rw [hg1]
    refine L_yesrun (e := 22) (v := .slice a1 out1.length cp1) rfl rfl rfl (R_move rfl) rfl ?_
    refine L_yesrun (e := 22) (v := .int .i64 (out1.length : Int)) rfl rfl rfl (R_len Tryd.underlying36 rfl) rfl ?_
    refine L_yesrun (e := 22) (v := .bool (!decide ((out1.length : Int) = 4))) rfl rfl rfl (R_neq rfl rfl) rfl ?_
    refine L_run (v := .bool (!decide ((out1.length : Int) = 4))) (R_pick_f rfl rfl) rfl ?_
    refine L_nil ?_
    refine T_normal ?_
    refine hK4 _ _ ?_
    clear hK4
    refine W_cond (!decide ((out1.length : Int) = 4)) rfl (fun hc0 => ?_) (fun hc0 => ?_)
    · have hc0 := not_t hc0
      refine W_seq (fun K6 hK6 => ?_)
      refine W_region ?_
      refine L_run (v := .agg #[.int .i64 0, .int .i64 0, .int .i64 0, .int .i64 0]) (R_build (ps := []) (pv := []) (cs := #[.int .i64 0, .int .i64 0, .int .i64 0, .int .i64 0]) Tryd.underlying44 (inf44).choose_spec.1 (inf44).choose_spec.2.2.2 pl44 rfl rfl) rfl ?_
      refine L_op rfl rfl ?_
      have h2 := Bx.same hs2 hB1 trivial
      refine X_store (.agg #[.int .i64 0, .int .i64 0, .int .i64 0, .int .i64 0]) #[.int .i64 0, .int .i64 0, .int .i64 0, .int .i64 0] rfl rfl inf44 h2 rfl rfl rfl rfl ?_
      intro w4 hs4 hB3z hB3
      refine L_run (v := .bool false) (R_assign rfl) rfl ?_
      refine L_nil ?_
      refine T_normal ?_
      refine hK6 _ _ ?_
      clear hK6
      refine W_ret ?_
      refine T_ret ?_
      refine Q_ret (v := .tuple #[.agg #[.int .i64 0, .int .i64 0, .int .i64 0, .int .i64 0], .bool false]) (resC2 Tryd.results19 rfl rfl hB3 Tryd.underlying44 rfl (inf44).choose_spec.1 (inf44).choose_spec.2.1.symm) ?_
      clear hK3
      have hno : ∀ x y z u, inR x y z u → fr x y z u = s → False := by
        intro x y z u hq e
        obtain ⟨e1, e2⟩ := sf_fr hsf1 hq e
        rw [e2] at hc0; exact hc0 rfl
      exact ⟨0, 0, 0, 0, false, rfl, RP_no hno, (Same.after' (Same.trans (Same.trans (Same.refl All w) (Same.all hs1)) (Same.all hs2)) hs4 (by intro k hk hn; have := Same.size hs1; have := Same.size hs2; have := Same.size hs4; simp only [All, But, Lo, LoBut] at *; omega))⟩
    · have hc0 := not_f hc0
      refine W_skip ?_
      refine T_normal ?_
      refine hK3 _ _ ?_
      clear hK3
      refine W_seq (fun K7 hK7 => ?_)
      refine W_region ?_
      refine L_run (v := .slice a1 out1.length cp1) (R_move rfl) rfl ?_
      refine L_run (v := .pointer (some (ix a1 (0 * stE.sz)))) (X_indexAddr (E := stE) 0 rfl rfl hrd1 rfl (by omega) Tryd.underlying36 inf9 rfl) rfl ?_
      refine L_run (v := .string (st (out1.getD 0 []))) (R_loadE (E := stE) (j := 0) (e := (out1.getD 0 [])) rfl hrd1 (get_elem _ [] (by omega)) rfl Tryd.underlying9 rfl) rfl ?_
      refine L_op rfl rfl ?_
      refine O_call (args := [.string (st (out1.getD 0 []))]) en49 rfl (C_l09Int (out1.getD 0 []) _) ?_
      rintro _ w5 ⟨r1, ok2, rfl, hli1, hs5⟩
      refine L_run (v := .tuple #[.int .i64 r1, .bool ok2]) (R_move rfl) rfl ?_
      refine L_run (v := .int .i64 r1) (R_extract rfl rfl) rfl ?_
      refine L_run (v := .bool ok2) (R_extract rfl rfl) rfl ?_
      refine L_run (v := .int .i64 r1) (R_assign rfl) rfl ?_
      refine L_run (v := .bool ok2) (R_assign rfl) rfl ?_
      refine L_nil ?_
      refine T_normal ?_
      refine hK7 _ _ ?_
      clear hK7
      refine W_seq (fun K8 hK8 => ?_)
      refine W_region ?_
      refine L_run (v := .slice a1 out1.length cp1) (R_move rfl) rfl ?_
      have h3 := Rd.same hrd1 (Same.all hs5)
      refine L_run (v := .pointer (some (ix a1 (1 * stE.sz)))) (X_indexAddr (E := stE) 1 rfl rfl h3 rfl (by omega) Tryd.underlying36 inf9 rfl) rfl ?_
      refine L_run (v := .string (st (out1.getD 1 []))) (R_loadE (E := stE) (j := 0) (e := (out1.getD 1 [])) rfl h3 (get_elem _ [] (by omega)) rfl Tryd.underlying9 rfl) rfl ?_
      refine L_op rfl rfl ?_
      refine O_call (args := [.string (st (out1.getD 1 []))]) en49 rfl (C_l09Int (out1.getD 1 []) _) ?_
      rintro _ w6 ⟨r2, ok3, rfl, hli2, hs6⟩
      refine L_run (v := .tuple #[.int .i64 r2, .bool ok3]) (R_move rfl) rfl ?_
      refine L_run (v := .int .i64 r2) (R_extract rfl rfl) rfl ?_
      refine L_run (v := .bool ok3) (R_extract rfl rfl) rfl ?_
      refine L_run (v := .int .i64 r2) (R_assign rfl) rfl ?_
      refine L_run (v := .bool ok3) (R_assign rfl) rfl ?_
      refine L_nil ?_
      refine T_normal ?_
      refine hK8 _ _ ?_
      clear hK8
      refine W_seq (fun K9 hK9 => ?_)
      refine W_region ?_
      refine L_run (v := .slice a1 out1.length cp1) (R_move rfl) rfl ?_
      have h4 := Rd.same h3 (Same.all hs6)
      refine L_run (v := .pointer (some (ix a1 (2 * stE.sz)))) (X_indexAddr (E := stE) 2 rfl rfl h4 rfl (by omega) Tryd.underlying36 inf9 rfl) rfl ?_
      refine L_run (v := .string (st (out1.getD 2 []))) (R_loadE (E := stE) (j := 0) (e := (out1.getD 2 [])) rfl h4 (get_elem _ [] (by omega)) rfl Tryd.underlying9 rfl) rfl ?_
      refine L_op rfl rfl ?_
      refine O_call (args := [.string (st (out1.getD 2 []))]) en49 rfl (C_l09Int (out1.getD 2 []) _) ?_
      rintro _ w7 ⟨r3, ok4, rfl, hli3, hs7⟩
      refine L_run (v := .tuple #[.int .i64 r3, .bool ok4]) (R_move rfl) rfl ?_
      refine L_run (v := .int .i64 r3) (R_extract rfl rfl) rfl ?_
      refine L_run (v := .bool ok4) (R_extract rfl rfl) rfl ?_
      refine L_run (v := .int .i64 r3) (R_assign rfl) rfl ?_
      refine L_run (v := .bool ok4) (R_assign rfl) rfl ?_
      refine L_nil ?_
      refine T_normal ?_
      refine hK9 _ _ ?_
      clear hK9
      refine W_seq (fun K10 hK10 => ?_)
      refine W_region ?_
      refine L_run (v := .slice a1 out1.length cp1) (R_move rfl) rfl ?_
      have h5 := Rd.same h4 (Same.all hs7)
      refine L_run (v := .pointer (some (ix a1 (3 * stE.sz)))) (X_indexAddr (E := stE) 3 rfl rfl h5 rfl (by omega) Tryd.underlying36 inf9 rfl) rfl ?_
      refine L_run (v := .string (st (out1.getD 3 []))) (R_loadE (E := stE) (j := 0) (e := (out1.getD 3 [])) rfl h5 (get_elem _ [] (by omega)) rfl Tryd.underlying9 rfl) rfl ?_
      refine L_op rfl rfl ?_
      refine O_call (args := [.string (st (out1.getD 3 []))]) en49 rfl (C_l09Int (out1.getD 3 []) _) ?_
      rintro _ w8 ⟨r4, ok5, rfl, hli4, hs8⟩
      refine L_run (v := .tuple #[.int .i64 r4, .bool ok5]) (R_move rfl) rfl ?_
      refine L_run (v := .int .i64 r4) (R_extract rfl rfl) rfl ?_
      refine L_run (v := .bool ok5) (R_extract rfl rfl) rfl ?_
      refine L_run (v := .int .i64 r4) (R_assign rfl) rfl ?_
      refine L_run (v := .bool ok5) (R_assign rfl) rfl ?_
      refine L_nil ?_
      refine T_normal ?_
      refine hK10 _ _ ?_
      clear hK10
      refine W_seq (fun K11 hK11 => ?_)
      refine W_region ?_
      refine L_run (v := .int .i64 r1) (R_move rfl) rfl ?_
      refine L_run (v := .int .i64 r2) (R_move rfl) rfl ?_
      refine L_run (v := .int .i64 r3) (R_move rfl) rfl ?_
      refine L_run (v := .int .i64 r4) (R_move rfl) rfl ?_
      refine L_run (v := .agg #[.int .i64 r1, .int .i64 r2, .int .i64 r3, .int .i64 r4]) (R_build (ps := [(0, .tmp 56), (1, .tmp 57), (2, .tmp 58), (3, .tmp 59)]) (pv := [(0, .int .i64 r1), (1, .int .i64 r2), (2, .int .i64 r3), (3, .int .i64 r4)]) (cs := #[.int .i64 r1, .int .i64 r2, .int .i64 r3, .int .i64 r4]) Tryd.underlying44 (inf44).choose_spec.1 (inf44).choose_spec.2.2.2 pl44 rfl rfl) rfl ?_
      refine L_op rfl rfl ?_
      refine X_alloc #[.int .i64 0, .int .i64 0, .int .i64 0, .int .i64 0] inf44 rfl ?_
      intro b2 w9 hB4g hB4l hs9 hB4
      refine L_op rfl rfl ?_
      refine X_store (.agg #[.int .i64 r1, .int .i64 r2, .int .i64 r3, .int .i64 r4]) #[.int .i64 r1, .int .i64 r2, .int .i64 r3, .int .i64 r4] rfl rfl inf44 hB4 rfl rfl rfl rfl ?_
      intro w10 hs10 hB5z hB5
      refine L_nil ?_
      refine T_normal ?_
      refine hK11 _ _ ?_
      clear hK11
      refine W_seq (fun K12 hK12 => ?_)
      refine W_seq (fun K13 hK13 => ?_)
      refine W_region ?_
      refine L_run (v := .bool ok2) (R_move rfl) rfl ?_
      refine L_run (v := .bool (!ok2)) (R_not rfl) rfl ?_
      refine L_run (v := .bool (!ok2)) (R_move rfl) rfl ?_
      rcases Bool.eq_false_or_eq_true (!ok2) with hg2 | hg2
      · have hg2p := notb_t hg2
        try rw [hg2]
        refine L_no (e := 63) rfl rfl rfl rfl ?_
        refine L_no (e := 63) rfl rfl rfl rfl ?_
        refine L_run (v := .bool true) (R_pick_t rfl rfl) rfl ?_
        refine L_run (v := .bool true) (R_move rfl) rfl ?_
        refine L_no (e := 67) rfl rfl rfl rfl ?_
        refine L_no (e := 67) rfl rfl rfl rfl ?_
        refine L_run (v := .bool true) (R_pick_t rfl rfl) rfl ?_
        refine L_run (v := .bool true) (R_move rfl) rfl ?_
        refine L_no (e := 71) rfl rfl rfl rfl ?_
        refine L_no (e := 71) rfl rfl rfl rfl ?_
        refine L_run (v := .bool true) (R_pick_t rfl rfl) rfl ?_
        refine L_run (v := .bool true) (R_move rfl) rfl ?_
        refine L_no (e := 75) rfl rfl rfl rfl ?_
        refine L_no (e := 75) rfl rfl rfl rfl ?_
        refine L_no (e := 75) rfl rfl rfl rfl ?_
        refine L_no (e := 75) rfl rfl rfl rfl ?_
        refine L_run (v := .bool true) (R_pick_t rfl rfl) rfl ?_
        refine L_nil ?_
        refine T_normal ?_
        refine hK13 _ _ ?_
        clear hK13
        refine W_cond true rfl (fun _ => ?_) (fun h => by cases h)
        refine W_seq (fun K14 hK14 => ?_)
        refine W_region ?_
        refine L_run (v := .agg #[.int .i64 0, .int .i64 0, .int .i64 0, .int .i64 0]) (R_build (ps := []) (pv := []) (cs := #[.int .i64 0, .int .i64 0, .int .i64 0, .int .i64 0]) Tryd.underlying44 (inf44).choose_spec.1 (inf44).choose_spec.2.2.2 pl44 rfl rfl) rfl ?_
        refine L_op rfl rfl ?_
        have h6 := Bx.same hs2 hB1 trivial
        have h7 := Bx.same hs5 h6 trivial
        have h8 := Bx.same hs6 h7 trivial
        have h9 := Bx.same hs7 h8 trivial
        have h10 := Bx.same hs8 h9 trivial
        have h11 := Bx.same hs9 h10 trivial
        have h12 := Bx.same hs10 h11 (by have := Same.size hs1; have := Same.size hs2; have := Same.size hs5; have := Same.size hs6; have := Same.size hs7; have := Same.size hs8; have := Same.size hs9; have := Same.size hs10; simp only [All, But, Lo, LoBut] at *; omega)
        refine X_store (.agg #[.int .i64 0, .int .i64 0, .int .i64 0, .int .i64 0]) #[.int .i64 0, .int .i64 0, .int .i64 0, .int .i64 0] rfl rfl inf44 h12 rfl rfl rfl rfl ?_
        intro w11 hs11 hB6z hB6
        refine L_run (v := .bool false) (R_assign rfl) rfl ?_
        refine L_nil ?_
        refine T_normal ?_
        refine hK14 _ _ ?_
        clear hK14
        refine W_ret ?_
        refine T_ret ?_
        refine Q_ret (v := .tuple #[.agg #[.int .i64 0, .int .i64 0, .int .i64 0, .int .i64 0], .bool false]) (resC2 Tryd.results19 rfl rfl hB6 Tryd.underlying44 rfl (inf44).choose_spec.1 (inf44).choose_spec.2.1.symm) ?_
        clear hK12
        have hno : ∀ x y z u, inR x y z u → fr x y z u = s → False := by
          intro x y z u hq e
          obtain ⟨e1, e2⟩ := sf_fr hsf1 hq e
          rw [e2] at hli1 hli2 hli3 hli4
          have hb := inR_lens hq
          have f1 := hli1.2 x (by omega) (by omega) rfl
          have f2 := hli2.2 y (by omega) (by omega) rfl
          have f3 := hli3.2 z (by omega) (by omega) rfl
          have f4 := hli4.2 u (by omega) (by omega) rfl
          rw [f1.1] at hg2p; cases hg2p
        exact ⟨0, 0, 0, 0, false, rfl, RP_no hno, (Same.after' (Same.after' (Same.trans (Same.trans (Same.trans (Same.trans (Same.trans (Same.trans (Same.trans (Same.refl All w) (Same.all hs1)) (Same.all hs2)) (Same.all hs5)) (Same.all hs6)) (Same.all hs7)) (Same.all hs8)) (Same.all hs9)) hs10 (by intro k hk hn; have := Same.size hs1; have := Same.size hs2; have := Same.size hs5; have := Same.size hs6; have := Same.size hs7; have := Same.size hs8; have := Same.size hs9; have := Same.size hs10; have := Same.size hs11; simp only [All, But, Lo, LoBut] at *; omega)) hs11 (by intro k hk hn; have := Same.size hs1; have := Same.size hs2; have := Same.size hs5; have := Same.size hs6; have := Same.size hs7; have := Same.size hs8; have := Same.size hs9; have := Same.size hs10; have := Same.size hs11; simp only [All, But, Lo, LoBut] at *; omega))⟩
      · have hg2p := notb_f hg2
        try rw [hg2]
        refine L_yesrun (e := 63) (v := .bool ok3) rfl rfl rfl (R_move rfl) rfl ?_
        refine L_yesrun (e := 63) (v := .bool (!ok3)) rfl rfl rfl (R_not rfl) rfl ?_
        refine L_run (v := .bool (!ok3)) (R_pick_f rfl rfl) rfl ?_
        refine L_run (v := .bool (!ok3)) (R_move rfl) rfl ?_
        rcases Bool.eq_false_or_eq_true (!ok3) with hg3 | hg3
        · have hg3p := notb_t hg3
          try rw [hg3]
          refine L_no (e := 67) rfl rfl rfl rfl ?_
          refine L_no (e := 67) rfl rfl rfl rfl ?_
          refine L_run (v := .bool true) (R_pick_t rfl rfl) rfl ?_
          refine L_run (v := .bool true) (R_move rfl) rfl ?_
          refine L_no (e := 71) rfl rfl rfl rfl ?_
          refine L_no (e := 71) rfl rfl rfl rfl ?_
          refine L_run (v := .bool true) (R_pick_t rfl rfl) rfl ?_
          refine L_run (v := .bool true) (R_move rfl) rfl ?_
          refine L_no (e := 75) rfl rfl rfl rfl ?_
          refine L_no (e := 75) rfl rfl rfl rfl ?_
          refine L_no (e := 75) rfl rfl rfl rfl ?_
          refine L_no (e := 75) rfl rfl rfl rfl ?_
          refine L_run (v := .bool true) (R_pick_t rfl rfl) rfl ?_
          refine L_nil ?_
          refine T_normal ?_
          refine hK13 _ _ ?_
          clear hK13
          refine W_cond true rfl (fun _ => ?_) (fun h => by cases h)
          refine W_seq (fun K15 hK15 => ?_)
          refine W_region ?_
          refine L_run (v := .agg #[.int .i64 0, .int .i64 0, .int .i64 0, .int .i64 0]) (R_build (ps := []) (pv := []) (cs := #[.int .i64 0, .int .i64 0, .int .i64 0, .int .i64 0]) Tryd.underlying44 (inf44).choose_spec.1 (inf44).choose_spec.2.2.2 pl44 rfl rfl) rfl ?_
          refine L_op rfl rfl ?_
          have h13 := Bx.same hs2 hB1 trivial
          have h14 := Bx.same hs5 h13 trivial
          have h15 := Bx.same hs6 h14 trivial
          have h16 := Bx.same hs7 h15 trivial
          have h17 := Bx.same hs8 h16 trivial
          have h18 := Bx.same hs9 h17 trivial
          have h19 := Bx.same hs10 h18 (by have := Same.size hs1; have := Same.size hs2; have := Same.size hs5; have := Same.size hs6; have := Same.size hs7; have := Same.size hs8; have := Same.size hs9; have := Same.size hs10; simp only [All, But, Lo, LoBut] at *; omega)
          refine X_store (.agg #[.int .i64 0, .int .i64 0, .int .i64 0, .int .i64 0]) #[.int .i64 0, .int .i64 0, .int .i64 0, .int .i64 0] rfl rfl inf44 h19 rfl rfl rfl rfl ?_
          intro w12 hs12 hB7z hB7
          refine L_run (v := .bool false) (R_assign rfl) rfl ?_
          refine L_nil ?_
          refine T_normal ?_
          refine hK15 _ _ ?_
          clear hK15
          refine W_ret ?_
          refine T_ret ?_
          refine Q_ret (v := .tuple #[.agg #[.int .i64 0, .int .i64 0, .int .i64 0, .int .i64 0], .bool false]) (resC2 Tryd.results19 rfl rfl hB7 Tryd.underlying44 rfl (inf44).choose_spec.1 (inf44).choose_spec.2.1.symm) ?_
          clear hK12
          have hno : ∀ x y z u, inR x y z u → fr x y z u = s → False := by
            intro x y z u hq e
            obtain ⟨e1, e2⟩ := sf_fr hsf1 hq e
            rw [e2] at hli1 hli2 hli3 hli4
            have hb := inR_lens hq
            have f1 := hli1.2 x (by omega) (by omega) rfl
            have f2 := hli2.2 y (by omega) (by omega) rfl
            have f3 := hli3.2 z (by omega) (by omega) rfl
            have f4 := hli4.2 u (by omega) (by omega) rfl
            rw [f2.1] at hg3p; cases hg3p
          exact ⟨0, 0, 0, 0, false, rfl, RP_no hno, (Same.after' (Same.after' (Same.trans (Same.trans (Same.trans (Same.trans (Same.trans (Same.trans (Same.trans (Same.refl All w) (Same.all hs1)) (Same.all hs2)) (Same.all hs5)) (Same.all hs6)) (Same.all hs7)) (Same.all hs8)) (Same.all hs9)) hs10 (by intro k hk hn; have := Same.size hs1; have := Same.size hs2; have := Same.size hs5; have := Same.size hs6; have := Same.size hs7; have := Same.size hs8; have := Same.size hs9; have := Same.size hs10; have := Same.size hs12; simp only [All, But, Lo, LoBut] at *; omega)) hs12 (by intro k hk hn; have := Same.size hs1; have := Same.size hs2; have := Same.size hs5; have := Same.size hs6; have := Same.size hs7; have := Same.size hs8; have := Same.size hs9; have := Same.size hs10; have := Same.size hs12; simp only [All, But, Lo, LoBut] at *; omega))⟩
        · have hg3p := notb_f hg3
          try rw [hg3]
          refine L_yesrun (e := 67) (v := .bool ok4) rfl rfl rfl (R_move rfl) rfl ?_
          refine L_yesrun (e := 67) (v := .bool (!ok4)) rfl rfl rfl (R_not rfl) rfl ?_
          refine L_run (v := .bool (!ok4)) (R_pick_f rfl rfl) rfl ?_
          refine L_run (v := .bool (!ok4)) (R_move rfl) rfl ?_
          rcases Bool.eq_false_or_eq_true (!ok4) with hg4 | hg4
          · have hg4p := notb_t hg4
            try rw [hg4]
            refine L_no (e := 71) rfl rfl rfl rfl ?_
            refine L_no (e := 71) rfl rfl rfl rfl ?_
            refine L_run (v := .bool true) (R_pick_t rfl rfl) rfl ?_
            refine L_run (v := .bool true) (R_move rfl) rfl ?_
            refine L_no (e := 75) rfl rfl rfl rfl ?_
            refine L_no (e := 75) rfl rfl rfl rfl ?_
            refine L_no (e := 75) rfl rfl rfl rfl ?_
            refine L_no (e := 75) rfl rfl rfl rfl ?_
            refine L_run (v := .bool true) (R_pick_t rfl rfl) rfl ?_
            refine L_nil ?_
            refine T_normal ?_
            refine hK13 _ _ ?_
            clear hK13
            refine W_cond true rfl (fun _ => ?_) (fun h => by cases h)
            refine W_seq (fun K16 hK16 => ?_)
            refine W_region ?_
            refine L_run (v := .agg #[.int .i64 0, .int .i64 0, .int .i64 0, .int .i64 0]) (R_build (ps := []) (pv := []) (cs := #[.int .i64 0, .int .i64 0, .int .i64 0, .int .i64 0]) Tryd.underlying44 (inf44).choose_spec.1 (inf44).choose_spec.2.2.2 pl44 rfl rfl) rfl ?_
            refine L_op rfl rfl ?_
            have h20 := Bx.same hs2 hB1 trivial
            have h21 := Bx.same hs5 h20 trivial
            have h22 := Bx.same hs6 h21 trivial
            have h23 := Bx.same hs7 h22 trivial
            have h24 := Bx.same hs8 h23 trivial
            have h25 := Bx.same hs9 h24 trivial
            have h26 := Bx.same hs10 h25 (by have := Same.size hs1; have := Same.size hs2; have := Same.size hs5; have := Same.size hs6; have := Same.size hs7; have := Same.size hs8; have := Same.size hs9; have := Same.size hs10; simp only [All, But, Lo, LoBut] at *; omega)
            refine X_store (.agg #[.int .i64 0, .int .i64 0, .int .i64 0, .int .i64 0]) #[.int .i64 0, .int .i64 0, .int .i64 0, .int .i64 0] rfl rfl inf44 h26 rfl rfl rfl rfl ?_
            intro w13 hs13 hB8z hB8
            refine L_run (v := .bool false) (R_assign rfl) rfl ?_
            refine L_nil ?_
            refine T_normal ?_
            refine hK16 _ _ ?_
            clear hK16
            refine W_ret ?_
            refine T_ret ?_
            refine Q_ret (v := .tuple #[.agg #[.int .i64 0, .int .i64 0, .int .i64 0, .int .i64 0], .bool false]) (resC2 Tryd.results19 rfl rfl hB8 Tryd.underlying44 rfl (inf44).choose_spec.1 (inf44).choose_spec.2.1.symm) ?_
            clear hK12
            have hno : ∀ x y z u, inR x y z u → fr x y z u = s → False := by
              intro x y z u hq e
              obtain ⟨e1, e2⟩ := sf_fr hsf1 hq e
              rw [e2] at hli1 hli2 hli3 hli4
              have hb := inR_lens hq
              have f1 := hli1.2 x (by omega) (by omega) rfl
              have f2 := hli2.2 y (by omega) (by omega) rfl
              have f3 := hli3.2 z (by omega) (by omega) rfl
              have f4 := hli4.2 u (by omega) (by omega) rfl
              rw [f3.1] at hg4p; cases hg4p
            exact ⟨0, 0, 0, 0, false, rfl, RP_no hno, (Same.after' (Same.after' (Same.trans (Same.trans (Same.trans (Same.trans (Same.trans (Same.trans (Same.trans (Same.refl All w) (Same.all hs1)) (Same.all hs2)) (Same.all hs5)) (Same.all hs6)) (Same.all hs7)) (Same.all hs8)) (Same.all hs9)) hs10 (by intro k hk hn; have := Same.size hs1; have := Same.size hs2; have := Same.size hs5; have := Same.size hs6; have := Same.size hs7; have := Same.size hs8; have := Same.size hs9; have := Same.size hs10; have := Same.size hs13; simp only [All, But, Lo, LoBut] at *; omega)) hs13 (by intro k hk hn; have := Same.size hs1; have := Same.size hs2; have := Same.size hs5; have := Same.size hs6; have := Same.size hs7; have := Same.size hs8; have := Same.size hs9; have := Same.size hs10; have := Same.size hs13; simp only [All, But, Lo, LoBut] at *; omega))⟩
          · have hg4p := notb_f hg4
            try rw [hg4]
            refine L_yesrun (e := 71) (v := .bool ok5) rfl rfl rfl (R_move rfl) rfl ?_
            refine L_yesrun (e := 71) (v := .bool (!ok5)) rfl rfl rfl (R_not rfl) rfl ?_
            refine L_run (v := .bool (!ok5)) (R_pick_f rfl rfl) rfl ?_
            refine L_run (v := .bool (!ok5)) (R_move rfl) rfl ?_
            rcases Bool.eq_false_or_eq_true (!ok5) with hg5 | hg5
            · have hg5p := notb_t hg5
              try rw [hg5]
              refine L_no (e := 75) rfl rfl rfl rfl ?_
              refine L_no (e := 75) rfl rfl rfl rfl ?_
              refine L_no (e := 75) rfl rfl rfl rfl ?_
              refine L_no (e := 75) rfl rfl rfl rfl ?_
              refine L_run (v := .bool true) (R_pick_t rfl rfl) rfl ?_
              refine L_nil ?_
              refine T_normal ?_
              refine hK13 _ _ ?_
              clear hK13
              refine W_cond true rfl (fun _ => ?_) (fun h => by cases h)
              refine W_seq (fun K17 hK17 => ?_)
              refine W_region ?_
              refine L_run (v := .agg #[.int .i64 0, .int .i64 0, .int .i64 0, .int .i64 0]) (R_build (ps := []) (pv := []) (cs := #[.int .i64 0, .int .i64 0, .int .i64 0, .int .i64 0]) Tryd.underlying44 (inf44).choose_spec.1 (inf44).choose_spec.2.2.2 pl44 rfl rfl) rfl ?_
              refine L_op rfl rfl ?_
              have h27 := Bx.same hs2 hB1 trivial
              have h28 := Bx.same hs5 h27 trivial
              have h29 := Bx.same hs6 h28 trivial
              have h30 := Bx.same hs7 h29 trivial
              have h31 := Bx.same hs8 h30 trivial
              have h32 := Bx.same hs9 h31 trivial
              have h33 := Bx.same hs10 h32 (by have := Same.size hs1; have := Same.size hs2; have := Same.size hs5; have := Same.size hs6; have := Same.size hs7; have := Same.size hs8; have := Same.size hs9; have := Same.size hs10; simp only [All, But, Lo, LoBut] at *; omega)
              refine X_store (.agg #[.int .i64 0, .int .i64 0, .int .i64 0, .int .i64 0]) #[.int .i64 0, .int .i64 0, .int .i64 0, .int .i64 0] rfl rfl inf44 h33 rfl rfl rfl rfl ?_
              intro w14 hs14 hB9z hB9
              refine L_run (v := .bool false) (R_assign rfl) rfl ?_
              refine L_nil ?_
              refine T_normal ?_
              refine hK17 _ _ ?_
              clear hK17
              refine W_ret ?_
              refine T_ret ?_
              refine Q_ret (v := .tuple #[.agg #[.int .i64 0, .int .i64 0, .int .i64 0, .int .i64 0], .bool false]) (resC2 Tryd.results19 rfl rfl hB9 Tryd.underlying44 rfl (inf44).choose_spec.1 (inf44).choose_spec.2.1.symm) ?_
              clear hK12
              have hno : ∀ x y z u, inR x y z u → fr x y z u = s → False := by
                intro x y z u hq e
                obtain ⟨e1, e2⟩ := sf_fr hsf1 hq e
                rw [e2] at hli1 hli2 hli3 hli4
                have hb := inR_lens hq
                have f1 := hli1.2 x (by omega) (by omega) rfl
                have f2 := hli2.2 y (by omega) (by omega) rfl
                have f3 := hli3.2 z (by omega) (by omega) rfl
                have f4 := hli4.2 u (by omega) (by omega) rfl
                rw [f4.1] at hg5p; cases hg5p
              exact ⟨0, 0, 0, 0, false, rfl, RP_no hno, (Same.after' (Same.after' (Same.trans (Same.trans (Same.trans (Same.trans (Same.trans (Same.trans (Same.trans (Same.refl All w) (Same.all hs1)) (Same.all hs2)) (Same.all hs5)) (Same.all hs6)) (Same.all hs7)) (Same.all hs8)) (Same.all hs9)) hs10 (by intro k hk hn; have := Same.size hs1; have := Same.size hs2; have := Same.size hs5; have := Same.size hs6; have := Same.size hs7; have := Same.size hs8; have := Same.size hs9; have := Same.size hs10; have := Same.size hs14; simp only [All, But, Lo, LoBut] at *; omega)) hs14 (by intro k hk hn; have := Same.size hs1; have := Same.size hs2; have := Same.size hs5; have := Same.size hs6; have := Same.size hs7; have := Same.size hs8; have := Same.size hs9; have := Same.size hs10; have := Same.size hs14; simp only [All, But, Lo, LoBut] at *; omega))⟩
            · have hg5p := notb_f hg5
              try rw [hg5]
              refine L_yesrun (e := 75) (v := .agg #[.int .i64 r1, .int .i64 r2, .int .i64 r3, .int .i64 r4]) rfl rfl rfl (X_loadBA #[.int .i64 r1, .int .i64 r2, .int .i64 r3, .int .i64 r4] rfl hB5 Tryd.underlying44 rfl inf44 rfl rfl) rfl ?_
              refine L_yes (d := 75) rfl rfl rfl rfl rfl ?_
              refine O_call (args := [.agg #[.int .i64 r1, .int .i64 r2, .int .i64 r3, .int .i64 r4]]) en50 rfl (C_sFormatRecord r1 r2 r3 r4 _) ?_
              rintro _ w15 ⟨t1, rfl, hfr1, hs15⟩
              refine L_yesrun (e := 75) (v := .string (st s)) rfl rfl rfl (R_move rfl) rfl ?_
              refine L_yesrun (e := 75) (v := .bool (!decide (t1 = s))) rfl rfl rfl (X_sneq rfl rfl) rfl ?_
              refine L_run (v := .bool (!decide (t1 = s))) (R_pick_f rfl rfl) rfl ?_
              refine L_nil ?_
              refine T_normal ?_
              refine hK13 _ _ ?_
              clear hK13
              refine W_cond (!decide (t1 = s)) rfl (fun hc1 => ?_) (fun hc1 => ?_)
              · have hc1 := not_t hc1
                refine W_seq (fun K18 hK18 => ?_)
                refine W_region ?_
                refine L_run (v := .agg #[.int .i64 0, .int .i64 0, .int .i64 0, .int .i64 0]) (R_build (ps := []) (pv := []) (cs := #[.int .i64 0, .int .i64 0, .int .i64 0, .int .i64 0]) Tryd.underlying44 (inf44).choose_spec.1 (inf44).choose_spec.2.2.2 pl44 rfl rfl) rfl ?_
                refine L_op rfl rfl ?_
                have h34 := Bx.same hs2 hB1 trivial
                have h35 := Bx.same hs5 h34 trivial
                have h36 := Bx.same hs6 h35 trivial
                have h37 := Bx.same hs7 h36 trivial
                have h38 := Bx.same hs8 h37 trivial
                have h39 := Bx.same hs9 h38 trivial
                have h40 := Bx.same hs10 h39 (by have := Same.size hs1; have := Same.size hs2; have := Same.size hs5; have := Same.size hs6; have := Same.size hs7; have := Same.size hs8; have := Same.size hs9; have := Same.size hs10; have := Same.size hs15; simp only [All, But, Lo, LoBut] at *; omega)
                have h41 := Bx.same hs15 h40 trivial
                refine X_store (.agg #[.int .i64 0, .int .i64 0, .int .i64 0, .int .i64 0]) #[.int .i64 0, .int .i64 0, .int .i64 0, .int .i64 0] rfl rfl inf44 h41 rfl rfl rfl rfl ?_
                intro w16 hs16 hB10z hB10
                refine L_run (v := .bool false) (R_assign rfl) rfl ?_
                refine L_nil ?_
                refine T_normal ?_
                refine hK18 _ _ ?_
                clear hK18
                refine W_ret ?_
                refine T_ret ?_
                refine Q_ret (v := .tuple #[.agg #[.int .i64 0, .int .i64 0, .int .i64 0, .int .i64 0], .bool false]) (resC2 Tryd.results19 rfl rfl hB10 Tryd.underlying44 rfl (inf44).choose_spec.1 (inf44).choose_spec.2.1.symm) ?_
                clear hK12
                have hno : ∀ x y z u, inR x y z u → fr x y z u = s → False := by
                  intro x y z u hq e
                  obtain ⟨e1, e2⟩ := sf_fr hsf1 hq e
                  rw [e2] at hli1 hli2 hli3 hli4
                  have hb := inR_lens hq
                  have f1 := hli1.2 x (by omega) (by omega) rfl
                  have f2 := hli2.2 y (by omega) (by omega) rfl
                  have f3 := hli3.2 z (by omega) (by omega) rfl
                  have f4 := hli4.2 u (by omega) (by omega) rfl
                  rw [f1.2, f2.2, f3.2, f4.2] at hfr1
                  exact hc1 ((hfr1.1 hq).trans e)
                exact ⟨0, 0, 0, 0, false, rfl, RP_no hno, (Same.after' (Same.trans (Same.after' (Same.trans (Same.trans (Same.trans (Same.trans (Same.trans (Same.trans (Same.trans (Same.refl All w) (Same.all hs1)) (Same.all hs2)) (Same.all hs5)) (Same.all hs6)) (Same.all hs7)) (Same.all hs8)) (Same.all hs9)) hs10 (by intro k hk hn; have := Same.size hs1; have := Same.size hs2; have := Same.size hs5; have := Same.size hs6; have := Same.size hs7; have := Same.size hs8; have := Same.size hs9; have := Same.size hs10; have := Same.size hs15; have := Same.size hs16; simp only [All, But, Lo, LoBut] at *; omega)) (Same.all hs15)) hs16 (by intro k hk hn; have := Same.size hs1; have := Same.size hs2; have := Same.size hs5; have := Same.size hs6; have := Same.size hs7; have := Same.size hs8; have := Same.size hs9; have := Same.size hs10; have := Same.size hs15; have := Same.size hs16; simp only [All, But, Lo, LoBut] at *; omega))⟩
              · have hc1 := not_f hc1
                refine W_skip ?_
                refine T_normal ?_
                refine hK12 _ _ ?_
                clear hK12
                refine W_seq (fun K19 hK19 => ?_)
                refine W_region ?_
                have h42 := Bx.same hs15 hB5 trivial
                refine L_run (v := .agg #[.int .i64 r1, .int .i64 r2, .int .i64 r3, .int .i64 r4]) (X_loadBA #[.int .i64 r1, .int .i64 r2, .int .i64 r3, .int .i64 r4] rfl h42 Tryd.underlying44 rfl inf44 rfl rfl) rfl ?_
                refine L_op rfl rfl ?_
                have h43 := Bx.same hs2 hB1 trivial
                have h44 := Bx.same hs5 h43 trivial
                have h45 := Bx.same hs6 h44 trivial
                have h46 := Bx.same hs7 h45 trivial
                have h47 := Bx.same hs8 h46 trivial
                have h48 := Bx.same hs9 h47 trivial
                have h49 := Bx.same hs10 h48 (by have := Same.size hs1; have := Same.size hs2; have := Same.size hs5; have := Same.size hs6; have := Same.size hs7; have := Same.size hs8; have := Same.size hs9; have := Same.size hs10; have := Same.size hs15; simp only [All, But, Lo, LoBut] at *; omega)
                have h50 := Bx.same hs15 h49 trivial
                refine X_store (.agg #[.int .i64 r1, .int .i64 r2, .int .i64 r3, .int .i64 r4]) #[.int .i64 r1, .int .i64 r2, .int .i64 r3, .int .i64 r4] rfl rfl inf44 h50 rfl rfl rfl rfl ?_
                intro w17 hs17 hB11z hB11
                refine L_run (v := .bool true) (R_assign rfl) rfl ?_
                refine L_nil ?_
                refine T_normal ?_
                refine hK19 _ _ ?_
                clear hK19
                refine W_ret ?_
                refine Q_ret (v := .tuple #[.agg #[.int .i64 r1, .int .i64 r2, .int .i64 r3, .int .i64 r4], .bool true]) (resC2 Tryd.results19 rfl rfl hB11 Tryd.underlying44 rfl (inf44).choose_spec.1 (inf44).choose_spec.2.1.symm) ?_
                exact ⟨_, _, _, _, true, rfl, RP_good hfr1 hc1 (fun h0 => by rw [h0] at hsf1; have := hsf1.1 hg1p; rw [this] at hc0; exact absurd hc0 (by decide)), (Same.after' (Same.trans (Same.after' (Same.trans (Same.trans (Same.trans (Same.trans (Same.trans (Same.trans (Same.trans (Same.refl All w) (Same.all hs1)) (Same.all hs2)) (Same.all hs5)) (Same.all hs6)) (Same.all hs7)) (Same.all hs8)) (Same.all hs9)) hs10 (by intro k hk hn; have := Same.size hs1; have := Same.size hs2; have := Same.size hs5; have := Same.size hs6; have := Same.size hs7; have := Same.size hs8; have := Same.size hs9; have := Same.size hs10; have := Same.size hs15; have := Same.size hs17; simp only [All, But, Lo, LoBut] at *; omega)) (Same.all hs15)) hs17 (by intro k hk hn; have := Same.size hs1; have := Same.size hs2; have := Same.size hs5; have := Same.size hs6; have := Same.size hs7; have := Same.size hs8; have := Same.size hs9; have := Same.size hs10; have := Same.size hs15; have := Same.size hs17; simp only [All, But, Lo, LoBut] at *; omega))⟩

end Go.Proofs.YtpfbheodbgkgmaaDoor
