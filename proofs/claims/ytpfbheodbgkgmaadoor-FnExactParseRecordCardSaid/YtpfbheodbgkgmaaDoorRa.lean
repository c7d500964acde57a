/- The walks of the two FormatRecord and of the model reading of a field. -/
import Derived.Test.YtpfbheodbgkgmaaDoorGxStr
import Derived.Test.YtpfbheodbgkgmaaDoorGxTxt
import Derived.Test.YtpfbheodbgkgmaaDoorChecked
import Derived.Test.YtpfbheodbgkgmaaDoorShelf
import Derived.Test.YtpfbheodbgkgmaaDoorTa
import Derived.Test.YtpfbheodbgkgmaaDoorTb
import Derived.Test.YtpfbheodbgkgmaaDoorGxRec
set_option linter.unusedSimpArgs false
set_option linter.unusedVariables false
namespace Go.Proofs.YtpfbheodbgkgmaaDoor
open Go Gx Go.Proofs
attribute [local irreducible] OpW wpL WC anyL Run
theorem inf44 : Inf Tryd.prog 44 4 32 (.agg #[.int .i64 0, .int .i64 0, .int .i64 0, .int .i64 0]) := inf_of (by kernel_rfl)
theorem en90 : Enters Tryd.prog 90 := enters Tryd.func90 rfl (by kernel_rfl)
theorem en93 : Enters Tryd.prog 93 := enters Tryd.func93 rfl (by kernel_rfl)
theorem C_l09Code (x : Int) (w : World) :
    Ret Tryd.prog 90 #[.int .i64 x] w (fun v w' => v = .bool (decide (-32767 ≤ x) && decide (x ≤ 32767)) ∧ w = w') := by
  refine ret_of (args := [.int .i64 x]) Tryd.func90 rfl 5 Tryd.ntmps90 rfl ?_
  refine W_seq (fun K1 hK1 => ?_)
  refine W_region ?_
  refine L_run (v := .bool false) (R_assign rfl) rfl ?_
  refine L_nil ?_
  refine T_normal ?_
  refine hK1 _ _ ?_
  clear hK1
  refine W_seq (fun K2 hK2 => ?_)
  refine W_region ?_
  refine L_run (v := .int .i64 x) (R_move rfl) rfl ?_
  refine L_op rfl rfl ?_
  refine O_call (args := [.int .i64 x, .int .i64 (-32767), .int .i64 32767]) en87 rfl (C_l01In x (-32767) 32767 _) ?_
  rintro _ _ ⟨rfl, rfl⟩
  refine L_run (v := .bool (decide ((-32767) ≤ x) && decide (x ≤ 32767))) (R_assign rfl) rfl ?_
  refine L_nil ?_
  refine T_normal ?_
  refine hK2 _ _ ?_
  clear hK2
  refine W_ret ?_
  refine Q_ret (v := .bool (decide ((-32767) ≤ x) && decide (x ≤ 32767))) (res1 Tryd.results90 rfl) ?_
  exact ⟨rfl, rfl⟩

theorem C_codeOk (x : Int) (w : World) :
    Ret Tryd.prog 93 #[.int .i64 x] w (fun v w' => v = .bool (decide (-32767 ≤ x) && decide (x ≤ 32767)) ∧ w = w') := by
  refine ret_of (args := [.int .i64 x]) Tryd.func93 rfl 5 Tryd.ntmps93 rfl ?_
  refine W_seq (fun K1 hK1 => ?_)
  refine W_region ?_
  refine L_run (v := .bool false) (R_assign rfl) rfl ?_
  refine L_nil ?_
  refine T_normal ?_
  refine hK1 _ _ ?_
  clear hK1
  refine W_seq (fun K2 hK2 => ?_)
  refine W_region ?_
  refine L_run (v := .int .i64 x) (R_move rfl) rfl ?_
  refine L_op rfl rfl ?_
  refine O_call (args := [.int .i64 x, .int .i64 (-32767), .int .i64 32767]) en71 rfl (C_within x (-32767) 32767 _) ?_
  rintro _ _ ⟨rfl, rfl⟩
  refine L_run (v := .bool (decide ((-32767) ≤ x) && decide (x ≤ 32767))) (R_assign rfl) rfl ?_
  refine L_nil ?_
  refine T_normal ?_
  refine hK2 _ _ ?_
  clear hK2
  refine W_ret ?_
  refine Q_ret (v := .bool (decide ((-32767) ≤ x) && decide (x ≤ 32767))) (res1 Tryd.results93 rfl) ?_
  exact ⟨rfl, rfl⟩

theorem C_sFormatRecord (r0 r1 r2 r3 : Int) (w : World) :
    Ret Tryd.prog 50 #[.agg #[.int .i64 r0, .int .i64 r1, .int .i64 r2, .int .i64 r3]] w (fun v w' => ∃ (t : List UInt8), v = .string (st t) ∧ (FRR r0 r1 r2 r3 t) ∧ Same All w w') := by
  refine ret_of (args := [.agg #[.int .i64 r0, .int .i64 r1, .int .i64 r2, .int .i64 r3]]) Tryd.func50 rfl 43 Tryd.ntmps50 rfl ?_
  refine W_seq (fun K1 hK1 => ?_)
  refine W_region ?_
  refine L_op rfl rfl ?_
  refine X_box (.agg #[.int .i64 r0, .int .i64 r1, .int .i64 r2, .int .i64 r3]) #[.int .i64 r0, .int .i64 r1, .int .i64 r2, .int .i64 r3] rfl rfl ?_
  intro b1 w1 hB1g hB1l hs1 hB1
  refine L_run (v := .string (st ([]))) (R_assign rfl) rfl ?_
  refine L_nil ?_
  refine T_normal ?_
  refine hK1 _ _ ?_
  clear hK1
  refine W_seq (fun K2 hK2 => ?_)
  refine W_seq (fun K3 hK3 => ?_)
  refine W_region ?_
  refine L_run (v := .pointer (some ⟨b1, 0, none⟩)) (X_fieldAddr 0 ({ name := "Meter", type := 3, offset := 0, embedded := false, tag := "", pkgPath := "", byteOffset := 0 }) rfl Tryd.underlying44 rfl inf3 rfl rfl) rfl ?_
  refine L_run (v := .int .i64 r0) (R_loadB rfl hB1 rfl Tryd.underlying3 rfl) rfl ?_
  refine L_op rfl rfl ?_
  refine O_call (args := [.int .i64 r0, .int .i64 0, .int .i64 5]) en87 rfl (C_l01In r0 0 5 _) ?_
  rintro _ _ ⟨rfl, rfl⟩
  refine L_run (v := .bool (!(decide (0 ≤ r0) && decide (r0 ≤ 5)))) (R_not rfl) rfl ?_
  refine L_run (v := .bool (!(decide (0 ≤ r0) && decide (r0 ≤ 5)))) (R_move rfl) rfl ?_
  rcases Bool.eq_false_or_eq_true (!(decide (0 ≤ r0) && decide (r0 ≤ 5))) with hg1 | hg1
  · have hg1p := notb_t hg1
    try rw [hg1]
    refine L_no (e := 7) rfl rfl rfl rfl ?_
    refine L_no (e := 7) rfl rfl rfl rfl ?_
    refine L_no (e := 7) rfl rfl rfl rfl ?_
    refine L_no (e := 7) rfl rfl rfl rfl ?_
    refine L_run (v := .bool true) (R_pick_t rfl rfl) rfl ?_
    refine L_run (v := .bool true) (R_move rfl) rfl ?_
    refine L_no (e := 13) rfl rfl rfl rfl ?_
    refine L_no (e := 13) rfl rfl rfl rfl ?_
    refine L_no (e := 13) rfl rfl rfl rfl ?_
    refine L_no (e := 13) rfl rfl rfl rfl ?_
    refine L_run (v := .bool true) (R_pick_t rfl rfl) rfl ?_
    refine L_run (v := .bool true) (R_move rfl) rfl ?_
    refine L_no (e := 19) rfl rfl rfl rfl ?_
    refine L_no (e := 19) rfl rfl rfl rfl ?_
    refine L_no (e := 19) rfl rfl rfl rfl ?_
    refine L_no (e := 19) rfl rfl rfl rfl ?_
    refine L_run (v := .bool true) (R_pick_t rfl rfl) rfl ?_
    refine L_nil ?_
    refine T_normal ?_
    refine hK3 _ _ ?_
    clear hK3
    refine W_cond true rfl (fun _ => ?_) (fun h => by cases h)
    refine W_seq (fun K4 hK4 => ?_)
    refine W_region ?_
    refine L_run (v := .string (st ([]))) (R_assign rfl) rfl ?_
    refine L_nil ?_
    refine T_normal ?_
    refine hK4 _ _ ?_
    clear hK4
    refine W_ret ?_
    refine T_ret ?_
    refine Q_ret (v := .string (st ([]))) (res1 Tryd.results50 rfl) ?_
    clear hK2
    exact ⟨[], rfl, ⟨fun h => absurd hg1p (inR_a h), fun _ => rfl⟩, (Same.trans (Same.refl All w) (Same.all hs1))⟩
  · have hg1p := notb_f hg1
    try rw [hg1]
    refine L_yesrun (e := 7) (v := .pointer (some ⟨b1, 1, none⟩)) rfl rfl rfl (X_fieldAddr 1 ({ name := "At", type := 3, offset := 1, embedded := false, tag := "", pkgPath := "", byteOffset := 8 }) rfl Tryd.underlying44 rfl inf3 rfl rfl) rfl ?_
    refine L_yesrun (e := 7) (v := .int .i64 r1) rfl rfl rfl (R_loadB rfl hB1 rfl Tryd.underlying3 rfl) rfl ?_
    refine L_yes (d := 7) rfl rfl rfl rfl rfl ?_
    refine O_call (args := [.int .i64 r1, .int .i64 0, .int .i64 11]) en87 rfl (C_l01In r1 0 11 _) ?_
    rintro _ _ ⟨rfl, rfl⟩
    refine L_yesrun (e := 7) (v := .bool (!(decide (0 ≤ r1) && decide (r1 ≤ 11)))) rfl rfl rfl (R_not rfl) rfl ?_
    refine L_run (v := .bool (!(decide (0 ≤ r1) && decide (r1 ≤ 11)))) (R_pick_f rfl rfl) rfl ?_
    refine L_run (v := .bool (!(decide (0 ≤ r1) && decide (r1 ≤ 11)))) (R_move rfl) rfl ?_
    rcases Bool.eq_false_or_eq_true (!(decide (0 ≤ r1) && decide (r1 ≤ 11))) with hg2 | hg2
    · have hg2p := notb_t hg2
      try rw [hg2]
      refine L_no (e := 13) rfl rfl rfl rfl ?_
      refine L_no (e := 13) rfl rfl rfl rfl ?_
      refine L_no (e := 13) rfl rfl rfl rfl ?_
      refine L_no (e := 13) rfl rfl rfl rfl ?_
      refine L_run (v := .bool true) (R_pick_t rfl rfl) rfl ?_
      refine L_run (v := .bool true) (R_move rfl) rfl ?_
      refine L_no (e := 19) rfl rfl rfl rfl ?_
      refine L_no (e := 19) rfl rfl rfl rfl ?_
      refine L_no (e := 19) rfl rfl rfl rfl ?_
      refine L_no (e := 19) rfl rfl rfl rfl ?_
      refine L_run (v := .bool true) (R_pick_t rfl rfl) rfl ?_
      refine L_nil ?_
      refine T_normal ?_
      refine hK3 _ _ ?_
      clear hK3
      refine W_cond true rfl (fun _ => ?_) (fun h => by cases h)
      refine W_seq (fun K5 hK5 => ?_)
      refine W_region ?_
      refine L_run (v := .string (st ([]))) (R_assign rfl) rfl ?_
      refine L_nil ?_
      refine T_normal ?_
      refine hK5 _ _ ?_
      clear hK5
      refine W_ret ?_
      refine T_ret ?_
      refine Q_ret (v := .string (st ([]))) (res1 Tryd.results50 rfl) ?_
      clear hK2
      exact ⟨[], rfl, ⟨fun h => absurd hg2p (inR_b h), fun _ => rfl⟩, (Same.trans (Same.refl All w) (Same.all hs1))⟩
    · have hg2p := notb_f hg2
      try rw [hg2]
      refine L_yesrun (e := 13) (v := .pointer (some ⟨b1, 2, none⟩)) rfl rfl rfl (X_fieldAddr 2 ({ name := "Re", type := 3, offset := 2, embedded := false, tag := "", pkgPath := "", byteOffset := 16 }) rfl Tryd.underlying44 rfl inf3 rfl rfl) rfl ?_
      refine L_yesrun (e := 13) (v := .int .i64 r2) rfl rfl rfl (R_loadB rfl hB1 rfl Tryd.underlying3 rfl) rfl ?_
      refine L_yes (d := 13) rfl rfl rfl rfl rfl ?_
      refine O_call (args := [.int .i64 r2]) en90 rfl (C_l09Code r2 _) ?_
      rintro _ _ ⟨rfl, rfl⟩
      refine L_yesrun (e := 13) (v := .bool (!(decide (-32767 ≤ r2) && decide (r2 ≤ 32767)))) rfl rfl rfl (R_not rfl) rfl ?_
      refine L_run (v := .bool (!(decide (-32767 ≤ r2) && decide (r2 ≤ 32767)))) (R_pick_f rfl rfl) rfl ?_
      refine L_run (v := .bool (!(decide (-32767 ≤ r2) && decide (r2 ≤ 32767)))) (R_move rfl) rfl ?_
      rcases Bool.eq_false_or_eq_true (!(decide (-32767 ≤ r2) && decide (r2 ≤ 32767))) with hg3 | hg3
      · have hg3p := notb_t hg3
        try rw [hg3]
        refine L_no (e := 19) rfl rfl rfl rfl ?_
        refine L_no (e := 19) rfl rfl rfl rfl ?_
        refine L_no (e := 19) rfl rfl rfl rfl ?_
        refine L_no (e := 19) rfl rfl rfl rfl ?_
        refine L_run (v := .bool true) (R_pick_t rfl rfl) rfl ?_
        refine L_nil ?_
        refine T_normal ?_
        refine hK3 _ _ ?_
        clear hK3
        refine W_cond true rfl (fun _ => ?_) (fun h => by cases h)
        refine W_seq (fun K6 hK6 => ?_)
        refine W_region ?_
        refine L_run (v := .string (st ([]))) (R_assign rfl) rfl ?_
        refine L_nil ?_
        refine T_normal ?_
        refine hK6 _ _ ?_
        clear hK6
        refine W_ret ?_
        refine T_ret ?_
        refine Q_ret (v := .string (st ([]))) (res1 Tryd.results50 rfl) ?_
        clear hK2
        exact ⟨[], rfl, ⟨fun h => absurd hg3p (inR_c h), fun _ => rfl⟩, (Same.trans (Same.refl All w) (Same.all hs1))⟩
      · have hg3p := notb_f hg3
        try rw [hg3]
        refine L_yesrun (e := 19) (v := .pointer (some ⟨b1, 3, none⟩)) rfl rfl rfl (X_fieldAddr 3 ({ name := "Im", type := 3, offset := 3, embedded := false, tag := "", pkgPath := "", byteOffset := 24 }) rfl Tryd.underlying44 rfl inf3 rfl rfl) rfl ?_
        refine L_yesrun (e := 19) (v := .int .i64 r3) rfl rfl rfl (R_loadB rfl hB1 rfl Tryd.underlying3 rfl) rfl ?_
        refine L_yes (d := 19) rfl rfl rfl rfl rfl ?_
        refine O_call (args := [.int .i64 r3]) en90 rfl (C_l09Code r3 _) ?_
        rintro _ _ ⟨rfl, rfl⟩
        refine L_yesrun (e := 19) (v := .bool (!(decide (-32767 ≤ r3) && decide (r3 ≤ 32767)))) rfl rfl rfl (R_not rfl) rfl ?_
        refine L_run (v := .bool (!(decide (-32767 ≤ r3) && decide (r3 ≤ 32767)))) (R_pick_f rfl rfl) rfl ?_
        refine L_nil ?_
        refine T_normal ?_
        refine hK3 _ _ ?_
        clear hK3
        refine W_cond (!(decide (-32767 ≤ r3) && decide (r3 ≤ 32767))) rfl (fun hc0 => ?_) (fun hc0 => ?_)
        · have hc0 := notb_t hc0
          refine W_seq (fun K7 hK7 => ?_)
          refine W_region ?_
          refine L_run (v := .string (st ([]))) (R_assign rfl) rfl ?_
          refine L_nil ?_
          refine T_normal ?_
          refine hK7 _ _ ?_
          clear hK7
          refine W_ret ?_
          refine T_ret ?_
          refine Q_ret (v := .string (st ([]))) (res1 Tryd.results50 rfl) ?_
          clear hK2
          exact ⟨[], rfl, ⟨fun h => absurd hc0 (inR_d h), fun _ => rfl⟩, (Same.trans (Same.refl All w) (Same.all hs1))⟩
        · have hc0 := notb_f hc0
          have hq : inR r0 r1 r2 r3 := inR_of hg1p hg2p hg3p hc0
          have hb := inR_lens hq
          refine W_skip ?_
          refine T_normal ?_
          refine hK2 _ _ ?_
          clear hK2
          refine W_seq (fun K8 hK8 => ?_)
          refine W_draw (fun W => Same All w1 W) rfl ?_
          have hd1 : Same All w1 w1.drew := (Same.refl _ _).drew
          refine A_take (i := 0) (v := .pointer (some ⟨b1, 0, none⟩)) (by kernel_rfl) rfl (fun W1 hW1 => X_fieldAddr 0 ({ name := "Meter", type := 3, offset := 0, embedded := false, tag := "", pkgPath := "", byteOffset := 0 }) rfl Tryd.underlying44 rfl inf3 rfl rfl) ?_
          refine A_take (i := 1) (v := .int .i64 r0) (by kernel_rfl) rfl (fun W2 hW2 => by
            have h1 := Bx.same hW2 hB1 trivial
            exact R_loadB rfl h1 rfl Tryd.underlying3 rfl) ?_
          refine A_take (i := 4) (v := .pointer (some ⟨b1, 1, none⟩)) (by kernel_rfl) rfl (fun W3 hW3 => X_fieldAddr 1 ({ name := "At", type := 3, offset := 1, embedded := false, tag := "", pkgPath := "", byteOffset := 8 }) rfl Tryd.underlying44 rfl inf3 rfl rfl) ?_
          refine A_take (i := 5) (v := .int .i64 r1) (by kernel_rfl) rfl (fun W4 hW4 => by
            have h2 := Bx.same hW4 hB1 trivial
            exact R_loadB rfl h2 rfl Tryd.underlying3 rfl) ?_
          refine A_take (i := 9) (v := .pointer (some ⟨b1, 2, none⟩)) (by kernel_rfl) rfl (fun W5 hW5 => X_fieldAddr 2 ({ name := "Re", type := 3, offset := 2, embedded := false, tag := "", pkgPath := "", byteOffset := 16 }) rfl Tryd.underlying44 rfl inf3 rfl rfl) ?_
          refine A_take (i := 10) (v := .int .i64 r2) (by kernel_rfl) rfl (fun W6 hW6 => by
            have h3 := Bx.same hW6 hB1 trivial
            exact R_loadB rfl h3 rfl Tryd.underlying3 rfl) ?_
          refine A_take (i := 14) (v := .pointer (some ⟨b1, 3, none⟩)) (by kernel_rfl) rfl (fun W7 hW7 => X_fieldAddr 3 ({ name := "Im", type := 3, offset := 3, embedded := false, tag := "", pkgPath := "", byteOffset := 24 }) rfl Tryd.underlying44 rfl inf3 rfl rfl) ?_
          refine A_take (i := 15) (v := .int .i64 r3) (by kernel_rfl) rfl (fun W8 hW8 => by
            have h4 := Bx.same hW8 hB1 trivial
            exact R_loadB rfl h4 rfl Tryd.underlying3 rfl) ?_
          refine A_one (i := 2) (by kernel_rfl) rfl rfl rfl hd1 ?_
          refine O_call (args := [.int .i64 r0]) en91 rfl (C_sFormatInt r0 _ (by omega) (by omega)) ?_
          rintro _ w2 ⟨rfl, hs2⟩
          have hd2 : Same All w1 w2 := (Same.trans hd1 (Same.all hs2))
          refine A_take (i := 3) (v := .string (st ((Lib.itoa r0) ++ ([32])))) (by kernel_rfl) rfl (fun W9 hW9 => X_sadd rfl rfl (by (try simp only [List.length_append, List.length_cons, List.length_nil]); omega)) ?_
          refine A_one (i := 6) (by kernel_rfl) rfl rfl rfl hd2 ?_
          refine O_call (args := [.int .i64 r1]) en91 rfl (C_sFormatInt r1 _ (by omega) (by omega)) ?_
          rintro _ w3 ⟨rfl, hs3⟩
          have hd3 : Same All w1 w3 := (Same.trans hd2 (Same.all hs3))
          refine A_take (i := 7) (v := .string (st (((Lib.itoa r0) ++ ([32])) ++ (Lib.itoa r1)))) (by kernel_rfl) rfl (fun W10 hW10 => X_sadd rfl rfl (by (try simp only [List.length_append, List.length_cons, List.length_nil]); omega)) ?_
          refine A_take (i := 8) (v := .string (st ((((Lib.itoa r0) ++ ([32])) ++ (Lib.itoa r1)) ++ ([32])))) (by kernel_rfl) rfl (fun W11 hW11 => X_sadd rfl rfl (by (try simp only [List.length_append, List.length_cons, List.length_nil]); omega)) ?_
          refine A_one (i := 11) (by kernel_rfl) rfl rfl rfl hd3 ?_
          refine O_call (args := [.int .i64 r2]) en91 rfl (C_sFormatInt r2 _ (by omega) (by omega)) ?_
          rintro _ w4 ⟨rfl, hs4⟩
          have hd4 : Same All w1 w4 := (Same.trans hd3 (Same.all hs4))
          refine A_take (i := 12) (v := .string (st (((((Lib.itoa r0) ++ ([32])) ++ (Lib.itoa r1)) ++ ([32])) ++ (Lib.itoa r2)))) (by kernel_rfl) rfl (fun W12 hW12 => X_sadd rfl rfl (by (try simp only [List.length_append, List.length_cons, List.length_nil]); omega)) ?_
          refine A_take (i := 13) (v := .string (st ((((((Lib.itoa r0) ++ ([32])) ++ (Lib.itoa r1)) ++ ([32])) ++ (Lib.itoa r2)) ++ ([32])))) (by kernel_rfl) rfl (fun W13 hW13 => X_sadd rfl rfl (by (try simp only [List.length_append, List.length_cons, List.length_nil]); omega)) ?_
          refine A_one (i := 16) (by kernel_rfl) rfl rfl rfl hd4 ?_
          refine O_call (args := [.int .i64 r3]) en91 rfl (C_sFormatInt r3 _ (by omega) (by omega)) ?_
          rintro _ w5 ⟨rfl, hs5⟩
          have hd5 : Same All w1 w5 := (Same.trans hd4 (Same.all hs5))
          refine A_take (i := 17) (v := .string (st (((((((Lib.itoa r0) ++ ([32])) ++ (Lib.itoa r1)) ++ ([32])) ++ (Lib.itoa r2)) ++ ([32])) ++ (Lib.itoa r3)))) (by kernel_rfl) rfl (fun W14 hW14 => X_sadd rfl rfl (by (try simp only [List.length_append, List.length_cons, List.length_nil]); omega)) ?_
          refine A_take (i := 18) (v := .string (st (((((((Lib.itoa r0) ++ ([32])) ++ (Lib.itoa r1)) ++ ([32])) ++ (Lib.itoa r2)) ++ ([32])) ++ (Lib.itoa r3)))) (by kernel_rfl) rfl (fun W15 hW15 => R_assign rfl) ?_
          refine A_done (by kernel_rfl) hd5 ?_
          refine T_normal ?_
          refine hK8 _ _ ?_
          clear hK8
          refine W_ret ?_
          refine Q_ret (v := .string (st (((((((Lib.itoa r0) ++ ([32])) ++ (Lib.itoa r1)) ++ ([32])) ++ (Lib.itoa r2)) ++ ([32])) ++ (Lib.itoa r3)))) (res1 Tryd.results50 rfl) ?_
          exact ⟨_, rfl, ⟨fun _ => rfl, fun h => absurd hq h⟩, (Same.trans (Same.trans (Same.trans (Same.trans (Same.trans (Same.trans (Same.refl All w) (Same.all hs1)) (Same.all hd1)) (Same.all hs2)) (Same.all hs3)) (Same.all hs4)) (Same.all hs5))⟩

theorem C_iFormatRecord (r0 r1 r2 r3 : Int) (w : World) (htab : Lib.TabIs Tryd.prog w "internal/strconv.uint64pow10" .u64 Lib.pow10Tab) :
    Ret Tryd.prog 52 #[.agg #[.int .i64 r0, .int .i64 r1, .int .i64 r2, .int .i64 r3]] w (fun v w' => ∃ (t : List UInt8), v = .string (st t) ∧ (FRR r0 r1 r2 r3 t) ∧ Same All w w') := by
  refine ret_of (args := [.agg #[.int .i64 r0, .int .i64 r1, .int .i64 r2, .int .i64 r3]]) Tryd.func52 rfl 43 Tryd.ntmps52 rfl ?_
  refine W_seq (fun K1 hK1 => ?_)
  refine W_region ?_
  refine L_op rfl rfl ?_
  refine X_box (.agg #[.int .i64 r0, .int .i64 r1, .int .i64 r2, .int .i64 r3]) #[.int .i64 r0, .int .i64 r1, .int .i64 r2, .int .i64 r3] rfl rfl ?_
  intro b1 w1 hB1g hB1l hs1 hB1
  refine L_run (v := .string (st ([]))) (R_assign rfl) rfl ?_
  refine L_nil ?_
  refine T_normal ?_
  refine hK1 _ _ ?_
  clear hK1
  refine W_seq (fun K2 hK2 => ?_)
  refine W_seq (fun K3 hK3 => ?_)
  refine W_region ?_
  refine L_run (v := .pointer (some ⟨b1, 0, none⟩)) (X_fieldAddr 0 ({ name := "Meter", type := 3, offset := 0, embedded := false, tag := "", pkgPath := "", byteOffset := 0 }) rfl Tryd.underlying44 rfl inf3 rfl rfl) rfl ?_
  refine L_run (v := .int .i64 r0) (R_loadB rfl hB1 rfl Tryd.underlying3 rfl) rfl ?_
  refine L_op rfl rfl ?_
  refine O_call (args := [.int .i64 r0, .int .i64 0, .int .i64 5]) en71 rfl (C_within r0 0 5 _) ?_
  rintro _ _ ⟨rfl, rfl⟩
  refine L_run (v := .bool (!(decide (0 ≤ r0) && decide (r0 ≤ 5)))) (R_not rfl) rfl ?_
  refine L_run (v := .bool (!(decide (0 ≤ r0) && decide (r0 ≤ 5)))) (R_move rfl) rfl ?_
  rcases Bool.eq_false_or_eq_true (!(decide (0 ≤ r0) && decide (r0 ≤ 5))) with hg1 | hg1
  · have hg1p := notb_t hg1
    try rw [hg1]
    refine L_no (e := 7) rfl rfl rfl rfl ?_
    refine L_no (e := 7) rfl rfl rfl rfl ?_
    refine L_no (e := 7) rfl rfl rfl rfl ?_
    refine L_no (e := 7) rfl rfl rfl rfl ?_
    refine L_run (v := .bool true) (R_pick_t rfl rfl) rfl ?_
    refine L_run (v := .bool true) (R_move rfl) rfl ?_
    refine L_no (e := 13) rfl rfl rfl rfl ?_
    refine L_no (e := 13) rfl rfl rfl rfl ?_
    refine L_no (e := 13) rfl rfl rfl rfl ?_
    refine L_no (e := 13) rfl rfl rfl rfl ?_
    refine L_run (v := .bool true) (R_pick_t rfl rfl) rfl ?_
    refine L_run (v := .bool true) (R_move rfl) rfl ?_
    refine L_no (e := 19) rfl rfl rfl rfl ?_
    refine L_no (e := 19) rfl rfl rfl rfl ?_
    refine L_no (e := 19) rfl rfl rfl rfl ?_
    refine L_no (e := 19) rfl rfl rfl rfl ?_
    refine L_run (v := .bool true) (R_pick_t rfl rfl) rfl ?_
    refine L_nil ?_
    refine T_normal ?_
    refine hK3 _ _ ?_
    clear hK3
    refine W_cond true rfl (fun _ => ?_) (fun h => by cases h)
    refine W_seq (fun K4 hK4 => ?_)
    refine W_region ?_
    refine L_run (v := .string (st ([]))) (R_assign rfl) rfl ?_
    refine L_nil ?_
    refine T_normal ?_
    refine hK4 _ _ ?_
    clear hK4
    refine W_ret ?_
    refine T_ret ?_
    refine Q_ret (v := .string (st ([]))) (res1 Tryd.results52 rfl) ?_
    clear hK2
    exact ⟨[], rfl, ⟨fun h => absurd hg1p (inR_a h), fun _ => rfl⟩, (Same.trans (Same.refl All w) (Same.all hs1))⟩
  · have hg1p := notb_f hg1
    try rw [hg1]
    refine L_yesrun (e := 7) (v := .pointer (some ⟨b1, 1, none⟩)) rfl rfl rfl (X_fieldAddr 1 ({ name := "At", type := 3, offset := 1, embedded := false, tag := "", pkgPath := "", byteOffset := 8 }) rfl Tryd.underlying44 rfl inf3 rfl rfl) rfl ?_
    refine L_yesrun (e := 7) (v := .int .i64 r1) rfl rfl rfl (R_loadB rfl hB1 rfl Tryd.underlying3 rfl) rfl ?_
    refine L_yes (d := 7) rfl rfl rfl rfl rfl ?_
    refine O_call (args := [.int .i64 r1, .int .i64 0, .int .i64 11]) en71 rfl (C_within r1 0 11 _) ?_
    rintro _ _ ⟨rfl, rfl⟩
    refine L_yesrun (e := 7) (v := .bool (!(decide (0 ≤ r1) && decide (r1 ≤ 11)))) rfl rfl rfl (R_not rfl) rfl ?_
    refine L_run (v := .bool (!(decide (0 ≤ r1) && decide (r1 ≤ 11)))) (R_pick_f rfl rfl) rfl ?_
    refine L_run (v := .bool (!(decide (0 ≤ r1) && decide (r1 ≤ 11)))) (R_move rfl) rfl ?_
    rcases Bool.eq_false_or_eq_true (!(decide (0 ≤ r1) && decide (r1 ≤ 11))) with hg2 | hg2
    · have hg2p := notb_t hg2
      try rw [hg2]
      refine L_no (e := 13) rfl rfl rfl rfl ?_
      refine L_no (e := 13) rfl rfl rfl rfl ?_
      refine L_no (e := 13) rfl rfl rfl rfl ?_
      refine L_no (e := 13) rfl rfl rfl rfl ?_
      refine L_run (v := .bool true) (R_pick_t rfl rfl) rfl ?_
      refine L_run (v := .bool true) (R_move rfl) rfl ?_
      refine L_no (e := 19) rfl rfl rfl rfl ?_
      refine L_no (e := 19) rfl rfl rfl rfl ?_
      refine L_no (e := 19) rfl rfl rfl rfl ?_
      refine L_no (e := 19) rfl rfl rfl rfl ?_
      refine L_run (v := .bool true) (R_pick_t rfl rfl) rfl ?_
      refine L_nil ?_
      refine T_normal ?_
      refine hK3 _ _ ?_
      clear hK3
      refine W_cond true rfl (fun _ => ?_) (fun h => by cases h)
      refine W_seq (fun K5 hK5 => ?_)
      refine W_region ?_
      refine L_run (v := .string (st ([]))) (R_assign rfl) rfl ?_
      refine L_nil ?_
      refine T_normal ?_
      refine hK5 _ _ ?_
      clear hK5
      refine W_ret ?_
      refine T_ret ?_
      refine Q_ret (v := .string (st ([]))) (res1 Tryd.results52 rfl) ?_
      clear hK2
      exact ⟨[], rfl, ⟨fun h => absurd hg2p (inR_b h), fun _ => rfl⟩, (Same.trans (Same.refl All w) (Same.all hs1))⟩
    · have hg2p := notb_f hg2
      try rw [hg2]
      refine L_yesrun (e := 13) (v := .pointer (some ⟨b1, 2, none⟩)) rfl rfl rfl (X_fieldAddr 2 ({ name := "Re", type := 3, offset := 2, embedded := false, tag := "", pkgPath := "", byteOffset := 16 }) rfl Tryd.underlying44 rfl inf3 rfl rfl) rfl ?_
      refine L_yesrun (e := 13) (v := .int .i64 r2) rfl rfl rfl (R_loadB rfl hB1 rfl Tryd.underlying3 rfl) rfl ?_
      refine L_yes (d := 13) rfl rfl rfl rfl rfl ?_
      refine O_call (args := [.int .i64 r2]) en93 rfl (C_codeOk r2 _) ?_
      rintro _ _ ⟨rfl, rfl⟩
      refine L_yesrun (e := 13) (v := .bool (!(decide (-32767 ≤ r2) && decide (r2 ≤ 32767)))) rfl rfl rfl (R_not rfl) rfl ?_
      refine L_run (v := .bool (!(decide (-32767 ≤ r2) && decide (r2 ≤ 32767)))) (R_pick_f rfl rfl) rfl ?_
      refine L_run (v := .bool (!(decide (-32767 ≤ r2) && decide (r2 ≤ 32767)))) (R_move rfl) rfl ?_
      rcases Bool.eq_false_or_eq_true (!(decide (-32767 ≤ r2) && decide (r2 ≤ 32767))) with hg3 | hg3
      · have hg3p := notb_t hg3
        try rw [hg3]
        refine L_no (e := 19) rfl rfl rfl rfl ?_
        refine L_no (e := 19) rfl rfl rfl rfl ?_
        refine L_no (e := 19) rfl rfl rfl rfl ?_
        refine L_no (e := 19) rfl rfl rfl rfl ?_
        refine L_run (v := .bool true) (R_pick_t rfl rfl) rfl ?_
        refine L_nil ?_
        refine T_normal ?_
        refine hK3 _ _ ?_
        clear hK3
        refine W_cond true rfl (fun _ => ?_) (fun h => by cases h)
        refine W_seq (fun K6 hK6 => ?_)
        refine W_region ?_
        refine L_run (v := .string (st ([]))) (R_assign rfl) rfl ?_
        refine L_nil ?_
        refine T_normal ?_
        refine hK6 _ _ ?_
        clear hK6
        refine W_ret ?_
        refine T_ret ?_
        refine Q_ret (v := .string (st ([]))) (res1 Tryd.results52 rfl) ?_
        clear hK2
        exact ⟨[], rfl, ⟨fun h => absurd hg3p (inR_c h), fun _ => rfl⟩, (Same.trans (Same.refl All w) (Same.all hs1))⟩
      · have hg3p := notb_f hg3
        try rw [hg3]
        refine L_yesrun (e := 19) (v := .pointer (some ⟨b1, 3, none⟩)) rfl rfl rfl (X_fieldAddr 3 ({ name := "Im", type := 3, offset := 3, embedded := false, tag := "", pkgPath := "", byteOffset := 24 }) rfl Tryd.underlying44 rfl inf3 rfl rfl) rfl ?_
        refine L_yesrun (e := 19) (v := .int .i64 r3) rfl rfl rfl (R_loadB rfl hB1 rfl Tryd.underlying3 rfl) rfl ?_
        refine L_yes (d := 19) rfl rfl rfl rfl rfl ?_
        refine O_call (args := [.int .i64 r3]) en93 rfl (C_codeOk r3 _) ?_
        rintro _ _ ⟨rfl, rfl⟩
        refine L_yesrun (e := 19) (v := .bool (!(decide (-32767 ≤ r3) && decide (r3 ≤ 32767)))) rfl rfl rfl (R_not rfl) rfl ?_
        refine L_run (v := .bool (!(decide (-32767 ≤ r3) && decide (r3 ≤ 32767)))) (R_pick_f rfl rfl) rfl ?_
        refine L_nil ?_
        refine T_normal ?_
        refine hK3 _ _ ?_
        clear hK3
        refine W_cond (!(decide (-32767 ≤ r3) && decide (r3 ≤ 32767))) rfl (fun hc0 => ?_) (fun hc0 => ?_)
        · have hc0 := notb_t hc0
          refine W_seq (fun K7 hK7 => ?_)
          refine W_region ?_
          refine L_run (v := .string (st ([]))) (R_assign rfl) rfl ?_
          refine L_nil ?_
          refine T_normal ?_
          refine hK7 _ _ ?_
          clear hK7
          refine W_ret ?_
          refine T_ret ?_
          refine Q_ret (v := .string (st ([]))) (res1 Tryd.results52 rfl) ?_
          clear hK2
          exact ⟨[], rfl, ⟨fun h => absurd hc0 (inR_d h), fun _ => rfl⟩, (Same.trans (Same.refl All w) (Same.all hs1))⟩
        · have hc0 := notb_f hc0
          have hq : inR r0 r1 r2 r3 := inR_of hg1p hg2p hg3p hc0
          have hb := inR_lens hq
          refine W_skip ?_
          refine T_normal ?_
          refine hK2 _ _ ?_
          clear hK2
          refine W_seq (fun K8 hK8 => ?_)
          refine W_draw (fun W => Same All w1 W) rfl ?_
          have hd1 : Same All w1 w1.drew := (Same.refl _ _).drew
          refine A_take (i := 0) (v := .pointer (some ⟨b1, 0, none⟩)) (by kernel_rfl) rfl (fun W1 hW1 => X_fieldAddr 0 ({ name := "Meter", type := 3, offset := 0, embedded := false, tag := "", pkgPath := "", byteOffset := 0 }) rfl Tryd.underlying44 rfl inf3 rfl rfl) ?_
          refine A_take (i := 1) (v := .int .i64 r0) (by kernel_rfl) rfl (fun W2 hW2 => by
            have h1 := Bx.same hW2 hB1 trivial
            exact R_loadB rfl h1 rfl Tryd.underlying3 rfl) ?_
          refine A_take (i := 4) (v := .pointer (some ⟨b1, 1, none⟩)) (by kernel_rfl) rfl (fun W3 hW3 => X_fieldAddr 1 ({ name := "At", type := 3, offset := 1, embedded := false, tag := "", pkgPath := "", byteOffset := 8 }) rfl Tryd.underlying44 rfl inf3 rfl rfl) ?_
          refine A_take (i := 5) (v := .int .i64 r1) (by kernel_rfl) rfl (fun W4 hW4 => by
            have h2 := Bx.same hW4 hB1 trivial
            exact R_loadB rfl h2 rfl Tryd.underlying3 rfl) ?_
          refine A_take (i := 9) (v := .pointer (some ⟨b1, 2, none⟩)) (by kernel_rfl) rfl (fun W5 hW5 => X_fieldAddr 2 ({ name := "Re", type := 3, offset := 2, embedded := false, tag := "", pkgPath := "", byteOffset := 16 }) rfl Tryd.underlying44 rfl inf3 rfl rfl) ?_
          refine A_take (i := 10) (v := .int .i64 r2) (by kernel_rfl) rfl (fun W6 hW6 => by
            have h3 := Bx.same hW6 hB1 trivial
            exact R_loadB rfl h3 rfl Tryd.underlying3 rfl) ?_
          refine A_take (i := 14) (v := .pointer (some ⟨b1, 3, none⟩)) (by kernel_rfl) rfl (fun W7 hW7 => X_fieldAddr 3 ({ name := "Im", type := 3, offset := 3, embedded := false, tag := "", pkgPath := "", byteOffset := 24 }) rfl Tryd.underlying44 rfl inf3 rfl rfl) ?_
          refine A_take (i := 15) (v := .int .i64 r3) (by kernel_rfl) rfl (fun W8 hW8 => by
            have h4 := Bx.same hW8 hB1 trivial
            exact R_loadB rfl h4 rfl Tryd.underlying3 rfl) ?_
          refine A_one (i := 2) (by kernel_rfl) rfl rfl rfl hd1 ?_
          refine O_call (args := [.int .i64 r0]) en60 rfl (C_iFormatInt r0 _ (tab_same htab (Same.trans (Same.trans (Same.refl All w) (Same.all hs1)) (Same.all hd1))) (by omega) (by omega)) ?_
          rintro _ w2 ⟨rfl, hs2⟩
          have hd2 : Same All w1 w2 := (Same.trans hd1 (Same.all hs2))
          refine A_take (i := 3) (v := .string (st ((Lib.itoa r0) ++ ([32])))) (by kernel_rfl) rfl (fun W9 hW9 => X_sadd rfl rfl (by (try simp only [List.length_append, List.length_cons, List.length_nil]); omega)) ?_
          refine A_one (i := 6) (by kernel_rfl) rfl rfl rfl hd2 ?_
          refine O_call (args := [.int .i64 r1]) en60 rfl (C_iFormatInt r1 _ (tab_same htab (Same.trans (Same.trans (Same.trans (Same.refl All w) (Same.all hs1)) (Same.all hd1)) (Same.all hs2))) (by omega) (by omega)) ?_
          rintro _ w3 ⟨rfl, hs3⟩
          have hd3 : Same All w1 w3 := (Same.trans hd2 (Same.all hs3))
          refine A_take (i := 7) (v := .string (st (((Lib.itoa r0) ++ ([32])) ++ (Lib.itoa r1)))) (by kernel_rfl) rfl (fun W10 hW10 => X_sadd rfl rfl (by (try simp only [List.length_append, List.length_cons, List.length_nil]); omega)) ?_
          refine A_take (i := 8) (v := .string (st ((((Lib.itoa r0) ++ ([32])) ++ (Lib.itoa r1)) ++ ([32])))) (by kernel_rfl) rfl (fun W11 hW11 => X_sadd rfl rfl (by (try simp only [List.length_append, List.length_cons, List.length_nil]); omega)) ?_
          refine A_one (i := 11) (by kernel_rfl) rfl rfl rfl hd3 ?_
          refine O_call (args := [.int .i64 r2]) en60 rfl (C_iFormatInt r2 _ (tab_same htab (Same.trans (Same.trans (Same.trans (Same.trans (Same.refl All w) (Same.all hs1)) (Same.all hd1)) (Same.all hs2)) (Same.all hs3))) (by omega) (by omega)) ?_
          rintro _ w4 ⟨rfl, hs4⟩
          have hd4 : Same All w1 w4 := (Same.trans hd3 (Same.all hs4))
          refine A_take (i := 12) (v := .string (st (((((Lib.itoa r0) ++ ([32])) ++ (Lib.itoa r1)) ++ ([32])) ++ (Lib.itoa r2)))) (by kernel_rfl) rfl (fun W12 hW12 => X_sadd rfl rfl (by (try simp only [List.length_append, List.length_cons, List.length_nil]); omega)) ?_
          refine A_take (i := 13) (v := .string (st ((((((Lib.itoa r0) ++ ([32])) ++ (Lib.itoa r1)) ++ ([32])) ++ (Lib.itoa r2)) ++ ([32])))) (by kernel_rfl) rfl (fun W13 hW13 => X_sadd rfl rfl (by (try simp only [List.length_append, List.length_cons, List.length_nil]); omega)) ?_
          refine A_one (i := 16) (by kernel_rfl) rfl rfl rfl hd4 ?_
          refine O_call (args := [.int .i64 r3]) en60 rfl (C_iFormatInt r3 _ (tab_same htab (Same.trans (Same.trans (Same.trans (Same.trans (Same.trans (Same.refl All w) (Same.all hs1)) (Same.all hd1)) (Same.all hs2)) (Same.all hs3)) (Same.all hs4))) (by omega) (by omega)) ?_
          rintro _ w5 ⟨rfl, hs5⟩
          have hd5 : Same All w1 w5 := (Same.trans hd4 (Same.all hs5))
          refine A_take (i := 17) (v := .string (st (((((((Lib.itoa r0) ++ ([32])) ++ (Lib.itoa r1)) ++ ([32])) ++ (Lib.itoa r2)) ++ ([32])) ++ (Lib.itoa r3)))) (by kernel_rfl) rfl (fun W14 hW14 => X_sadd rfl rfl (by (try simp only [List.length_append, List.length_cons, List.length_nil]); omega)) ?_
          refine A_take (i := 18) (v := .string (st (((((((Lib.itoa r0) ++ ([32])) ++ (Lib.itoa r1)) ++ ([32])) ++ (Lib.itoa r2)) ++ ([32])) ++ (Lib.itoa r3)))) (by kernel_rfl) rfl (fun W15 hW15 => R_assign rfl) ?_
          refine A_done (by kernel_rfl) hd5 ?_
          refine T_normal ?_
          refine hK8 _ _ ?_
          clear hK8
          refine W_ret ?_
          refine Q_ret (v := .string (st (((((((Lib.itoa r0) ++ ([32])) ++ (Lib.itoa r1)) ++ ([32])) ++ (Lib.itoa r2)) ++ ([32])) ++ (Lib.itoa r3)))) (res1 Tryd.results52 rfl) ?_
          exact ⟨_, rfl, ⟨fun _ => rfl, fun h => absurd hq h⟩, (Same.trans (Same.trans (Same.trans (Same.trans (Same.trans (Same.trans (Same.refl All w) (Same.all hs1)) (Same.all hd1)) (Same.all hs2)) (Same.all hs3)) (Same.all hs4)) (Same.all hs5))⟩

theorem C_l09Int (s : List UInt8) (w : World) :
    Ret Tryd.prog 49 #[.string (st s)] w (fun v w' => ∃ (r : Int) (ok : Bool), v = .tuple #[.int .i64 r, .bool ok] ∧ (LI s r ok) ∧ Same All w w') := by
  refine ret_of (args := [.string (st s)]) Tryd.func49 rfl 32 Tryd.ntmps49 rfl ?_
  refine W_seq (fun K1 hK1 => ?_)
  refine W_region ?_
  refine L_run (v := .int .i64 0) (R_assign rfl) rfl ?_
  refine L_run (v := .bool false) (R_assign rfl) rfl ?_
  refine L_nil ?_
  refine T_normal ?_
  refine hK1 _ _ ?_
  clear hK1
  refine W_seq (fun K2 hK2 => ?_)
  refine W_seq (fun K3 hK3 => ?_)
  refine W_region ?_
  refine L_run (v := .string (st s)) (R_move rfl) rfl ?_
  refine L_run (v := .int .i64 (s.length : Int)) (X_slen Tryd.underlying9 rfl) rfl ?_
  refine L_run (v := .bool (decide (1 < (s.length : Int)))) (R_gtr rfl rfl) rfl ?_
  refine L_run (v := .bool (decide (1 < (s.length : Int)))) (R_move rfl) rfl ?_
  rcases Bool.eq_false_or_eq_true (decide (1 < (s.length : Int))) with hg1 | hg1
  · have hg1p := of_decide_eq_true hg1
    try rw [hg1]
    refine L_yesrun (e := 11) (v := .string (st s)) rfl rfl rfl (R_move rfl) rfl ?_
    refine L_yesrun (e := 11) (v := .int .u8 ((s.getD 0 0).toNat : Int)) rfl rfl rfl (X_sindex 0 Tryd.underlying9 rfl rfl rfl (by omega)) rfl ?_
    refine L_yesrun (e := 11) (v := .bool (decide (((s.getD 0 0).toNat : Int) = 45))) rfl rfl rfl (R_eql rfl rfl) rfl ?_
    refine L_run (v := .bool (decide (((s.getD 0 0).toNat : Int) = 45))) (R_pick_t rfl rfl) rfl ?_
    refine L_nil ?_
    refine T_normal ?_
    refine hK3 _ _ ?_
    clear hK3
    refine W_cond (decide (((s.getD 0 0).toNat : Int) = 45)) rfl (fun hc0 => ?_) (fun hc0 => ?_)
    · have hc0 := of_decide_eq_true hc0
      refine W_seq (fun K4 hK4 => ?_)
      refine W_region ?_
      refine L_run (v := .string (st s)) (R_move rfl) rfl ?_
      refine L_run (v := .string (st (s.drop 1))) (X_sslice1 1 rfl ⟨_, _, rfl, rfl⟩ (by omega) Tryd.underlying9) rfl ?_
      refine L_op rfl rfl ?_
      refine O_call (args := [.string (st (s.drop 1))]) en89 rfl (C_sParseUint (s.drop 1) _) ?_
      rintro _ w1 ⟨r1, ok1, rfl, hpu1, hs1⟩
      have hlehpu1 := PU.le hpu1
      refine L_run (v := .tuple #[.int .i64 r1, .bool ok1]) (R_move rfl) rfl ?_
      refine L_run (v := .int .i64 r1) (R_extract rfl rfl) rfl ?_
      refine L_run (v := .bool ok1) (R_extract rfl rfl) rfl ?_
      refine L_run (v := .int .i64 r1) (R_assign rfl) rfl ?_
      refine L_run (v := .bool ok1) (R_assign rfl) rfl ?_
      refine L_nil ?_
      refine T_normal ?_
      refine hK4 _ _ ?_
      clear hK4
      refine W_seq (fun K5 hK5 => ?_)
      refine W_region ?_
      refine L_run (v := .int .i64 r1) (R_move rfl) rfl ?_
      refine L_run (v := .int .i64 (-r1)) (R_neg rfl (by omega) (by omega)) rfl ?_
      refine L_run (v := .bool ok1) (R_move rfl) rfl ?_
      refine L_run (v := .int .i64 (-r1)) (R_assign rfl) rfl ?_
      refine L_run (v := .bool ok1) (R_assign rfl) rfl ?_
      refine L_nil ?_
      refine T_normal ?_
      refine hK5 _ _ ?_
      clear hK5
      refine W_ret ?_
      refine T_ret ?_
      refine Q_ret (v := .tuple #[.int .i64 (-r1), .bool ok1]) (res2 Tryd.results49 rfl rfl) ?_
      clear hK2
      exact ⟨_, _, rfl, LI_minus hpu1 hc0, (Same.trans (Same.refl All w) (Same.all hs1))⟩
    · have hc0 := of_decide_eq_false hc0
      refine W_skip ?_
      refine T_normal ?_
      refine hK2 _ _ ?_
      clear hK2
      refine W_seq (fun K6 hK6 => ?_)
      refine W_region ?_
      refine L_run (v := .string (st s)) (R_move rfl) rfl ?_
      refine L_op rfl rfl ?_
      refine O_call (args := [.string (st s)]) en89 rfl (C_sParseUint s _) ?_
      rintro _ w2 ⟨r2, ok2, rfl, hpu2, hs2⟩
      have hlehpu2 := PU.le hpu2
      refine L_run (v := .tuple #[.int .i64 r2, .bool ok2]) (R_move rfl) rfl ?_
      refine L_run (v := .int .i64 r2) (R_extract rfl rfl) rfl ?_
      refine L_run (v := .bool ok2) (R_extract rfl rfl) rfl ?_
      refine L_run (v := .int .i64 r2) (R_assign rfl) rfl ?_
      refine L_run (v := .bool ok2) (R_assign rfl) rfl ?_
      refine L_nil ?_
      refine T_normal ?_
      refine hK6 _ _ ?_
      clear hK6
      refine W_seq (fun K7 hK7 => ?_)
      refine W_region ?_
      refine L_run (v := .int .i64 r2) (R_move rfl) rfl ?_
      refine L_run (v := .bool ok2) (R_move rfl) rfl ?_
      refine L_run (v := .int .i64 r2) (R_assign rfl) rfl ?_
      refine L_run (v := .bool ok2) (R_assign rfl) rfl ?_
      refine L_nil ?_
      refine T_normal ?_
      refine hK7 _ _ ?_
      clear hK7
      refine W_ret ?_
      refine Q_ret (v := .tuple #[.int .i64 r2, .bool ok2]) (res2 Tryd.results49 rfl rfl) ?_
      exact ⟨_, _, rfl, LI_plus hpu2 (.inr hc0), (Same.trans (Same.refl All w) (Same.all hs2))⟩
  · have hg1p := of_decide_eq_false hg1
    try rw [hg1]
    refine L_no (e := 11) rfl rfl rfl rfl ?_
    refine L_no (e := 11) rfl rfl rfl rfl ?_
    refine L_no (e := 11) rfl rfl rfl rfl ?_
    refine L_run (v := .bool false) (R_pick_f rfl rfl) rfl ?_
    refine L_nil ?_
    refine T_normal ?_
    refine hK3 _ _ ?_
    clear hK3
    refine W_cond false rfl (fun h => by cases h) (fun _ => ?_)
    refine W_skip ?_
    refine T_normal ?_
    refine hK2 _ _ ?_
    clear hK2
    refine W_seq (fun K8 hK8 => ?_)
    refine W_region ?_
    refine L_run (v := .string (st s)) (R_move rfl) rfl ?_
    refine L_op rfl rfl ?_
    refine O_call (args := [.string (st s)]) en89 rfl (C_sParseUint s _) ?_
    rintro _ w3 ⟨r3, ok3, rfl, hpu3, hs3⟩
    have hlehpu3 := PU.le hpu3
    refine L_run (v := .tuple #[.int .i64 r3, .bool ok3]) (R_move rfl) rfl ?_
    refine L_run (v := .int .i64 r3) (R_extract rfl rfl) rfl ?_
    refine L_run (v := .bool ok3) (R_extract rfl rfl) rfl ?_
    refine L_run (v := .int .i64 r3) (R_assign rfl) rfl ?_
    refine L_run (v := .bool ok3) (R_assign rfl) rfl ?_
    refine L_nil ?_
    refine T_normal ?_
    refine hK8 _ _ ?_
    clear hK8
    refine W_seq (fun K9 hK9 => ?_)
    refine W_region ?_
    refine L_run (v := .int .i64 r3) (R_move rfl) rfl ?_
    refine L_run (v := .bool ok3) (R_move rfl) rfl ?_
    refine L_run (v := .int .i64 r3) (R_assign rfl) rfl ?_
    refine L_run (v := .bool ok3) (R_assign rfl) rfl ?_
    refine L_nil ?_
    refine T_normal ?_
    refine hK9 _ _ ?_
    clear hK9
    refine W_ret ?_
    refine Q_ret (v := .tuple #[.int .i64 r3, .bool ok3]) (res2 Tryd.results49 rfl rfl) ?_
    exact ⟨_, _, rfl, LI_plus hpu3 (.inl (by omega)), (Same.trans (Same.refl All w) (Same.all hs3))⟩

end Go.Proofs.YtpfbheodbgkgmaaDoor
