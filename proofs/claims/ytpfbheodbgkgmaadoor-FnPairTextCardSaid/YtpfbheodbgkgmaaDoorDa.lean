/- The walks of the draws: the cursor, and the pair that is drawn. -/
import Derived.Test.YtpfbheodbgkgmaaDoorGxStr
import Derived.Test.YtpfbheodbgkgmaaDoorGxTxt
import Derived.Test.YtpfbheodbgkgmaaDoorChecked
import Derived.Test.YtpfbheodbgkgmaaDoorShelf
import Derived.Test.YtpfbheodbgkgmaaDoorTa
set_option linter.unusedSimpArgs false
set_option linter.unusedVariables false
namespace Go.Proofs.YtpfbheodbgkgmaaDoor
open Go Gx Go.Proofs
attribute [local irreducible] OpW wpL WC anyL Run
theorem inf34 : Inf Tryd.prog 34 1 24 (.slice none 0 0) := inf_of (by kernel_rfl)
theorem inf108 : Inf Tryd.prog 108 3 40 (.agg #[.slice none 0 0, .int .i64 0, .int .i64 0]) := inf_of (by kernel_rfl)
theorem pl108 : ∀ w : World, (((#[{ name := "b", type := 22, offset := 0, embedded := false, tag := "", pkgPath := "loop.example/g03320/spec", byteOffset := 0 }, { name := "i", type := 3, offset := 1, embedded := false, tag := "", pkgPath := "loop.example/g03320/spec", byteOffset := 24 }, { name := "h", type := 3, offset := 2, embedded := false, tag := "", pkgPath := "loop.example/g03320/spec", byteOffset := 32 }] : Array Field).mapM fun f => do pure (f.offset, ← Go.sizeOf f.type)) : Sem (Array (Nat × Nat))).run Tryd.prog w = .ok #[(0, 1), (1, 1), (2, 1)] w := by intro w; kernel_rfl
theorem en32 : Enters Tryd.prog 32 := enters Tryd.func32 rfl (by kernel_rfl)
theorem en33 : Enters Tryd.prog 33 := enters Tryd.func33 rfl (by kernel_rfl)
theorem en34 : Enters Tryd.prog 34 := enters Tryd.func34 rfl (by kernel_rfl)
theorem en70 : Enters Tryd.prog 70 := enters Tryd.func70 rfl (by kernel_rfl)
theorem C_big (codea : Option Addr) (codec : Nat) (code : List UInt8) (w : World) (hcode : Rd u8E All w codea code) :
    Ret Tryd.prog 9 #[.slice codea code.length codec] w (fun v w' => v = .bool (decide ((1048576 : Int) < (code.length : Int))) ∧ w = w') := by
  refine ret_of (args := [.slice codea code.length codec]) Tryd.func9 rfl 6 Tryd.ntmps9 rfl ?_
  refine W_seq (fun K1 hK1 => ?_)
  refine W_region ?_
  refine L_run (v := .bool false) (R_assign rfl) rfl ?_
  refine L_nil ?_
  refine T_normal ?_
  refine hK1 _ _ ?_
  clear hK1
  refine W_seq (fun K2 hK2 => ?_)
  refine W_region ?_
  refine L_run (v := .slice codea code.length codec) (R_move rfl) rfl ?_
  refine L_run (v := .int .i64 (code.length : Int)) (R_len Tryd.underlying22 rfl) rfl ?_
  refine L_run (v := .bool (decide (1048576 < (code.length : Int)))) (R_gtr rfl rfl) rfl ?_
  refine L_run (v := .bool (decide (1048576 < (code.length : Int)))) (R_assign rfl) rfl ?_
  refine L_nil ?_
  refine T_normal ?_
  refine hK2 _ _ ?_
  clear hK2
  refine W_ret ?_
  refine Q_ret (v := .bool (decide (1048576 < (code.length : Int)))) (res1 Tryd.results9 rfl) ?_
  exact ⟨rfl, rfl⟩

theorem C_l01Byte (c : Nat) (w : World) (hcur : Cur c w) :
    Ret Tryd.prog 70 #[.pointer (some ⟨c, 0, none⟩)] w (fun v w' => ∃ (r : Int), v = .int .i64 r ∧ (0 ≤ r) ∧ (r ≤ 255) ∧ (Cur c w') ∧ Same (But c) w w') := by
  obtain ⟨T, a, cap, code, i, h, hB, hR, hi0, hi1, hc⟩ := hcur
  refine ret_of (args := [.pointer (some ⟨c, 0, none⟩)]) Tryd.func70 rfl 58 Tryd.ntmps70 rfl ?_
  refine W_seq (fun K1 hK1 => ?_)
  refine W_region ?_
  refine L_run (v := .int .i64 0) (R_assign rfl) rfl ?_
  refine L_nil ?_
  refine T_normal ?_
  refine hK1 _ _ ?_
  clear hK1
  refine W_seq (fun K2 hK2 => ?_)
  refine W_region ?_
  refine L_run (v := .pointer (some ⟨c, 0, none⟩)) (R_move rfl) rfl ?_
  refine L_run (v := .pointer (some ⟨c, 0, none⟩)) (R_move rfl) rfl ?_
  refine L_run (v := .pointer (some ⟨c, 0, none⟩)) (R_nilCheck rfl) rfl ?_
  refine L_run (v := .pointer (some ⟨c, 2, none⟩)) (X_fieldAddr 2 ({ name := "h", type := 3, offset := 2, embedded := false, tag := "", pkgPath := "loop.example/g03320/spec", byteOffset := 32 }) rfl Tryd.underlying108 rfl inf3 rfl rfl) rfl ?_
  refine L_run (v := .int .i64 h) (R_loadB rfl hB rfl Tryd.underlying3 rfl) rfl ?_
  refine L_run (v := .int .i64 (IntKind.wrap .i64 (h * 6364136223846793005))) (R_mulw rfl rfl) rfl ?_
  generalize IntKind.wrap .i64 (h * 6364136223846793005) = x1
  refine L_run (v := .int .i64 (IntKind.wrap .i64 (x1 + 1442695040888963407))) (R_addw rfl rfl) rfl ?_
  generalize IntKind.wrap .i64 (x1 + 1442695040888963407) = x2
  refine L_run (v := .pointer (some ⟨c, 0, none⟩)) (R_nilCheck rfl) rfl ?_
  refine L_run (v := .pointer (some ⟨c, 2, none⟩)) (X_fieldAddr 2 ({ name := "h", type := 3, offset := 2, embedded := false, tag := "", pkgPath := "loop.example/g03320/spec", byteOffset := 32 }) rfl Tryd.underlying108 rfl inf3 rfl rfl) rfl ?_
  refine L_op rfl rfl ?_
  refine X_store (.int .i64 x2) #[.slice a code.length cap, .int .i64 i, .int .i64 x2] rfl rfl inf3 hB rfl rfl rfl rfl ?_
  intro w1 hs1 hB1z hB1
  refine L_nil ?_
  refine T_normal ?_
  refine hK2 _ _ ?_
  clear hK2
  refine W_seq (fun K3 hK3 => ?_)
  refine W_draw (fun W => Same All w1 W) rfl ?_
  have hd1 : Same All w1 w1.drew := (Same.refl _ _).drew
  refine A_take (i := 0) (v := .pointer (some ⟨c, 0, none⟩)) (by kernel_rfl) rfl (fun W1 hW1 => R_move rfl) ?_
  refine A_take (i := 1) (v := .pointer (some ⟨c, 0, none⟩)) (by kernel_rfl) rfl (fun W2 hW2 => R_nilCheck rfl) ?_
  refine A_take (i := 2) (v := .pointer (some ⟨c, 2, none⟩)) (by kernel_rfl) rfl (fun W3 hW3 => X_fieldAddr 2 ({ name := "h", type := 3, offset := 2, embedded := false, tag := "", pkgPath := "loop.example/g03320/spec", byteOffset := 32 }) rfl Tryd.underlying108 rfl inf3 rfl rfl) ?_
  refine A_take (i := 3) (v := .int .i64 x2) (by kernel_rfl) rfl (fun W4 hW4 => by
    have h1 := Bx.same hW4 hB1 trivial
    exact R_loadB rfl h1 rfl Tryd.underlying3 rfl) ?_
  refine A_take (i := 4) (v := .int .i64 (shrI .i64 x2 33)) (by kernel_rfl) rfl (fun W5 hW5 => R_shr rfl rfl (by decide)) ?_
  refine A_take (i := 5) (v := .pointer (some ⟨c, 0, none⟩)) (by kernel_rfl) rfl (fun W6 hW6 => R_move rfl) ?_
  refine A_take (i := 6) (v := .pointer (some ⟨c, 0, none⟩)) (by kernel_rfl) rfl (fun W7 hW7 => R_nilCheck rfl) ?_
  refine A_take (i := 7) (v := .pointer (some ⟨c, 2, none⟩)) (by kernel_rfl) rfl (fun W8 hW8 => X_fieldAddr 2 ({ name := "h", type := 3, offset := 2, embedded := false, tag := "", pkgPath := "loop.example/g03320/spec", byteOffset := 32 }) rfl Tryd.underlying108 rfl inf3 rfl rfl) ?_
  refine A_take (i := 8) (v := .int .i64 x2) (by kernel_rfl) rfl (fun W9 hW9 => by
    have h2 := Bx.same hW9 hB1 trivial
    exact R_loadB rfl h2 rfl Tryd.underlying3 rfl) ?_
  refine A_take (i := 9) (v := .int .i64 (shrI .i64 x2 45)) (by kernel_rfl) rfl (fun W10 hW10 => R_shr rfl rfl (by decide)) ?_
  refine A_take (i := 10) (v := .int .i64 (bxor .i64 (shrI .i64 x2 33) (shrI .i64 x2 45))) (by kernel_rfl) rfl (fun W11 hW11 => R_bxor rfl rfl) ?_
  refine A_take (i := 11) (v := .int .i64 (band .i64 (bxor .i64 (shrI .i64 x2 33) (shrI .i64 x2 45)) 255)) (by kernel_rfl) rfl (fun W12 hW12 => R_band rfl rfl) ?_
  refine A_take (i := 12) (v := .int .i64 (band .i64 (bxor .i64 (shrI .i64 x2 33) (shrI .i64 x2 45)) 255)) (by kernel_rfl) rfl (fun W13 hW13 => R_assign rfl) ?_
  refine A_done (by kernel_rfl) hd1 ?_
  refine T_normal ?_
  refine hK3 _ _ ?_
  clear hK3
  refine W_seq (fun K4 hK4 => ?_)
  refine W_seq (fun K5 hK5 => ?_)
  refine W_draw (fun W => Same All w1.drew W) rfl ?_
  have hd2 : Same All w1.drew w1.drew.drew := (Same.refl _ _).drew
  refine A_take (i := 0) (v := .pointer (some ⟨c, 0, none⟩)) (by kernel_rfl) rfl (fun W14 hW14 => R_move rfl) ?_
  refine A_take (i := 1) (v := .pointer (some ⟨c, 0, none⟩)) (by kernel_rfl) rfl (fun W15 hW15 => R_nilCheck rfl) ?_
  refine A_take (i := 2) (v := .pointer (some ⟨c, 1, none⟩)) (by kernel_rfl) rfl (fun W16 hW16 => X_fieldAddr 1 ({ name := "i", type := 3, offset := 1, embedded := false, tag := "", pkgPath := "loop.example/g03320/spec", byteOffset := 24 }) rfl Tryd.underlying108 rfl inf3 rfl rfl) ?_
  refine A_take (i := 3) (v := .int .i64 i) (by kernel_rfl) rfl (fun W17 hW17 => by
    have h3 := Bx.same hd1 hB1 trivial
    have h4 := Bx.same hW17 h3 trivial
    exact R_loadB rfl h4 rfl Tryd.underlying3 rfl) ?_
  refine A_take (i := 4) (v := .pointer (some ⟨c, 0, none⟩)) (by kernel_rfl) rfl (fun W18 hW18 => R_move rfl) ?_
  refine A_take (i := 5) (v := .pointer (some ⟨c, 0, none⟩)) (by kernel_rfl) rfl (fun W19 hW19 => R_nilCheck rfl) ?_
  refine A_take (i := 6) (v := .pointer (some ⟨c, 0, none⟩)) (by kernel_rfl) rfl (fun W20 hW20 => X_fieldAddr 0 ({ name := "b", type := 22, offset := 0, embedded := false, tag := "", pkgPath := "loop.example/g03320/spec", byteOffset := 0 }) rfl Tryd.underlying108 rfl inf22 rfl rfl) ?_
  refine A_take (i := 7) (v := .slice a code.length cap) (by kernel_rfl) rfl (fun W21 hW21 => by
    have h5 := Bx.same hd1 hB1 trivial
    have h6 := Bx.same hW21 h5 trivial
    exact R_loadB rfl h6 rfl Tryd.underlying22 rfl) ?_
  refine A_take (i := 8) (v := .int .i64 (code.length : Int)) (by kernel_rfl) rfl (fun W22 hW22 => R_len Tryd.underlying22 rfl) ?_
  refine A_take (i := 9) (v := .bool (decide (i < (code.length : Int)))) (by kernel_rfl) rfl (fun W23 hW23 => R_lss rfl rfl) ?_
  refine A_done (by kernel_rfl) hd2 ?_
  refine T_normal ?_
  refine hK5 _ _ ?_
  clear hK5
  refine W_cond (decide (i < (code.length : Int))) rfl (fun hc0 => ?_) (fun hc0 => ?_)
  · have hc0 := of_decide_eq_true hc0
    refine W_seq (fun K6 hK6 => ?_)
    refine W_draw (fun W => Same All w1.drew.drew W) rfl ?_
    have hd3 : Same All w1.drew.drew w1.drew.drew.drew := (Same.refl _ _).drew
    refine A_take (i := 0) (v := .int .i64 (band .i64 (bxor .i64 (shrI .i64 x2 33) (shrI .i64 x2 45)) 255)) (by kernel_rfl) rfl (fun W24 hW24 => R_move rfl) ?_
    refine A_take (i := 1) (v := .pointer (some ⟨c, 0, none⟩)) (by kernel_rfl) rfl (fun W25 hW25 => R_move rfl) ?_
    refine A_take (i := 2) (v := .pointer (some ⟨c, 0, none⟩)) (by kernel_rfl) rfl (fun W26 hW26 => R_nilCheck rfl) ?_
    refine A_take (i := 3) (v := .pointer (some ⟨c, 0, none⟩)) (by kernel_rfl) rfl (fun W27 hW27 => X_fieldAddr 0 ({ name := "b", type := 22, offset := 0, embedded := false, tag := "", pkgPath := "loop.example/g03320/spec", byteOffset := 0 }) rfl Tryd.underlying108 rfl inf22 rfl rfl) ?_
    refine A_take (i := 4) (v := .slice a code.length cap) (by kernel_rfl) rfl (fun W28 hW28 => by
      have h7 := Bx.same hd1 hB1 trivial
      have h8 := Bx.same hd2 h7 trivial
      have h9 := Bx.same hW28 h8 trivial
      exact R_loadB rfl h9 rfl Tryd.underlying22 rfl) ?_
    refine A_take (i := 5) (v := .pointer (some ⟨c, 0, none⟩)) (by kernel_rfl) rfl (fun W29 hW29 => R_move rfl) ?_
    refine A_take (i := 6) (v := .pointer (some ⟨c, 0, none⟩)) (by kernel_rfl) rfl (fun W30 hW30 => R_nilCheck rfl) ?_
    refine A_take (i := 7) (v := .pointer (some ⟨c, 1, none⟩)) (by kernel_rfl) rfl (fun W31 hW31 => X_fieldAddr 1 ({ name := "i", type := 3, offset := 1, embedded := false, tag := "", pkgPath := "loop.example/g03320/spec", byteOffset := 24 }) rfl Tryd.underlying108 rfl inf3 rfl rfl) ?_
    refine A_take (i := 8) (v := .int .i64 i) (by kernel_rfl) rfl (fun W32 hW32 => by
      have h10 := Bx.same hd1 hB1 trivial
      have h11 := Bx.same hd2 h10 trivial
      have h12 := Bx.same hW32 h11 trivial
      exact R_loadB rfl h12 rfl Tryd.underlying3 rfl) ?_
    refine A_take (i := 9) (v := .pointer (some (ix a ((Int.toNat i) * u8E.sz)))) (by kernel_rfl) rfl (fun W33 hW33 => by
      have h13 := Rd.keep hR (by decide) hs1 (by intro k hk hn; have := Same.size hs1; have := Same.size hd1; have := Same.size hd2; have := Same.size hd3; have := Same.size hW33; simp only [All, But, Lo, LoBut] at *; omega)
      have h14 := Rd.same h13 (Same.all hd1)
      have h15 := Rd.same h14 (Same.all hd2)
      have h16 := Rd.same h15 (Same.all hW33)
      exact X_indexAddr (E := u8E) (Int.toNat i) rfl rfl h16 (by omega) (by omega) Tryd.underlying22 inf5 rfl) ?_
    refine A_take (i := 10) (v := .int .u8 ((code.getD (Int.toNat i) 0).toNat : Int)) (by kernel_rfl) rfl (fun W34 hW34 => by
      have h17 := Rd.keep hR (by decide) hs1 (by intro k hk hn; have := Same.size hs1; have := Same.size hd1; have := Same.size hd2; have := Same.size hd3; have := Same.size hW34; simp only [All, But, Lo, LoBut] at *; omega)
      have h18 := Rd.same h17 (Same.all hd1)
      have h19 := Rd.same h18 (Same.all hd2)
      have h20 := Rd.same h19 (Same.all hW34)
      exact R_loadE (E := u8E) (j := 0) (e := (code.getD (Int.toNat i) 0)) rfl h20 (get_byte _ (by omega)) rfl Tryd.underlying5 rfl) ?_
    refine A_take (i := 11) (v := .int .i64 ((code.getD (Int.toNat i) 0).toNat : Int)) (by kernel_rfl) rfl (fun W35 hW35 => R_ii64 (Option.isSome_iff_exists.2 ⟨_, Tryd.underlying5⟩) Tryd.underlying3 rfl (by omega) (by have := byte_lt (code.getD (Int.toNat i) 0); omega)) ?_
    refine A_take (i := 12) (v := .int .i64 (IntKind.wrap .i64 ((band .i64 (bxor .i64 (shrI .i64 x2 33) (shrI .i64 x2 45)) 255) + ((code.getD (Int.toNat i) 0).toNat : Int)))) (by kernel_rfl) rfl (fun W36 hW36 => R_addw rfl rfl) ?_
    refine A_take (i := 13) (v := .int .i64 (band .i64 (IntKind.wrap .i64 ((band .i64 (bxor .i64 (shrI .i64 x2 33) (shrI .i64 x2 45)) 255) + ((code.getD (Int.toNat i) 0).toNat : Int))) 255)) (by kernel_rfl) rfl (fun W37 hW37 => R_band rfl rfl) ?_
    refine A_take (i := 14) (v := .int .i64 (band .i64 (IntKind.wrap .i64 ((band .i64 (bxor .i64 (shrI .i64 x2 33) (shrI .i64 x2 45)) 255) + ((code.getD (Int.toNat i) 0).toNat : Int))) 255)) (by kernel_rfl) rfl (fun W38 hW38 => R_assign rfl) ?_
    refine A_done (by kernel_rfl) hd3 ?_
    refine T_normal ?_
    refine hK6 _ _ ?_
    clear hK6
    refine W_region ?_
    refine L_run (v := .pointer (some ⟨c, 0, none⟩)) (R_move rfl) rfl ?_
    refine L_run (v := .pointer (some ⟨c, 0, none⟩)) (R_move rfl) rfl ?_
    refine L_run (v := .pointer (some ⟨c, 0, none⟩)) (R_nilCheck rfl) rfl ?_
    refine L_run (v := .pointer (some ⟨c, 1, none⟩)) (X_fieldAddr 1 ({ name := "i", type := 3, offset := 1, embedded := false, tag := "", pkgPath := "loop.example/g03320/spec", byteOffset := 24 }) rfl Tryd.underlying108 rfl inf3 rfl rfl) rfl ?_
    have h21 := Bx.same hd1 hB1 trivial
    have h22 := Bx.same hd2 h21 trivial
    have h23 := Bx.same hd3 h22 trivial
    refine L_run (v := .int .i64 i) (R_loadB rfl h23 rfl Tryd.underlying3 rfl) rfl ?_
    refine L_run (v := .int .i64 (i + 1)) (R_add rfl rfl (by omega) (by omega)) rfl ?_
    refine L_run (v := .pointer (some ⟨c, 0, none⟩)) (R_nilCheck rfl) rfl ?_
    refine L_run (v := .pointer (some ⟨c, 1, none⟩)) (X_fieldAddr 1 ({ name := "i", type := 3, offset := 1, embedded := false, tag := "", pkgPath := "loop.example/g03320/spec", byteOffset := 24 }) rfl Tryd.underlying108 rfl inf3 rfl rfl) rfl ?_
    refine L_op rfl rfl ?_
    refine X_store (.int .i64 (i + 1)) #[.slice a code.length cap, .int .i64 (i + 1), .int .i64 x2] rfl rfl inf3 h23 rfl rfl rfl rfl ?_
    intro w2 hs2 hB2z hB2
    refine L_nil ?_
    refine T_normal ?_
    refine hK4 _ _ ?_
    clear hK4
    refine W_seq (fun K7 hK7 => ?_)
    refine W_region ?_
    refine L_run (v := .int .i64 (band .i64 (IntKind.wrap .i64 ((band .i64 (bxor .i64 (shrI .i64 x2 33) (shrI .i64 x2 45)) 255) + ((code.getD (Int.toNat i) 0).toNat : Int))) 255)) (R_move rfl) rfl ?_
    refine L_run (v := .int .i64 (band .i64 (IntKind.wrap .i64 ((band .i64 (bxor .i64 (shrI .i64 x2 33) (shrI .i64 x2 45)) 255) + ((code.getD (Int.toNat i) 0).toNat : Int))) 255)) (R_assign rfl) rfl ?_
    refine L_nil ?_
    refine T_normal ?_
    refine hK7 _ _ ?_
    clear hK7
    refine W_ret ?_
    refine Q_ret (v := .int .i64 (band .i64 (IntKind.wrap .i64 ((band .i64 (bxor .i64 (shrI .i64 x2 33) (shrI .i64 x2 45)) 255) + ((code.getD (Int.toNat i) 0).toNat : Int))) 255)) (res1 Tryd.results70 rfl) ?_
    have h24 := Rd.keep hR (by decide) hs1 (by intro k hk hn; have := Same.size hs1; have := Same.size hd1; have := Same.size hd2; have := Same.size hd3; have := Same.size hs2; simp only [All, But, Lo, LoBut] at *; omega)
    have h25 := Rd.same h24 (Same.all hd1)
    have h26 := Rd.same h25 (Same.all hd2)
    have h27 := Rd.same h26 (Same.all hd3)
    have h28 := Rd.keep h27 (by decide) hs2 (by intro k hk hn; have := Same.size hs1; have := Same.size hd1; have := Same.size hd2; have := Same.size hd3; have := Same.size hs2; simp only [All, But, Lo, LoBut] at *; omega)
    have hb := band_255 (IntKind.wrap .i64 ((band .i64 (bxor .i64 (shrI .i64 x2 33) (shrI .i64 x2 45)) 255) + ((code.getD (Int.toNat i) 0).toNat : Int)))
    exact ⟨_, rfl, hb.1, hb.2, ⟨_, a, cap, code, i + 1, x2, hB2, h28, by omega, by omega, hc⟩, (Same.trans (Same.trans (Same.trans (Same.trans (Same.trans (Same.refl (But c) w) hs1) (Same.all hd1)) (Same.all hd2)) (Same.all hd3)) hs2)⟩
  · have hc0 := of_decide_eq_false hc0
    refine W_skip ?_
    refine T_normal ?_
    refine hK4 _ _ ?_
    clear hK4
    refine W_seq (fun K8 hK8 => ?_)
    refine W_region ?_
    refine L_run (v := .int .i64 (band .i64 (bxor .i64 (shrI .i64 x2 33) (shrI .i64 x2 45)) 255)) (R_move rfl) rfl ?_
    refine L_run (v := .int .i64 (band .i64 (bxor .i64 (shrI .i64 x2 33) (shrI .i64 x2 45)) 255)) (R_assign rfl) rfl ?_
    refine L_nil ?_
    refine T_normal ?_
    refine hK8 _ _ ?_
    clear hK8
    refine W_ret ?_
    refine Q_ret (v := .int .i64 (band .i64 (bxor .i64 (shrI .i64 x2 33) (shrI .i64 x2 45)) 255)) (res1 Tryd.results70 rfl) ?_
    have h29 := Bx.same hd1 hB1 trivial
    have h30 := Bx.same hd2 h29 trivial
    have h31 := Rd.keep hR (by decide) hs1 (by intro k hk hn; have := Same.size hs1; have := Same.size hd1; have := Same.size hd2; simp only [All, But, Lo, LoBut] at *; omega)
    have h32 := Rd.same h31 (Same.all hd1)
    have h33 := Rd.same h32 (Same.all hd2)
    have hb := band_255 (bxor .i64 (shrI .i64 x2 33) (shrI .i64 x2 45))
    exact ⟨_, rfl, hb.1, hb.2, ⟨_, a, cap, code, i, x2, h30, h33, by omega, by omega, hc⟩, (Same.trans (Same.trans (Same.trans (Same.refl (But c) w) hs1) (Same.all hd1)) (Same.all hd2))⟩

theorem C_l01Below (c : Nat) (n : Int) (w : World) (hcur : Cur c w) :
    Ret Tryd.prog 34 #[.pointer (some ⟨c, 0, none⟩), .int .i64 n] w (fun v w' => ∃ (r : Int), v = .int .i64 r ∧ (0 ≤ r) ∧ (0 < n → r < n) ∧ (n ≤ 0 → r = 0) ∧ (Cur c w') ∧ Same (But c) w w') := by
  refine ret_of (args := [.pointer (some ⟨c, 0, none⟩), .int .i64 n]) Tryd.func34 rfl 37 Tryd.ntmps34 rfl ?_
  refine W_seq (fun K1 hK1 => ?_)
  refine W_region ?_
  refine L_run (v := .int .i64 0) (R_assign rfl) rfl ?_
  refine L_nil ?_
  refine T_normal ?_
  refine hK1 _ _ ?_
  clear hK1
  refine W_seq (fun K2 hK2 => ?_)
  refine W_seq (fun K3 hK3 => ?_)
  refine W_region ?_
  refine L_run (v := .int .i64 n) (R_move rfl) rfl ?_
  refine L_run (v := .bool (decide (n ≤ 0))) (R_leq rfl rfl) rfl ?_
  refine L_nil ?_
  refine T_normal ?_
  refine hK3 _ _ ?_
  clear hK3
  refine W_cond (decide (n ≤ 0)) rfl (fun hc0 => ?_) (fun hc0 => ?_)
  · have hc0 := of_decide_eq_true hc0
    refine W_seq (fun K4 hK4 => ?_)
    refine W_region ?_
    refine L_run (v := .int .i64 0) (R_assign rfl) rfl ?_
    refine L_nil ?_
    refine T_normal ?_
    refine hK4 _ _ ?_
    clear hK4
    refine W_ret ?_
    refine T_ret ?_
    refine Q_ret (v := .int .i64 0) (res1 Tryd.results34 rfl) ?_
    clear hK2
    exact ⟨0, rfl, Int.le_refl _, fun h => by omega, fun _ => rfl, hcur, (Same.refl (But c) w)⟩
  · have hc0 := of_decide_eq_false hc0
    refine W_skip ?_
    refine T_normal ?_
    refine hK2 _ _ ?_
    clear hK2
    refine W_seq (fun K5 hK5 => ?_)
    refine W_seq (fun K6 hK6 => ?_)
    refine W_region ?_
    refine L_run (v := .int .i64 n) (R_move rfl) rfl ?_
    refine L_run (v := .bool (decide (n ≤ 256))) (R_leq rfl rfl) rfl ?_
    refine L_nil ?_
    refine T_normal ?_
    refine hK6 _ _ ?_
    clear hK6
    refine W_cond (decide (n ≤ 256)) rfl (fun hc1 => ?_) (fun hc1 => ?_)
    · have hc1 := of_decide_eq_true hc1
      refine W_seq (fun K7 hK7 => ?_)
      refine W_region ?_
      refine L_run (v := .pointer (some ⟨c, 0, none⟩)) (R_move rfl) rfl ?_
      refine L_op rfl rfl ?_
      refine O_call (args := [.pointer (some ⟨c, 0, none⟩)]) en70 rfl (C_l01Byte c _ (hcur)) ?_
      rintro _ w1 ⟨r1, rfl, h01, h11, hcur1, hs1⟩
      refine L_run (v := .int .i64 n) (R_move rfl) rfl ?_
      refine L_run (v := .int .i64 (r1 % n)) (R_rem rfl rfl (by omega) (by omega)) rfl ?_
      refine L_run (v := .int .i64 (r1 % n)) (R_assign rfl) rfl ?_
      refine L_nil ?_
      refine T_normal ?_
      refine hK7 _ _ ?_
      clear hK7
      refine W_ret ?_
      refine T_ret ?_
      refine Q_ret (v := .int .i64 (r1 % n)) (res1 Tryd.results34 rfl) ?_
      clear hK5
      exact ⟨_, rfl, Int.emod_nonneg _ (by omega), fun h => Int.emod_lt_of_pos _ (by omega), fun h => by omega, hcur1, (Same.trans (Same.refl (But c) w) hs1)⟩
    · have hc1 := of_decide_eq_false hc1
      refine W_skip ?_
      refine T_normal ?_
      refine hK5 _ _ ?_
      clear hK5
      refine W_seq (fun K8 hK8 => ?_)
      refine W_region ?_
      refine L_run (v := .pointer (some ⟨c, 0, none⟩)) (R_move rfl) rfl ?_
      refine L_op rfl rfl ?_
      refine O_call (args := [.pointer (some ⟨c, 0, none⟩)]) en70 rfl (C_l01Byte c _ (hcur)) ?_
      rintro _ w2 ⟨r2, rfl, h02, h12, hcur2, hs2⟩
      refine L_run (v := .int .i64 r2) (R_assign rfl) rfl ?_
      refine L_nil ?_
      refine T_normal ?_
      refine hK8 _ _ ?_
      clear hK8
      refine W_seq (fun K9 hK9 => ?_)
      refine W_region ?_
      refine L_run (v := .pointer (some ⟨c, 0, none⟩)) (R_move rfl) rfl ?_
      refine L_op rfl rfl ?_
      refine O_call (args := [.pointer (some ⟨c, 0, none⟩)]) en70 rfl (C_l01Byte c _ (hcur2)) ?_
      rintro _ w3 ⟨r3, rfl, h03, h13, hcur3, hs3⟩
      refine L_run (v := .int .i64 r3) (R_assign rfl) rfl ?_
      refine L_nil ?_
      refine T_normal ?_
      refine hK9 _ _ ?_
      clear hK9
      refine W_seq (fun K10 hK10 => ?_)
      refine W_region ?_
      refine L_run (v := .pointer (some ⟨c, 0, none⟩)) (R_move rfl) rfl ?_
      refine L_op rfl rfl ?_
      refine O_call (args := [.pointer (some ⟨c, 0, none⟩)]) en70 rfl (C_l01Byte c _ (hcur3)) ?_
      rintro _ w4 ⟨r4, rfl, h04, h14, hcur4, hs4⟩
      refine L_run (v := .int .i64 r4) (R_assign rfl) rfl ?_
      refine L_nil ?_
      refine T_normal ?_
      refine hK10 _ _ ?_
      clear hK10
      refine W_seq (fun K11 hK11 => ?_)
      refine W_region ?_
      refine L_run (v := .pointer (some ⟨c, 0, none⟩)) (R_move rfl) rfl ?_
      refine L_op rfl rfl ?_
      refine O_call (args := [.pointer (some ⟨c, 0, none⟩)]) en70 rfl (C_l01Byte c _ (hcur4)) ?_
      rintro _ w5 ⟨r5, rfl, h05, h15, hcur5, hs5⟩
      refine L_run (v := .int .i64 r5) (R_assign rfl) rfl ?_
      refine L_nil ?_
      refine T_normal ?_
      refine hK11 _ _ ?_
      clear hK11
      refine W_seq (fun K12 hK12 => ?_)
      refine W_region ?_
      refine L_run (v := .int .i64 r2) (R_move rfl) rfl ?_
      refine L_run (v := .int .i64 (r2 * 16777216)) (R_mul rfl rfl (by omega) (by omega)) rfl ?_
      refine L_run (v := .int .i64 r3) (R_move rfl) rfl ?_
      refine L_run (v := .int .i64 (r3 * 65536)) (R_mul rfl rfl (by omega) (by omega)) rfl ?_
      refine L_run (v := .int .i64 ((r2 * 16777216) + (r3 * 65536))) (R_add rfl rfl (by omega) (by omega)) rfl ?_
      refine L_run (v := .int .i64 r4) (R_move rfl) rfl ?_
      refine L_run (v := .int .i64 (r4 * 256)) (R_mul rfl rfl (by omega) (by omega)) rfl ?_
      refine L_run (v := .int .i64 (((r2 * 16777216) + (r3 * 65536)) + (r4 * 256))) (R_add rfl rfl (by omega) (by omega)) rfl ?_
      refine L_run (v := .int .i64 r5) (R_move rfl) rfl ?_
      refine L_run (v := .int .i64 ((((r2 * 16777216) + (r3 * 65536)) + (r4 * 256)) + r5)) (R_add rfl rfl (by omega) (by omega)) rfl ?_
      refine L_run (v := .int .i64 n) (R_move rfl) rfl ?_
      refine L_run (v := .int .i64 (((((r2 * 16777216) + (r3 * 65536)) + (r4 * 256)) + r5) % n)) (R_rem rfl rfl (by omega) (by omega)) rfl ?_
      refine L_run (v := .int .i64 (((((r2 * 16777216) + (r3 * 65536)) + (r4 * 256)) + r5) % n)) (R_assign rfl) rfl ?_
      refine L_nil ?_
      refine T_normal ?_
      refine hK12 _ _ ?_
      clear hK12
      refine W_ret ?_
      refine Q_ret (v := .int .i64 (((((r2 * 16777216) + (r3 * 65536)) + (r4 * 256)) + r5) % n)) (res1 Tryd.results34 rfl) ?_
      exact ⟨_, rfl, Int.emod_nonneg _ (by omega), fun h => Int.emod_lt_of_pos _ (by omega), fun h => by omega, hcur5, (Same.trans (Same.trans (Same.trans (Same.trans (Same.refl (But c) w) hs2) hs3) hs4) hs5)⟩

theorem C_l01PickInt (c : Nat) (lista : Option Addr) (listc : Nat) (list : List Int) (w : World) (hlist : Rd intE (But c) w lista list) (hcur : Cur c w) (hl : 0 < list.length) :
    Ret Tryd.prog 33 #[.pointer (some ⟨c, 0, none⟩), .slice lista list.length listc] w (fun v w' => ∃ (r : Int), v = .int .i64 r ∧ (r ∈ list) ∧ (Cur c w') ∧ Same (But c) w w') := by
  refine ret_of (args := [.pointer (some ⟨c, 0, none⟩), .slice lista list.length listc]) Tryd.func33 rfl 12 Tryd.ntmps33 rfl ?_
  refine W_seq (fun K1 hK1 => ?_)
  refine W_region ?_
  refine L_run (v := .int .i64 0) (R_assign rfl) rfl ?_
  refine L_nil ?_
  refine T_normal ?_
  refine hK1 _ _ ?_
  clear hK1
  refine W_seq (fun K2 hK2 => ?_)
  refine W_region ?_
  refine L_run (v := .slice lista list.length listc) (R_move rfl) rfl ?_
  refine L_run (v := .pointer (some ⟨c, 0, none⟩)) (R_move rfl) rfl ?_
  refine L_run (v := .slice lista list.length listc) (R_move rfl) rfl ?_
  refine L_run (v := .int .i64 (list.length : Int)) (R_len Tryd.underlying34 rfl) rfl ?_
  refine L_op rfl rfl ?_
  refine O_call (args := [.pointer (some ⟨c, 0, none⟩), .int .i64 (list.length : Int)]) en34 rfl (C_l01Below c (list.length : Int) _ (hcur)) ?_
  rintro _ w1 ⟨r1, rfl, h01, h11, h21, hcur1, hs1⟩
  have h1 := Rd.same hlist hs1
  refine L_run (v := .pointer (some (ix lista ((Int.toNat r1) * intE.sz)))) (X_indexAddr (E := intE) (Int.toNat r1) rfl rfl h1 (by omega) (by omega) Tryd.underlying34 inf3 rfl) rfl ?_
  refine L_run (v := .int .i64 (list.getD (Int.toNat r1) 0)) (R_loadE (E := intE) (j := 0) (e := (list.getD (Int.toNat r1) 0)) rfl h1 (get_elem _ 0 (by omega)) rfl Tryd.underlying3 rfl) rfl ?_
  refine L_run (v := .int .i64 (list.getD (Int.toNat r1) 0)) (R_assign rfl) rfl ?_
  refine L_nil ?_
  refine T_normal ?_
  refine hK2 _ _ ?_
  clear hK2
  refine W_ret ?_
  refine Q_ret (v := .int .i64 (list.getD (Int.toNat r1) 0)) (res1 Tryd.results33 rfl) ?_
  exact ⟨_, rfl, getD_mem_of _ _ (by omega), hcur1, (Same.trans (Same.refl (But c) w) hs1)⟩

theorem C_l01New (codea : Option Addr) (codec : Nat) (code : List UInt8) (w : World) (hcode : Rd u8E All w codea code) (hlen : code.length ≤ 140737488355328) :
    Ret Tryd.prog 32 #[.slice codea code.length codec] w (fun v w' => ∃ (c : Nat), v = .pointer (some ⟨c, 0, none⟩) ∧ (w.heap.size ≤ c) ∧ (Cur c w') ∧ Same All w w') := by
  refine ret_of (args := [.slice codea code.length codec]) Tryd.func32 rfl 32 Tryd.ntmps32 rfl ?_
  refine W_seq (fun K1 hK1 => ?_)
  refine W_region ?_
  refine L_run (v := .pointer none) (R_assign rfl) rfl ?_
  refine L_nil ?_
  refine T_normal ?_
  refine hK1 _ _ ?_
  clear hK1
  refine W_seq (fun K2 hK2 => ?_)
  refine W_region ?_
  refine L_run (v := .slice codea code.length codec) (R_move rfl) rfl ?_
  refine L_run (v := .int .i64 (code.length : Int)) (R_len Tryd.underlying22 rfl) rfl ?_
  refine L_run (v := .int .i64 (33203 + (code.length : Int))) (R_add rfl rfl (by omega) (by omega)) rfl ?_
  refine L_run (v := .int .i64 (33203 + (code.length : Int))) (R_assign rfl) rfl ?_
  refine L_nil ?_
  refine T_normal ?_
  refine hK2 _ _ ?_
  clear hK2
  refine W_seq (fun K3 hK3 => ?_)
  refine W_seq (fun K4 hK4 => ?_)
  refine W_region ?_
  refine L_run (v := .int .i64 0) (R_assign rfl) rfl ?_
  refine L_nil ?_
  refine T_normal ?_
  refine hK4 _ _ ?_
  clear hK4
  refine W_block ?_
  refine W_loop (G := Nat × Int) [3, 4, 8, 9, 10, 11, 12, 13, 14, 15, 16, 17, 18, 19, 20, 21, 22, 23, 24, 25, 26, 27] (fun (i, h) => [(4, .int .i64 (i : Int)), (3, .int .i64 h)]) (fun (i, h) w' => i ≤ code.length ∧ Same All w w') (fun (i, h) => code.length - i) (0, 33203 + (code.length : Int)) ⟨rfl, rfl, trivial⟩ ?hj0 ?_
  case hj0 => exact ⟨Nat.zero_le _, Same.refl _ _⟩
  rintro ⟨i, h⟩ j1 w1 ⟨hj1, hj2⟩
  refine W_seq (fun K5 hK5 => ?_)
  refine W_seq (fun K6 hK6 => ?_)
  refine W_region ?_
  refine L_run (v := .int .i64 (i : Int)) (R_move rfl) rfl ?_
  refine L_run (v := .slice codea code.length codec) (R_move rfl) rfl ?_
  refine L_run (v := .int .i64 (code.length : Int)) (R_len Tryd.underlying22 rfl) rfl ?_
  refine L_run (v := .bool (decide ((i : Int) < (code.length : Int)))) (R_lss rfl rfl) rfl ?_
  refine L_run (v := .bool (decide ((i : Int) < (code.length : Int)))) (R_move rfl) rfl ?_
  rcases Bool.eq_false_or_eq_true (decide ((i : Int) < (code.length : Int))) with hg1 | hg1
  · have hg1p := of_decide_eq_true hg1
    try rw [hg1]
    refine L_yesrun (e := 12) (v := .int .i64 (i : Int)) rfl rfl rfl (R_move rfl) rfl ?_
    refine L_yesrun (e := 12) (v := .bool (decide ((i : Int) < 4000))) rfl rfl rfl (R_lss rfl rfl) rfl ?_
    refine L_run (v := .bool (decide ((i : Int) < 4000))) (R_pick_t rfl rfl) rfl ?_
    refine L_nil ?_
    refine T_normal ?_
    refine hK6 _ _ ?_
    clear hK6
    refine W_cond (decide ((i : Int) < 4000)) rfl (fun hc0 => ?_) (fun hc0 => ?_)
    · have hc0 := of_decide_eq_true hc0
      refine W_skip ?_
      refine T_normal ?_
      refine hK5 _ _ ?_
      clear hK5
      refine W_seq (fun K7 hK7 => ?_)
      refine W_block ?_
      refine W_region ?_
      refine L_run (v := .int .i64 h) (R_move rfl) rfl ?_
      refine L_run (v := .int .i64 (IntKind.wrap .i64 (h * 131))) (R_mulw rfl rfl) rfl ?_
      generalize IntKind.wrap .i64 (h * 131) = x1
      refine L_run (v := .slice codea code.length codec) (R_move rfl) rfl ?_
      refine L_run (v := .int .i64 (i : Int)) (R_move rfl) rfl ?_
      have h1 := Rd.same hcode (Same.all hj2)
      refine L_run (v := .pointer (some (ix codea (i * u8E.sz)))) (X_indexAddr (E := u8E) i rfl rfl h1 rfl (by omega) Tryd.underlying22 inf5 rfl) rfl ?_
      refine L_run (v := .int .u8 ((code.getD i 0).toNat : Int)) (R_loadE (E := u8E) (j := 0) (e := (code.getD i 0)) rfl h1 (get_elem _ 0 (by omega)) rfl Tryd.underlying5 rfl) rfl ?_
      refine L_run (v := .int .i64 ((code.getD i 0).toNat : Int)) (R_ii64 (Option.isSome_iff_exists.2 ⟨_, Tryd.underlying5⟩) Tryd.underlying3 rfl (by omega) (by have := byte_lt (code.getD i 0); omega)) rfl ?_
      refine L_run (v := .int .i64 (IntKind.wrap .i64 (x1 + ((code.getD i 0).toNat : Int)))) (R_addw rfl rfl) rfl ?_
      generalize IntKind.wrap .i64 (x1 + ((code.getD i 0).toNat : Int)) = x2
      refine L_run (v := .int .i64 (IntKind.wrap .i64 (x2 + 7))) (R_addw rfl rfl) rfl ?_
      generalize IntKind.wrap .i64 (x2 + 7) = x3
      refine L_run (v := .int .i64 (band .i64 x3 1073741823)) (R_band rfl rfl) rfl ?_
      generalize band .i64 x3 1073741823 = x4
      refine L_run (v := .int .i64 x4) (R_assign rfl) rfl ?_
      refine L_nil ?_
      refine B_normal ?_
      refine T_normal ?_
      refine hK7 _ _ ?_
      clear hK7
      refine W_region ?_
      refine L_run (v := .int .i64 (i : Int)) (R_move rfl) rfl ?_
      refine L_run (v := .int .i64 ((i : Int) + 1)) (R_add rfl rfl (by omega) (by omega)) rfl ?_
      refine L_run (v := .int .i64 ((i : Int) + 1)) (R_assign rfl) rfl ?_
      refine L_nil ?_
      refine T_normal ?_
      refine At.mk (i + 1, x4) (Agree.upd rfl (Agree.upd rfl (Agree.upd rfl (Agree.upd rfl (Agree.upd rfl (Agree.upd rfl (Agree.upd rfl (Agree.upd rfl (Agree.upd rfl (Agree.upd rfl (Agree.upd rfl (Agree.upd rfl (Agree.upd rfl (Agree.upd rfl (Agree.upd rfl (Agree.upd rfl (Agree.upd rfl (Agree.upd rfl (Agree.upd rfl (Agree.upd rfl (Agree.upd rfl (Agree.upd rfl (Agree.upds rfl Agree.over))))))))))))))))))))))) ⟨rfl, rfl, trivial⟩ ?_
      exact ⟨⟨by omega, (Same.trans (Same.refl All w) (Same.all hj2))⟩, by dsimp only; omega⟩
    · have hc0 := of_decide_eq_false hc0
      refine W_exit ?_
      refine T_exit ?_
      refine T_exit ?_
      refine B_hit ?_
      refine T_normal ?_
      refine hK3 _ _ ?_
      clear hK3
      refine W_seq (fun K8 hK8 => ?_)
      refine W_region ?_
      refine L_run (v := .slice codea code.length codec) (R_move rfl) rfl ?_
      refine L_run (v := .int .i64 h) (R_move rfl) rfl ?_
      refine L_run (v := .agg #[.slice codea code.length codec, .int .i64 0, .int .i64 h]) (R_build (ps := [(0, .tmp 28), (2, .tmp 29)]) (pv := [(0, .slice codea code.length codec), (2, .int .i64 h)]) (cs := #[.slice codea code.length codec, .int .i64 0, .int .i64 h]) Tryd.underlying108 (inf108).choose_spec.1 (inf108).choose_spec.2.2.2 pl108 rfl rfl) rfl ?_
      refine L_op rfl rfl ?_
      refine X_box (.agg #[.slice codea code.length codec, .int .i64 0, .int .i64 h]) #[.slice codea code.length codec, .int .i64 0, .int .i64 h] rfl rfl ?_
      intro b1 w2 hB1g hB1l hs1 hB1
      refine L_run (v := .pointer (some ⟨b1, 0, none⟩)) (R_assign rfl) rfl ?_
      refine L_nil ?_
      refine T_normal ?_
      refine hK8 _ _ ?_
      clear hK8
      refine W_ret ?_
      refine Q_ret (v := .pointer (some ⟨b1, 0, none⟩)) (res1 Tryd.results32 rfl) ?_
      clear hK5
      have h2 := Rd.same hcode (Same.all hj2)
      have h3 := Rd.same h2 (Same.all hs1)
      have hz1 := Same.size hj2
      have hold := Rd.same (Rd.old hcode (by decide)) (Same.all (Same.trans (Same.trans (Same.refl All w) (Same.all hj2)) (Same.all hs1)))
      exact ⟨b1, rfl, by omega, ⟨_, codea, codec, code, 0, h, hB1, Rd.mono hold (fun k hk => by have := hk.2; simp only [Lo]; omega), by omega, by omega, by omega⟩, (Same.trans (Same.trans (Same.refl All w) (Same.all hj2)) (Same.all hs1))⟩
  · have hg1p := of_decide_eq_false hg1
    try rw [hg1]
    refine L_no (e := 12) rfl rfl rfl rfl ?_
    refine L_no (e := 12) rfl rfl rfl rfl ?_
    refine L_run (v := .bool false) (R_pick_f rfl rfl) rfl ?_
    refine L_nil ?_
    refine T_normal ?_
    refine hK6 _ _ ?_
    clear hK6
    refine W_cond false rfl (fun h => by cases h) (fun _ => ?_)
    refine W_exit ?_
    refine T_exit ?_
    refine T_exit ?_
    refine B_hit ?_
    refine T_normal ?_
    refine hK3 _ _ ?_
    clear hK3
    refine W_seq (fun K9 hK9 => ?_)
    refine W_region ?_
    refine L_run (v := .slice codea code.length codec) (R_move rfl) rfl ?_
    refine L_run (v := .int .i64 h) (R_move rfl) rfl ?_
    refine L_run (v := .agg #[.slice codea code.length codec, .int .i64 0, .int .i64 h]) (R_build (ps := [(0, .tmp 28), (2, .tmp 29)]) (pv := [(0, .slice codea code.length codec), (2, .int .i64 h)]) (cs := #[.slice codea code.length codec, .int .i64 0, .int .i64 h]) Tryd.underlying108 (inf108).choose_spec.1 (inf108).choose_spec.2.2.2 pl108 rfl rfl) rfl ?_
    refine L_op rfl rfl ?_
    refine X_box (.agg #[.slice codea code.length codec, .int .i64 0, .int .i64 h]) #[.slice codea code.length codec, .int .i64 0, .int .i64 h] rfl rfl ?_
    intro b2 w3 hB2g hB2l hs2 hB2
    refine L_run (v := .pointer (some ⟨b2, 0, none⟩)) (R_assign rfl) rfl ?_
    refine L_nil ?_
    refine T_normal ?_
    refine hK9 _ _ ?_
    clear hK9
    refine W_ret ?_
    refine Q_ret (v := .pointer (some ⟨b2, 0, none⟩)) (res1 Tryd.results32 rfl) ?_
    clear hK5
    have h4 := Rd.same hcode (Same.all hj2)
    have h5 := Rd.same h4 (Same.all hs2)
    have hz1 := Same.size hj2
    have hold := Rd.same (Rd.old hcode (by decide)) (Same.all (Same.trans (Same.trans (Same.refl All w) (Same.all hj2)) (Same.all hs2)))
    exact ⟨b2, rfl, by omega, ⟨_, codea, codec, code, 0, h, hB2, Rd.mono hold (fun k hk => by have := hk.2; simp only [Lo]; omega), by omega, by omega, by omega⟩, (Same.trans (Same.trans (Same.refl All w) (Same.all hj2)) (Same.all hs2))⟩

theorem C_DrawFormatPair (codea : Option Addr) (codec : Nat) (code : List UInt8) (w : World) (hcode : Rd u8E All w codea code) (hlen : code.length ≤ 140737488355328) :
    Ret Tryd.prog 10 #[.slice codea code.length codec] w (fun v w' => ∃ (a : Int) (b : Int), v = .tuple #[.int .i64 a, .int .i64 b] ∧ Same All w w') := by
  refine ret_of (args := [.slice codea code.length codec]) Tryd.func10 rfl 21 Tryd.ntmps10 rfl ?_
  refine W_seq (fun K1 hK1 => ?_)
  refine W_region ?_
  refine L_run (v := .int .i64 0) (R_assign rfl) rfl ?_
  refine L_run (v := .int .i64 0) (R_assign rfl) rfl ?_
  refine L_nil ?_
  refine T_normal ?_
  refine hK1 _ _ ?_
  clear hK1
  refine W_seq (fun K2 hK2 => ?_)
  refine W_region ?_
  refine L_run (v := .slice codea code.length codec) (R_move rfl) rfl ?_
  refine L_op rfl rfl ?_
  refine O_call (args := [.slice codea code.length codec]) en32 rfl (C_l01New codea codec code _ hcode (by omega)) ?_
  rintro _ w1 ⟨c1, rfl, hge1, hcur1, hs1⟩
  refine L_run (v := .pointer (some ⟨c1, 0, none⟩)) (R_assign rfl) rfl ?_
  refine L_nil ?_
  refine T_normal ?_
  refine hK2 _ _ ?_
  clear hK2
  refine W_seq (fun K3 hK3 => ?_)
  refine W_region ?_
  refine L_run (v := .pointer (some ⟨c1, 0, none⟩)) (R_move rfl) rfl ?_
  refine L_run (v := .pointer (some ⟨c1, 0, none⟩)) (R_move rfl) rfl ?_
  refine L_op rfl rfl ?_
  refine O_call (args := [.pointer (some ⟨c1, 0, none⟩), .int .i64 2000]) en34 rfl (C_l01Below c1 2000 _ (hcur1)) ?_
  rintro _ w2 ⟨r1, rfl, h01, h11, h21, hcur2, hs2⟩
  refine L_run (v := .int .i64 (r1 - 1000)) (R_sub rfl rfl (by omega) (by omega)) rfl ?_
  refine L_op rfl rfl ?_
  refine X_buildSlice [.const (.int .i64 0), .const (.int .i64 3), .const (.int .i64 (-4)), .const (.int .i64 1000000000), .const (.int .i64 (-1000000000)), .const (.int .i64 1000000001), .const (.int .i64 (-1000000001)), .tmp 11] [.int .i64 0, .int .i64 3, .int .i64 (-4), .int .i64 1000000000, .int .i64 (-1000000000), .int .i64 1000000001, .int .i64 (-1000000001), .int .i64 (r1 - 1000)] #[.int .i64 0, .int .i64 3, .int .i64 (-4), .int .i64 1000000000, .int .i64 (-1000000000), .int .i64 1000000001, .int .i64 (-1000000001), .int .i64 (r1 - 1000)] Tryd.underlying34 inf3 rfl rfl rfl rfl rfl rfl ?_
  intro b1 w3 hB1g hB1l hs3 hB1
  refine L_op rfl rfl ?_
  have h1 := Cur.keep hcur2 hs3 (fun _ _ => trivial)
  refine O_call (args := [.pointer (some ⟨c1, 0, none⟩), .slice (some ⟨b1, 0, none⟩) 8 8]) en33 rfl (C_l01PickInt c1 (some ⟨b1, 0, none⟩) 8 ([0, 3, (-4), 1000000000, (-1000000000), 1000000001, (-1000000001), r1 - 1000]) _ (Bx.rd (E := intE) (l := [0, 3, (-4), 1000000000, (-1000000000), 1000000001, (-1000000001), r1 - 1000]) (N := (But c1)) hB1 (by have := Same.size hs1; have := Same.size hs2; have := Same.size hs3; have := Cur.lt hcur2; simp only [All, But, Lo, LoBut] at *; omega) ⟨[], rfl⟩) (h1) (by simp)) ?_
  rintro _ w4 ⟨r2, rfl, hm1, hcur3, hs4⟩
  refine L_run (v := .int .i64 r2) (R_assign rfl) rfl ?_
  refine L_nil ?_
  refine T_normal ?_
  refine hK3 _ _ ?_
  clear hK3
  refine W_seq (fun K4 hK4 => ?_)
  refine W_region ?_
  refine L_run (v := .int .i64 r2) (R_move rfl) rfl ?_
  refine L_run (v := .pointer (some ⟨c1, 0, none⟩)) (R_move rfl) rfl ?_
  refine L_run (v := .pointer (some ⟨c1, 0, none⟩)) (R_move rfl) rfl ?_
  refine L_op rfl rfl ?_
  refine O_call (args := [.pointer (some ⟨c1, 0, none⟩), .int .i64 2000]) en34 rfl (C_l01Below c1 2000 _ (hcur3)) ?_
  rintro _ w5 ⟨r3, rfl, h02, h12, h22, hcur4, hs5⟩
  refine L_run (v := .int .i64 (r3 - 1000)) (R_sub rfl rfl (by omega) (by omega)) rfl ?_
  refine L_op rfl rfl ?_
  refine X_buildSlice [.const (.int .i64 0), .const (.int .i64 3), .const (.int .i64 (-4)), .const (.int .i64 1000000000), .const (.int .i64 (-1000000001)), .tmp 18] [.int .i64 0, .int .i64 3, .int .i64 (-4), .int .i64 1000000000, .int .i64 (-1000000001), .int .i64 (r3 - 1000)] #[.int .i64 0, .int .i64 3, .int .i64 (-4), .int .i64 1000000000, .int .i64 (-1000000001), .int .i64 (r3 - 1000)] Tryd.underlying34 inf3 rfl rfl rfl rfl rfl rfl ?_
  intro b2 w6 hB2g hB2l hs6 hB2
  refine L_op rfl rfl ?_
  have h2 := Cur.keep hcur4 hs6 (fun _ _ => trivial)
  refine O_call (args := [.pointer (some ⟨c1, 0, none⟩), .slice (some ⟨b2, 0, none⟩) 6 6]) en33 rfl (C_l01PickInt c1 (some ⟨b2, 0, none⟩) 6 ([0, 3, (-4), 1000000000, (-1000000001), r3 - 1000]) _ (Bx.rd (E := intE) (l := [0, 3, (-4), 1000000000, (-1000000001), r3 - 1000]) (N := (But c1)) hB2 (by have := Same.size hs1; have := Same.size hs2; have := Same.size hs3; have := Same.size hs4; have := Same.size hs5; have := Same.size hs6; have := Cur.lt hcur4; simp only [All, But, Lo, LoBut] at *; omega) ⟨[], rfl⟩) (h2) (by simp)) ?_
  rintro _ w7 ⟨r4, rfl, hm2, hcur5, hs7⟩
  refine L_run (v := .int .i64 r2) (R_assign rfl) rfl ?_
  refine L_run (v := .int .i64 r4) (R_assign rfl) rfl ?_
  refine L_nil ?_
  refine T_normal ?_
  refine hK4 _ _ ?_
  clear hK4
  refine W_ret ?_
  refine Q_ret (v := .tuple #[.int .i64 r2, .int .i64 r4]) (res2 Tryd.results10 rfl rfl) ?_
  exact ⟨_, _, rfl, (Same.after' (Same.trans (Same.after' (Same.after' (Same.trans (Same.after' (Same.trans (Same.refl All w) (Same.all hs1)) hs2 (by intro k hk hn; have := Same.size hs1; have := Same.size hs2; have := Same.size hs3; have := Same.size hs4; have := Same.size hs5; have := Same.size hs6; have := Same.size hs7; simp only [All, But, Lo, LoBut] at *; omega)) (Same.all hs3)) hs4 (by intro k hk hn; have := Same.size hs1; have := Same.size hs2; have := Same.size hs3; have := Same.size hs4; have := Same.size hs5; have := Same.size hs6; have := Same.size hs7; simp only [All, But, Lo, LoBut] at *; omega)) hs5 (by intro k hk hn; have := Same.size hs1; have := Same.size hs2; have := Same.size hs3; have := Same.size hs4; have := Same.size hs5; have := Same.size hs6; have := Same.size hs7; simp only [All, But, Lo, LoBut] at *; omega)) (Same.all hs6)) hs7 (by intro k hk hn; have := Same.size hs1; have := Same.size hs2; have := Same.size hs3; have := Same.size hs4; have := Same.size hs5; have := Same.size hs6; have := Same.size hs7; simp only [All, But, Lo, LoBut] at *; omega))⟩

end Go.Proofs.YtpfbheodbgkgmaaDoor
