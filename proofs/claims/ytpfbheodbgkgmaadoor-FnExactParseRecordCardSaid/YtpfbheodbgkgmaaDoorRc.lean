/- The walks of ParseRecord and of the law that holds it against the model. -/
import Derived.Test.YtpfbheodbgkgmaaDoorGxStr
import Derived.Test.YtpfbheodbgkgmaaDoorGxTxt
import Derived.Test.YtpfbheodbgkgmaaDoorChecked
import Derived.Test.YtpfbheodbgkgmaaDoorShelf
import Derived.Test.YtpfbheodbgkgmaaDoorTa
import Derived.Test.YtpfbheodbgkgmaaDoorTb
import Derived.Test.YtpfbheodbgkgmaaDoorTd
import Derived.Test.YtpfbheodbgkgmaaDoorRa
import Derived.Test.YtpfbheodbgkgmaaDoorRb
import Derived.Test.YtpfbheodbgkgmaaDoorRw
import Derived.Test.YtpfbheodbgkgmaaDoorGxRec
set_option linter.unusedSimpArgs false
set_option linter.unusedVariables false
namespace Go.Proofs.YtpfbheodbgkgmaaDoor
open Go Gx Go.Proofs
attribute [local irreducible] OpW wpL WC anyL Run
theorem inf4 : Inf Tryd.prog 4 1 1 (.bool false) := inf_of (by kernel_rfl)
theorem inf81 : Inf Tryd.prog 81 4 32 (.agg #[.int .i64 0, .int .i64 0, .int .i64 0, .int .i64 0]) := inf_of (by kernel_rfl)
theorem en19 : Enters Tryd.prog 19 := enters Tryd.func19 rfl (by kernel_rfl)
theorem en20 : Enters Tryd.prog 20 := enters Tryd.func20 rfl (by kernel_rfl)
theorem en21 : Enters Tryd.prog 21 := enters Tryd.func21 rfl (by kernel_rfl)
theorem en38 : Enters Tryd.prog 38 := enters Tryd.func38 rfl (by kernel_rfl)
theorem en51 : Enters Tryd.prog 51 := enters Tryd.func51 rfl (by kernel_rfl)
theorem en52 : Enters Tryd.prog 52 := enters Tryd.func52 rfl (by kernel_rfl)
theorem C_iParseRecord (s : List UInt8) (w : World) (htab : Lib.TabIs Tryd.prog w "internal/strconv.uint64pow10" .u64 Lib.pow10Tab) (hm : ∃ m, World.cell? w ⟨1, 0, none⟩ = some (.int .i64 m)) (hsz : s.length < 4294967281) :
    Ret Tryd.prog 20 #[.string (st s)] w (fun v w' => ∃ (a : Int) (b : Int) (c : Int) (d : Int) (ok : Bool), v = .tuple #[.agg #[.int .i64 a, .int .i64 b, .int .i64 c, .int .i64 d], .bool ok] ∧ (RP s a b c d ok) ∧ Same All w w') := by
  refine ret_of (args := [.string (st s)]) Tryd.func20 rfl 51 Tryd.ntmps20 rfl ?_
  refine W_seq (fun K1 hK1 => ?_)
  refine W_region ?_
  refine L_op rfl rfl ?_
  refine X_alloc #[.int .i64 0, .int .i64 0, .int .i64 0, .int .i64 0] inf44 rfl ?_
  intro b1 w1 hB1g hB1l hs1 hB1
  refine L_run (v := .bool false) (R_assign rfl) rfl ?_
  refine L_nil ?_
  refine T_normal ?_
  refine hK1 _ _ ?_
  clear hK1
  refine W_seq (fun K2 hK2 => ?_)
  refine W_region ?_
  refine L_run (v := .string (st s)) (R_move rfl) rfl ?_
  refine L_op rfl rfl ?_
  refine O_call (args := [.string (st s), .string (st ([32]))]) en51 rfl (C_Split s _ (mx_same hm (Same.trans (Same.refl All w) (Same.all hs1))) (by omega)) ?_
  rintro _ w2 ⟨bs1, rfl, hrd1, hs2⟩
  refine L_run (v := .slice (some ⟨bs1, 0, none⟩) ((spl s).length) ((spl s).length)) (R_assign rfl) rfl ?_
  refine L_nil ?_
  refine T_normal ?_
  refine hK2 _ _ ?_
  clear hK2
  refine W_seq (fun K3 hK3 => ?_)
  refine W_seq (fun K4 hK4 => ?_)
  refine W_region ?_
  refine L_run (v := .slice (some ⟨bs1, 0, none⟩) ((spl s).length) ((spl s).length)) (R_move rfl) rfl ?_
  refine L_run (v := .int .i64 ((spl s).length : Int)) (R_len Tryd.underlying36 rfl) rfl ?_
  refine L_run (v := .bool (!decide (((spl s).length : Int) = 4))) (R_neq rfl rfl) rfl ?_
  refine L_nil ?_
  refine T_normal ?_
  refine hK4 _ _ ?_
  clear hK4
  refine W_cond (!decide (((spl s).length : Int) = 4)) rfl (fun hc0 => ?_) (fun hc0 => ?_)
  · have hc0 := not_t hc0
    refine W_seq (fun K5 hK5 => ?_)
    refine W_region ?_
    refine L_run (v := .agg #[.int .i64 0, .int .i64 0, .int .i64 0, .int .i64 0]) (R_build (ps := []) (pv := []) (cs := #[.int .i64 0, .int .i64 0, .int .i64 0, .int .i64 0]) Tryd.underlying44 (inf44).choose_spec.1 (inf44).choose_spec.2.2.2 pl44 rfl rfl) rfl ?_
    refine L_op rfl rfl ?_
    have h1 := Bx.same hs2 hB1 trivial
    refine X_store (.agg #[.int .i64 0, .int .i64 0, .int .i64 0, .int .i64 0]) #[.int .i64 0, .int .i64 0, .int .i64 0, .int .i64 0] rfl rfl inf44 h1 rfl rfl rfl rfl ?_
    intro w3 hs3 hB2z hB2
    refine L_run (v := .bool false) (R_assign rfl) rfl ?_
    refine L_nil ?_
    refine T_normal ?_
    refine hK5 _ _ ?_
    clear hK5
    refine W_ret ?_
    refine T_ret ?_
    refine Q_ret (v := .tuple #[.agg #[.int .i64 0, .int .i64 0, .int .i64 0, .int .i64 0], .bool false]) (resC2 Tryd.results20 rfl rfl hB2 Tryd.underlying44 rfl (inf44).choose_spec.1 (inf44).choose_spec.2.1.symm) ?_
    clear hK3
    have hno : ∀ x y z u, inR x y z u → fr x y z u = s → False := by
      intro x y z u hq e
      have e2 : spl s = [Lib.itoa x, Lib.itoa y, Lib.itoa z, Lib.itoa u] := by rw [← e]; exact spl_fr x y z u
      have hb := inR_lens hq
      rw [e2] at hc0; exact hc0 rfl
    exact ⟨0, 0, 0, 0, false, rfl, RP_no hno, (Same.after' (Same.trans (Same.trans (Same.refl All w) (Same.all hs1)) (Same.all hs2)) hs3 (by intro k hk hn; have := Same.size hs1; have := Same.size hs2; have := Same.size hs3; simp only [All, But, Lo, LoBut] at *; omega))⟩
  · have hc0 := not_f hc0
    refine W_skip ?_
    refine T_normal ?_
    refine hK3 _ _ ?_
    clear hK3
    refine W_seq (fun K6 hK6 => ?_)
    refine W_region ?_
    refine L_op rfl rfl ?_
    refine X_alloc #[.int .i64 0, .int .i64 0, .int .i64 0, .int .i64 0] inf81 rfl ?_
    intro b2 w4 hB3g hB3l hs4 hB3
    refine L_nil ?_
    refine T_normal ?_
    refine hK6 _ _ ?_
    clear hK6
    refine W_seq (fun K7 hK7 => ?_)
    refine W_seq (fun K8 hK8 => ?_)
    refine W_region ?_
    refine L_run (v := .slice (some ⟨bs1, 0, none⟩) ((spl s).length) ((spl s).length)) (R_move rfl) rfl ?_
    refine L_run (v := .int .i64 ((spl s).length : Int)) (R_len Tryd.underlying36 rfl) rfl ?_
    refine L_run (v := .int .i64 0) (R_move rfl) rfl ?_
    refine L_nil ?_
    refine T_normal ?_
    refine hK8 _ _ ?_
    clear hK8
    refine W_block ?_
    refine W_loop (G := Nat × Int × Int × Int × Int) [3, 6, 7, 8, 9, 19, 20, 21, 22, 23, 24, 25, 26, 27, 28, 29, 30, 31, 32, 33, 34, 35] (fun (i, n0, n1, n2, n3) => [(19, .int .i64 (i : Int))]) (fun (i, n0, n1, n2, n3) w' => i ≤ 4 ∧ (0 < i → PI ((spl s).getD 0 []) n0 true) ∧ (1 < i → PI ((spl s).getD 1 []) n1 true) ∧ (2 < i → PI ((spl s).getD 2 []) n2 true) ∧ (3 < i → PI ((spl s).getD 3 []) n3 true) ∧ Rd stE (But b2) w' (some ⟨bs1, 0, none⟩) (spl s) ∧ Bx w' b1 44 #[.int .i64 0, .int .i64 0, .int .i64 0, .int .i64 0] ∧ Bx w' b2 81 #[.int .i64 n0, .int .i64 n1, .int .i64 n2, .int .i64 n3] ∧ Same All w w') (fun (i, n0, n1, n2, n3) => 4 - i) (0, 0, 0, 0, 0) ⟨rfl, trivial⟩ ?hj0 ?_
    have h2 := Bx.same hs2 hB1 trivial
    have h3 := Bx.same hs4 h2 trivial
    case hj0 => exact ⟨by omega, fun h => by omega, fun h => by omega, fun h => by omega, fun h => by omega, Rd.same (Rd.fresh hrd1 (by decide) (by omega)) (Same.all (Same.trans (Same.refl All w2) (Same.all hs4))), h3, hB3, (Same.trans (Same.trans (Same.trans (Same.refl All w) (Same.all hs1)) (Same.all hs2)) (Same.all hs4))⟩
    rintro ⟨i, n0, n1, n2, n3⟩ j1 w5 ⟨hj1, hj2, hj3, hj4, hj5, hj6, hj7, hj8, hj9⟩
    rcases (by omega : i = 0 ∨ i = 1 ∨ i = 2 ∨ i = 3 ∨ i = 4) with rfl | rfl | rfl | rfl | rfl
    · skip
      have hz9 := Same.size hj9
      have hl7 := Bx.lt hj7
      have hl8 := Bx.lt hj8
      refine W_seq (fun K9 hK9 => ?_)
      refine W_region ?_
      refine L_run (v := .bool (decide (((0 : Nat) : Int) < ((spl s).length : Int)))) (R_lss rfl rfl) rfl ?_
      refine L_nil ?_
      refine T_normal ?_
      refine hK9 _ _ ?_
      clear hK9
      refine W_seq (fun K10 hK10 => ?_)
      have hc1 : (decide (((0 : Nat) : Int) < ((spl s).length : Int))) = true := decide_eq_true (by omega)
      refine W_cond (decide (((0 : Nat) : Int) < ((spl s).length : Int))) rfl (fun _ => ?_) (fun h => by rw [hc1] at h; cases h)
      refine W_skip ?_
      refine T_normal ?_
      refine hK10 _ _ ?_
      clear hK10
      refine W_seq (fun K11 hK11 => ?_)
      refine W_block ?_
      refine W_seq (fun K12 hK12 => ?_)
      refine W_region ?_
      refine L_run (v := .int .i64 ((0 : Nat) : Int)) (R_move rfl) rfl ?_
      refine L_run (v := .pointer (some (ix (some ⟨bs1, 0, none⟩) (0 * stE.sz)))) (X_indexAddr (E := stE) 0 rfl rfl hj6 rfl (by omega) Tryd.underlying36 inf9 rfl) rfl ?_
      refine L_run (v := .string (st ((spl s).getD 0 []))) (R_loadE (E := stE) (j := 0) (e := ((spl s).getD 0 [])) rfl hj6 (get_elem _ [] (by omega)) rfl Tryd.underlying9 rfl) rfl ?_
      refine L_run (v := .int .i64 ((0 : Nat) : Int)) (R_assign rfl) rfl ?_
      refine L_run (v := .string (st ((spl s).getD 0 []))) (R_assign rfl) rfl ?_
      refine L_nil ?_
      refine T_normal ?_
      refine hK12 _ _ ?_
      clear hK12
      refine W_seq (fun K13 hK13 => ?_)
      refine W_region ?_
      refine L_run (v := .string (st ((spl s).getD 0 []))) (R_move rfl) rfl ?_
      refine L_op rfl rfl ?_
      refine O_call (args := [.string (st ((spl s).getD 0 []))]) en38 rfl (C_parseInt ((spl s).getD 0 []) _ (tab_same htab (Same.trans (Same.refl All w) (Same.all hj9)))) ?_
      rintro _ w6 ⟨r1, ok1, rfl, hpi1, hs5⟩
      have hlehpi1 := PI.le hpi1
      refine L_run (v := .tuple #[.int .i64 r1, .bool ok1]) (R_move rfl) rfl ?_
      refine L_run (v := .int .i64 r1) (R_extract rfl rfl) rfl ?_
      refine L_run (v := .bool ok1) (R_extract rfl rfl) rfl ?_
      refine L_run (v := .int .i64 r1) (R_assign rfl) rfl ?_
      refine L_run (v := .bool ok1) (R_assign rfl) rfl ?_
      refine L_nil ?_
      refine T_normal ?_
      refine hK13 _ _ ?_
      clear hK13
      refine W_seq (fun K14 hK14 => ?_)
      refine W_seq (fun K15 hK15 => ?_)
      refine W_region ?_
      refine L_run (v := .bool ok1) (R_move rfl) rfl ?_
      refine L_run (v := .bool (!ok1)) (R_not rfl) rfl ?_
      refine L_nil ?_
      refine T_normal ?_
      refine hK15 _ _ ?_
      clear hK15
      refine W_cond (!ok1) rfl (fun hc2 => ?_) (fun hc2 => ?_)
      · have hc2 := notb_t hc2
        refine W_seq (fun K16 hK16 => ?_)
        refine W_region ?_
        refine L_run (v := .agg #[.int .i64 0, .int .i64 0, .int .i64 0, .int .i64 0]) (R_build (ps := []) (pv := []) (cs := #[.int .i64 0, .int .i64 0, .int .i64 0, .int .i64 0]) Tryd.underlying44 (inf44).choose_spec.1 (inf44).choose_spec.2.2.2 pl44 rfl rfl) rfl ?_
        refine L_op rfl rfl ?_
        have h4 := Bx.same hs5 hj7 trivial
        refine X_store (.agg #[.int .i64 0, .int .i64 0, .int .i64 0, .int .i64 0]) #[.int .i64 0, .int .i64 0, .int .i64 0, .int .i64 0] rfl rfl inf44 h4 rfl rfl rfl rfl ?_
        intro w7 hs6 hB4z hB4
        refine L_run (v := .bool false) (R_assign rfl) rfl ?_
        refine L_nil ?_
        refine T_normal ?_
        refine hK16 _ _ ?_
        clear hK16
        refine W_ret ?_
        refine T_ret ?_
        refine B_ret ?_
        refine T_ret ?_
        refine T_ret ?_
        refine B_ret ?_
        refine T_ret ?_
        refine Q_ret (v := .tuple #[.agg #[.int .i64 0, .int .i64 0, .int .i64 0, .int .i64 0], .bool false]) (resC2 Tryd.results20 rfl rfl hB4 Tryd.underlying44 rfl (inf44).choose_spec.1 (inf44).choose_spec.2.1.symm) ?_
        clear hK14 hK11 hK7
        have hno : ∀ x y z u, inR x y z u → fr x y z u = s → False := by
          intro x y z u hq e
          have e2 : spl s = [Lib.itoa x, Lib.itoa y, Lib.itoa z, Lib.itoa u] := by rw [← e]; exact spl_fr x y z u
          have hb := inR_lens hq
          rw [e2] at hpi1
          have f := PI.of (k := x) hpi1 (by omega) (by omega)
          rw [hc2] at f; cases f.1
        exact ⟨0, 0, 0, 0, false, rfl, RP_no hno, (Same.after' (Same.trans (Same.trans (Same.refl All w) (Same.all hj9)) (Same.all hs5)) hs6 (by intro k hk hn; have := Same.size hs1; have := Same.size hs2; have := Same.size hs4; have := Same.size hj9; have := Same.size hs5; have := Same.size hs6; simp only [All, But, Lo, LoBut] at *; omega))⟩
      · have hc2 := notb_f hc2
        refine W_skip ?_
        refine T_normal ?_
        refine hK14 _ _ ?_
        clear hK14
        refine W_region ?_
        refine L_run (v := .int .i64 ((0 : Nat) : Int)) (R_move rfl) rfl ?_
        refine L_run (v := .int .i64 r1) (R_move rfl) rfl ?_
        refine L_run (v := .pointer (some ⟨b2, 0, none⟩)) (X_indexArr (k := 0) 0 rfl rfl rfl (by decide) Tryd.underlying81 inf3 rfl rfl) rfl ?_
        refine L_op rfl rfl ?_
        have h5 := Bx.same hs5 hj8 trivial
        refine X_store (.int .i64 r1) #[.int .i64 r1, .int .i64 n1, .int .i64 n2, .int .i64 n3] rfl rfl inf3 h5 rfl rfl rfl rfl ?_
        intro w8 hs7 hB5z hB5
        refine L_nil ?_
        refine B_normal ?_
        refine T_normal ?_
        refine hK11 _ _ ?_
        clear hK11
        refine W_region ?_
        refine L_run (v := .int .i64 (((0 : Nat) : Int) + 1)) (R_add rfl rfl (by omega) (by omega)) rfl ?_
        refine L_run (v := .int .i64 (((0 : Nat) : Int) + 1)) (R_move rfl) rfl ?_
        refine L_nil ?_
        refine T_normal ?_
        refine At.mk (1, r1, n1, n2, n3) (Agree.upd rfl (Agree.upd rfl (Agree.upd rfl (Agree.upd rfl (Agree.upd rfl (Agree.upd rfl (Agree.upd rfl (Agree.upd rfl (Agree.upd rfl (Agree.upd rfl (Agree.upd rfl (Agree.upd rfl (Agree.upd rfl (Agree.upd rfl (Agree.upd rfl (Agree.upd rfl (Agree.upd rfl (Agree.upd rfl (Agree.upd rfl (Agree.upd rfl (Agree.upds rfl Agree.over))))))))))))))))))))) ⟨rfl, trivial⟩ ?_
        have h6 := Rd.same hj6 (Same.all hs5)
        have h7 := Rd.same h6 hs7
        have h8 := Bx.same hs5 hj7 trivial
        have h9 := Bx.same hs7 h8 (by have := Same.size hs1; have := Same.size hs2; have := Same.size hs4; have := Same.size hj9; have := Same.size hs5; have := Same.size hs7; simp only [All, But, Lo, LoBut] at *; omega)
        exact ⟨⟨by omega, fun _ => by rw [hc2] at hpi1; exact hpi1, fun h => by omega, fun h => by omega, fun h => by omega, h7, h9, hB5, (Same.after' (Same.trans (Same.trans (Same.refl All w) (Same.all hj9)) (Same.all hs5)) hs7 (by intro k hk hn; have := Same.size hs1; have := Same.size hs2; have := Same.size hs4; have := Same.size hj9; have := Same.size hs5; have := Same.size hs7; simp only [All, But, Lo, LoBut] at *; omega))⟩, by dsimp only; omega⟩
    · skip
      have hz9 := Same.size hj9
      have hl7 := Bx.lt hj7
      have hl8 := Bx.lt hj8
      refine W_seq (fun K17 hK17 => ?_)
      refine W_region ?_
      refine L_run (v := .bool (decide (((1 : Nat) : Int) < ((spl s).length : Int)))) (R_lss rfl rfl) rfl ?_
      refine L_nil ?_
      refine T_normal ?_
      refine hK17 _ _ ?_
      clear hK17
      refine W_seq (fun K18 hK18 => ?_)
      have hc1 : (decide (((1 : Nat) : Int) < ((spl s).length : Int))) = true := decide_eq_true (by omega)
      refine W_cond (decide (((1 : Nat) : Int) < ((spl s).length : Int))) rfl (fun _ => ?_) (fun h => by rw [hc1] at h; cases h)
      refine W_skip ?_
      refine T_normal ?_
      refine hK18 _ _ ?_
      clear hK18
      refine W_seq (fun K19 hK19 => ?_)
      refine W_block ?_
      refine W_seq (fun K20 hK20 => ?_)
      refine W_region ?_
      refine L_run (v := .int .i64 ((1 : Nat) : Int)) (R_move rfl) rfl ?_
      refine L_run (v := .pointer (some (ix (some ⟨bs1, 0, none⟩) (1 * stE.sz)))) (X_indexAddr (E := stE) 1 rfl rfl hj6 rfl (by omega) Tryd.underlying36 inf9 rfl) rfl ?_
      refine L_run (v := .string (st ((spl s).getD 1 []))) (R_loadE (E := stE) (j := 0) (e := ((spl s).getD 1 [])) rfl hj6 (get_elem _ [] (by omega)) rfl Tryd.underlying9 rfl) rfl ?_
      refine L_run (v := .int .i64 ((1 : Nat) : Int)) (R_assign rfl) rfl ?_
      refine L_run (v := .string (st ((spl s).getD 1 []))) (R_assign rfl) rfl ?_
      refine L_nil ?_
      refine T_normal ?_
      refine hK20 _ _ ?_
      clear hK20
      refine W_seq (fun K21 hK21 => ?_)
      refine W_region ?_
      refine L_run (v := .string (st ((spl s).getD 1 []))) (R_move rfl) rfl ?_
      refine L_op rfl rfl ?_
      refine O_call (args := [.string (st ((spl s).getD 1 []))]) en38 rfl (C_parseInt ((spl s).getD 1 []) _ (tab_same htab (Same.trans (Same.refl All w) (Same.all hj9)))) ?_
      rintro _ w9 ⟨r2, ok2, rfl, hpi2, hs8⟩
      have hlehpi2 := PI.le hpi2
      refine L_run (v := .tuple #[.int .i64 r2, .bool ok2]) (R_move rfl) rfl ?_
      refine L_run (v := .int .i64 r2) (R_extract rfl rfl) rfl ?_
      refine L_run (v := .bool ok2) (R_extract rfl rfl) rfl ?_
      refine L_run (v := .int .i64 r2) (R_assign rfl) rfl ?_
      refine L_run (v := .bool ok2) (R_assign rfl) rfl ?_
      refine L_nil ?_
      refine T_normal ?_
      refine hK21 _ _ ?_
      clear hK21
      refine W_seq (fun K22 hK22 => ?_)
      refine W_seq (fun K23 hK23 => ?_)
      refine W_region ?_
      refine L_run (v := .bool ok2) (R_move rfl) rfl ?_
      refine L_run (v := .bool (!ok2)) (R_not rfl) rfl ?_
      refine L_nil ?_
      refine T_normal ?_
      refine hK23 _ _ ?_
      clear hK23
      refine W_cond (!ok2) rfl (fun hc2 => ?_) (fun hc2 => ?_)
      · have hc2 := notb_t hc2
        refine W_seq (fun K24 hK24 => ?_)
        refine W_region ?_
        refine L_run (v := .agg #[.int .i64 0, .int .i64 0, .int .i64 0, .int .i64 0]) (R_build (ps := []) (pv := []) (cs := #[.int .i64 0, .int .i64 0, .int .i64 0, .int .i64 0]) Tryd.underlying44 (inf44).choose_spec.1 (inf44).choose_spec.2.2.2 pl44 rfl rfl) rfl ?_
        refine L_op rfl rfl ?_
        have h10 := Bx.same hs8 hj7 trivial
        refine X_store (.agg #[.int .i64 0, .int .i64 0, .int .i64 0, .int .i64 0]) #[.int .i64 0, .int .i64 0, .int .i64 0, .int .i64 0] rfl rfl inf44 h10 rfl rfl rfl rfl ?_
        intro w10 hs9 hB6z hB6
        refine L_run (v := .bool false) (R_assign rfl) rfl ?_
        refine L_nil ?_
        refine T_normal ?_
        refine hK24 _ _ ?_
        clear hK24
        refine W_ret ?_
        refine T_ret ?_
        refine B_ret ?_
        refine T_ret ?_
        refine T_ret ?_
        refine B_ret ?_
        refine T_ret ?_
        refine Q_ret (v := .tuple #[.agg #[.int .i64 0, .int .i64 0, .int .i64 0, .int .i64 0], .bool false]) (resC2 Tryd.results20 rfl rfl hB6 Tryd.underlying44 rfl (inf44).choose_spec.1 (inf44).choose_spec.2.1.symm) ?_
        clear hK22 hK19 hK7
        have hno : ∀ x y z u, inR x y z u → fr x y z u = s → False := by
          intro x y z u hq e
          have e2 : spl s = [Lib.itoa x, Lib.itoa y, Lib.itoa z, Lib.itoa u] := by rw [← e]; exact spl_fr x y z u
          have hb := inR_lens hq
          rw [e2] at hpi2
          have f := PI.of (k := y) hpi2 (by omega) (by omega)
          rw [hc2] at f; cases f.1
        exact ⟨0, 0, 0, 0, false, rfl, RP_no hno, (Same.after' (Same.trans (Same.trans (Same.refl All w) (Same.all hj9)) (Same.all hs8)) hs9 (by intro k hk hn; have := Same.size hs1; have := Same.size hs2; have := Same.size hs4; have := Same.size hj9; have := Same.size hs8; have := Same.size hs9; simp only [All, But, Lo, LoBut] at *; omega))⟩
      · have hc2 := notb_f hc2
        refine W_skip ?_
        refine T_normal ?_
        refine hK22 _ _ ?_
        clear hK22
        refine W_region ?_
        refine L_run (v := .int .i64 ((1 : Nat) : Int)) (R_move rfl) rfl ?_
        refine L_run (v := .int .i64 r2) (R_move rfl) rfl ?_
        refine L_run (v := .pointer (some ⟨b2, 1, none⟩)) (X_indexArr (k := 1) 1 rfl rfl rfl (by decide) Tryd.underlying81 inf3 rfl rfl) rfl ?_
        refine L_op rfl rfl ?_
        have h11 := Bx.same hs8 hj8 trivial
        refine X_store (.int .i64 r2) #[.int .i64 n0, .int .i64 r2, .int .i64 n2, .int .i64 n3] rfl rfl inf3 h11 rfl rfl rfl rfl ?_
        intro w11 hs10 hB7z hB7
        refine L_nil ?_
        refine B_normal ?_
        refine T_normal ?_
        refine hK19 _ _ ?_
        clear hK19
        refine W_region ?_
        refine L_run (v := .int .i64 (((1 : Nat) : Int) + 1)) (R_add rfl rfl (by omega) (by omega)) rfl ?_
        refine L_run (v := .int .i64 (((1 : Nat) : Int) + 1)) (R_move rfl) rfl ?_
        refine L_nil ?_
        refine T_normal ?_
        refine At.mk (2, n0, r2, n2, n3) (Agree.upd rfl (Agree.upd rfl (Agree.upd rfl (Agree.upd rfl (Agree.upd rfl (Agree.upd rfl (Agree.upd rfl (Agree.upd rfl (Agree.upd rfl (Agree.upd rfl (Agree.upd rfl (Agree.upd rfl (Agree.upd rfl (Agree.upd rfl (Agree.upd rfl (Agree.upd rfl (Agree.upd rfl (Agree.upd rfl (Agree.upd rfl (Agree.upd rfl (Agree.upds rfl Agree.over))))))))))))))))))))) ⟨rfl, trivial⟩ ?_
        have h12 := Rd.same hj6 (Same.all hs8)
        have h13 := Rd.same h12 hs10
        have h14 := Bx.same hs8 hj7 trivial
        have h15 := Bx.same hs10 h14 (by have := Same.size hs1; have := Same.size hs2; have := Same.size hs4; have := Same.size hj9; have := Same.size hs8; have := Same.size hs10; simp only [All, But, Lo, LoBut] at *; omega)
        exact ⟨⟨by omega, fun _ => hj2 (by omega), fun _ => by rw [hc2] at hpi2; exact hpi2, fun h => by omega, fun h => by omega, h13, h15, hB7, (Same.after' (Same.trans (Same.trans (Same.refl All w) (Same.all hj9)) (Same.all hs8)) hs10 (by intro k hk hn; have := Same.size hs1; have := Same.size hs2; have := Same.size hs4; have := Same.size hj9; have := Same.size hs8; have := Same.size hs10; simp only [All, But, Lo, LoBut] at *; omega))⟩, by dsimp only; omega⟩
    · skip
      have hz9 := Same.size hj9
      have hl7 := Bx.lt hj7
      have hl8 := Bx.lt hj8
      refine W_seq (fun K25 hK25 => ?_)
      refine W_region ?_
      refine L_run (v := .bool (decide (((2 : Nat) : Int) < ((spl s).length : Int)))) (R_lss rfl rfl) rfl ?_
      refine L_nil ?_
      refine T_normal ?_
      refine hK25 _ _ ?_
      clear hK25
      refine W_seq (fun K26 hK26 => ?_)
      have hc1 : (decide (((2 : Nat) : Int) < ((spl s).length : Int))) = true := decide_eq_true (by omega)
      refine W_cond (decide (((2 : Nat) : Int) < ((spl s).length : Int))) rfl (fun _ => ?_) (fun h => by rw [hc1] at h; cases h)
      refine W_skip ?_
      refine T_normal ?_
      refine hK26 _ _ ?_
      clear hK26
      refine W_seq (fun K27 hK27 => ?_)
      refine W_block ?_
      refine W_seq (fun K28 hK28 => ?_)
      refine W_region ?_
      refine L_run (v := .int .i64 ((2 : Nat) : Int)) (R_move rfl) rfl ?_
      refine L_run (v := .pointer (some (ix (some ⟨bs1, 0, none⟩) (2 * stE.sz)))) (X_indexAddr (E := stE) 2 rfl rfl hj6 rfl (by omega) Tryd.underlying36 inf9 rfl) rfl ?_
      refine L_run (v := .string (st ((spl s).getD 2 []))) (R_loadE (E := stE) (j := 0) (e := ((spl s).getD 2 [])) rfl hj6 (get_elem _ [] (by omega)) rfl Tryd.underlying9 rfl) rfl ?_
      refine L_run (v := .int .i64 ((2 : Nat) : Int)) (R_assign rfl) rfl ?_
      refine L_run (v := .string (st ((spl s).getD 2 []))) (R_assign rfl) rfl ?_
      refine L_nil ?_
      refine T_normal ?_
      refine hK28 _ _ ?_
      clear hK28
      refine W_seq (fun K29 hK29 => ?_)
      refine W_region ?_
      refine L_run (v := .string (st ((spl s).getD 2 []))) (R_move rfl) rfl ?_
      refine L_op rfl rfl ?_
      refine O_call (args := [.string (st ((spl s).getD 2 []))]) en38 rfl (C_parseInt ((spl s).getD 2 []) _ (tab_same htab (Same.trans (Same.refl All w) (Same.all hj9)))) ?_
      rintro _ w12 ⟨r3, ok3, rfl, hpi3, hs11⟩
      have hlehpi3 := PI.le hpi3
      refine L_run (v := .tuple #[.int .i64 r3, .bool ok3]) (R_move rfl) rfl ?_
      refine L_run (v := .int .i64 r3) (R_extract rfl rfl) rfl ?_
      refine L_run (v := .bool ok3) (R_extract rfl rfl) rfl ?_
      refine L_run (v := .int .i64 r3) (R_assign rfl) rfl ?_
      refine L_run (v := .bool ok3) (R_assign rfl) rfl ?_
      refine L_nil ?_
      refine T_normal ?_
      refine hK29 _ _ ?_
      clear hK29
      refine W_seq (fun K30 hK30 => ?_)
      refine W_seq (fun K31 hK31 => ?_)
      refine W_region ?_
      refine L_run (v := .bool ok3) (R_move rfl) rfl ?_
      refine L_run (v := .bool (!ok3)) (R_not rfl) rfl ?_
      refine L_nil ?_
      refine T_normal ?_
      refine hK31 _ _ ?_
      clear hK31
      refine W_cond (!ok3) rfl (fun hc2 => ?_) (fun hc2 => ?_)
      · have hc2 := notb_t hc2
        refine W_seq (fun K32 hK32 => ?_)
        refine W_region ?_
        refine L_run (v := .agg #[.int .i64 0, .int .i64 0, .int .i64 0, .int .i64 0]) (R_build (ps := []) (pv := []) (cs := #[.int .i64 0, .int .i64 0, .int .i64 0, .int .i64 0]) Tryd.underlying44 (inf44).choose_spec.1 (inf44).choose_spec.2.2.2 pl44 rfl rfl) rfl ?_
        refine L_op rfl rfl ?_
        have h16 := Bx.same hs11 hj7 trivial
        refine X_store (.agg #[.int .i64 0, .int .i64 0, .int .i64 0, .int .i64 0]) #[.int .i64 0, .int .i64 0, .int .i64 0, .int .i64 0] rfl rfl inf44 h16 rfl rfl rfl rfl ?_
        intro w13 hs12 hB8z hB8
        refine L_run (v := .bool false) (R_assign rfl) rfl ?_
        refine L_nil ?_
        refine T_normal ?_
        refine hK32 _ _ ?_
        clear hK32
        refine W_ret ?_
        refine T_ret ?_
        refine B_ret ?_
        refine T_ret ?_
        refine T_ret ?_
        refine B_ret ?_
        refine T_ret ?_
        refine Q_ret (v := .tuple #[.agg #[.int .i64 0, .int .i64 0, .int .i64 0, .int .i64 0], .bool false]) (resC2 Tryd.results20 rfl rfl hB8 Tryd.underlying44 rfl (inf44).choose_spec.1 (inf44).choose_spec.2.1.symm) ?_
        clear hK30 hK27 hK7
        have hno : ∀ x y z u, inR x y z u → fr x y z u = s → False := by
          intro x y z u hq e
          have e2 : spl s = [Lib.itoa x, Lib.itoa y, Lib.itoa z, Lib.itoa u] := by rw [← e]; exact spl_fr x y z u
          have hb := inR_lens hq
          rw [e2] at hpi3
          have f := PI.of (k := z) hpi3 (by omega) (by omega)
          rw [hc2] at f; cases f.1
        exact ⟨0, 0, 0, 0, false, rfl, RP_no hno, (Same.after' (Same.trans (Same.trans (Same.refl All w) (Same.all hj9)) (Same.all hs11)) hs12 (by intro k hk hn; have := Same.size hs1; have := Same.size hs2; have := Same.size hs4; have := Same.size hj9; have := Same.size hs11; have := Same.size hs12; simp only [All, But, Lo, LoBut] at *; omega))⟩
      · have hc2 := notb_f hc2
        refine W_skip ?_
        refine T_normal ?_
        refine hK30 _ _ ?_
        clear hK30
        refine W_region ?_
        refine L_run (v := .int .i64 ((2 : Nat) : Int)) (R_move rfl) rfl ?_
        refine L_run (v := .int .i64 r3) (R_move rfl) rfl ?_
        refine L_run (v := .pointer (some ⟨b2, 2, none⟩)) (X_indexArr (k := 2) 2 rfl rfl rfl (by decide) Tryd.underlying81 inf3 rfl rfl) rfl ?_
        refine L_op rfl rfl ?_
        have h17 := Bx.same hs11 hj8 trivial
        refine X_store (.int .i64 r3) #[.int .i64 n0, .int .i64 n1, .int .i64 r3, .int .i64 n3] rfl rfl inf3 h17 rfl rfl rfl rfl ?_
        intro w14 hs13 hB9z hB9
        refine L_nil ?_
        refine B_normal ?_
        refine T_normal ?_
        refine hK27 _ _ ?_
        clear hK27
        refine W_region ?_
        refine L_run (v := .int .i64 (((2 : Nat) : Int) + 1)) (R_add rfl rfl (by omega) (by omega)) rfl ?_
        refine L_run (v := .int .i64 (((2 : Nat) : Int) + 1)) (R_move rfl) rfl ?_
        refine L_nil ?_
        refine T_normal ?_
        refine At.mk (3, n0, n1, r3, n3) (Agree.upd rfl (Agree.upd rfl (Agree.upd rfl (Agree.upd rfl (Agree.upd rfl (Agree.upd rfl (Agree.upd rfl (Agree.upd rfl (Agree.upd rfl (Agree.upd rfl (Agree.upd rfl (Agree.upd rfl (Agree.upd rfl (Agree.upd rfl (Agree.upd rfl (Agree.upd rfl (Agree.upd rfl (Agree.upd rfl (Agree.upd rfl (Agree.upd rfl (Agree.upds rfl Agree.over))))))))))))))))))))) ⟨rfl, trivial⟩ ?_
        have h18 := Rd.same hj6 (Same.all hs11)
        have h19 := Rd.same h18 hs13
        have h20 := Bx.same hs11 hj7 trivial
        have h21 := Bx.same hs13 h20 (by have := Same.size hs1; have := Same.size hs2; have := Same.size hs4; have := Same.size hj9; have := Same.size hs11; have := Same.size hs13; simp only [All, But, Lo, LoBut] at *; omega)
        exact ⟨⟨by omega, fun _ => hj2 (by omega), fun _ => hj3 (by omega), fun _ => by rw [hc2] at hpi3; exact hpi3, fun h => by omega, h19, h21, hB9, (Same.after' (Same.trans (Same.trans (Same.refl All w) (Same.all hj9)) (Same.all hs11)) hs13 (by intro k hk hn; have := Same.size hs1; have := Same.size hs2; have := Same.size hs4; have := Same.size hj9; have := Same.size hs11; have := Same.size hs13; simp only [All, But, Lo, LoBut] at *; omega))⟩, by dsimp only; omega⟩
    · skip
      have hz9 := Same.size hj9
      have hl7 := Bx.lt hj7
      have hl8 := Bx.lt hj8
      refine W_seq (fun K33 hK33 => ?_)
      refine W_region ?_
      refine L_run (v := .bool (decide (((3 : Nat) : Int) < ((spl s).length : Int)))) (R_lss rfl rfl) rfl ?_
      refine L_nil ?_
      refine T_normal ?_
      refine hK33 _ _ ?_
      clear hK33
      refine W_seq (fun K34 hK34 => ?_)
      have hc1 : (decide (((3 : Nat) : Int) < ((spl s).length : Int))) = true := decide_eq_true (by omega)
      refine W_cond (decide (((3 : Nat) : Int) < ((spl s).length : Int))) rfl (fun _ => ?_) (fun h => by rw [hc1] at h; cases h)
      refine W_skip ?_
      refine T_normal ?_
      refine hK34 _ _ ?_
      clear hK34
      refine W_seq (fun K35 hK35 => ?_)
      refine W_block ?_
      refine W_seq (fun K36 hK36 => ?_)
      refine W_region ?_
      refine L_run (v := .int .i64 ((3 : Nat) : Int)) (R_move rfl) rfl ?_
      refine L_run (v := .pointer (some (ix (some ⟨bs1, 0, none⟩) (3 * stE.sz)))) (X_indexAddr (E := stE) 3 rfl rfl hj6 rfl (by omega) Tryd.underlying36 inf9 rfl) rfl ?_
      refine L_run (v := .string (st ((spl s).getD 3 []))) (R_loadE (E := stE) (j := 0) (e := ((spl s).getD 3 [])) rfl hj6 (get_elem _ [] (by omega)) rfl Tryd.underlying9 rfl) rfl ?_
      refine L_run (v := .int .i64 ((3 : Nat) : Int)) (R_assign rfl) rfl ?_
      refine L_run (v := .string (st ((spl s).getD 3 []))) (R_assign rfl) rfl ?_
      refine L_nil ?_
      refine T_normal ?_
      refine hK36 _ _ ?_
      clear hK36
      refine W_seq (fun K37 hK37 => ?_)
      refine W_region ?_
      refine L_run (v := .string (st ((spl s).getD 3 []))) (R_move rfl) rfl ?_
      refine L_op rfl rfl ?_
      refine O_call (args := [.string (st ((spl s).getD 3 []))]) en38 rfl (C_parseInt ((spl s).getD 3 []) _ (tab_same htab (Same.trans (Same.refl All w) (Same.all hj9)))) ?_
      rintro _ w15 ⟨r4, ok4, rfl, hpi4, hs14⟩
      have hlehpi4 := PI.le hpi4
      refine L_run (v := .tuple #[.int .i64 r4, .bool ok4]) (R_move rfl) rfl ?_
      refine L_run (v := .int .i64 r4) (R_extract rfl rfl) rfl ?_
      refine L_run (v := .bool ok4) (R_extract rfl rfl) rfl ?_
      refine L_run (v := .int .i64 r4) (R_assign rfl) rfl ?_
      refine L_run (v := .bool ok4) (R_assign rfl) rfl ?_
      refine L_nil ?_
      refine T_normal ?_
      refine hK37 _ _ ?_
      clear hK37
      refine W_seq (fun K38 hK38 => ?_)
      refine W_seq (fun K39 hK39 => ?_)
      refine W_region ?_
      refine L_run (v := .bool ok4) (R_move rfl) rfl ?_
      refine L_run (v := .bool (!ok4)) (R_not rfl) rfl ?_
      refine L_nil ?_
      refine T_normal ?_
      refine hK39 _ _ ?_
      clear hK39
      refine W_cond (!ok4) rfl (fun hc2 => ?_) (fun hc2 => ?_)
      · have hc2 := notb_t hc2
        refine W_seq (fun K40 hK40 => ?_)
        refine W_region ?_
        refine L_run (v := .agg #[.int .i64 0, .int .i64 0, .int .i64 0, .int .i64 0]) (R_build (ps := []) (pv := []) (cs := #[.int .i64 0, .int .i64 0, .int .i64 0, .int .i64 0]) Tryd.underlying44 (inf44).choose_spec.1 (inf44).choose_spec.2.2.2 pl44 rfl rfl) rfl ?_
        refine L_op rfl rfl ?_
        have h22 := Bx.same hs14 hj7 trivial
        refine X_store (.agg #[.int .i64 0, .int .i64 0, .int .i64 0, .int .i64 0]) #[.int .i64 0, .int .i64 0, .int .i64 0, .int .i64 0] rfl rfl inf44 h22 rfl rfl rfl rfl ?_
        intro w16 hs15 hB10z hB10
        refine L_run (v := .bool false) (R_assign rfl) rfl ?_
        refine L_nil ?_
        refine T_normal ?_
        refine hK40 _ _ ?_
        clear hK40
        refine W_ret ?_
        refine T_ret ?_
        refine B_ret ?_
        refine T_ret ?_
        refine T_ret ?_
        refine B_ret ?_
        refine T_ret ?_
        refine Q_ret (v := .tuple #[.agg #[.int .i64 0, .int .i64 0, .int .i64 0, .int .i64 0], .bool false]) (resC2 Tryd.results20 rfl rfl hB10 Tryd.underlying44 rfl (inf44).choose_spec.1 (inf44).choose_spec.2.1.symm) ?_
        clear hK38 hK35 hK7
        have hno : ∀ x y z u, inR x y z u → fr x y z u = s → False := by
          intro x y z u hq e
          have e2 : spl s = [Lib.itoa x, Lib.itoa y, Lib.itoa z, Lib.itoa u] := by rw [← e]; exact spl_fr x y z u
          have hb := inR_lens hq
          rw [e2] at hpi4
          have f := PI.of (k := u) hpi4 (by omega) (by omega)
          rw [hc2] at f; cases f.1
        exact ⟨0, 0, 0, 0, false, rfl, RP_no hno, (Same.after' (Same.trans (Same.trans (Same.refl All w) (Same.all hj9)) (Same.all hs14)) hs15 (by intro k hk hn; have := Same.size hs1; have := Same.size hs2; have := Same.size hs4; have := Same.size hj9; have := Same.size hs14; have := Same.size hs15; simp only [All, But, Lo, LoBut] at *; omega))⟩
      · have hc2 := notb_f hc2
        refine W_skip ?_
        refine T_normal ?_
        refine hK38 _ _ ?_
        clear hK38
        refine W_region ?_
        refine L_run (v := .int .i64 ((3 : Nat) : Int)) (R_move rfl) rfl ?_
        refine L_run (v := .int .i64 r4) (R_move rfl) rfl ?_
        refine L_run (v := .pointer (some ⟨b2, 3, none⟩)) (X_indexArr (k := 3) 3 rfl rfl rfl (by decide) Tryd.underlying81 inf3 rfl rfl) rfl ?_
        refine L_op rfl rfl ?_
        have h23 := Bx.same hs14 hj8 trivial
        refine X_store (.int .i64 r4) #[.int .i64 n0, .int .i64 n1, .int .i64 n2, .int .i64 r4] rfl rfl inf3 h23 rfl rfl rfl rfl ?_
        intro w17 hs16 hB11z hB11
        refine L_nil ?_
        refine B_normal ?_
        refine T_normal ?_
        refine hK35 _ _ ?_
        clear hK35
        refine W_region ?_
        refine L_run (v := .int .i64 (((3 : Nat) : Int) + 1)) (R_add rfl rfl (by omega) (by omega)) rfl ?_
        refine L_run (v := .int .i64 (((3 : Nat) : Int) + 1)) (R_move rfl) rfl ?_
        refine L_nil ?_
        refine T_normal ?_
        refine At.mk (4, n0, n1, n2, r4) (Agree.upd rfl (Agree.upd rfl (Agree.upd rfl (Agree.upd rfl (Agree.upd rfl (Agree.upd rfl (Agree.upd rfl (Agree.upd rfl (Agree.upd rfl (Agree.upd rfl (Agree.upd rfl (Agree.upd rfl (Agree.upd rfl (Agree.upd rfl (Agree.upd rfl (Agree.upd rfl (Agree.upd rfl (Agree.upd rfl (Agree.upd rfl (Agree.upd rfl (Agree.upds rfl Agree.over))))))))))))))))))))) ⟨rfl, trivial⟩ ?_
        have h24 := Rd.same hj6 (Same.all hs14)
        have h25 := Rd.same h24 hs16
        have h26 := Bx.same hs14 hj7 trivial
        have h27 := Bx.same hs16 h26 (by have := Same.size hs1; have := Same.size hs2; have := Same.size hs4; have := Same.size hj9; have := Same.size hs14; have := Same.size hs16; simp only [All, But, Lo, LoBut] at *; omega)
        exact ⟨⟨by omega, fun _ => hj2 (by omega), fun _ => hj3 (by omega), fun _ => hj4 (by omega), fun _ => by rw [hc2] at hpi4; exact hpi4, h25, h27, hB11, (Same.after' (Same.trans (Same.trans (Same.refl All w) (Same.all hj9)) (Same.all hs14)) hs16 (by intro k hk hn; have := Same.size hs1; have := Same.size hs2; have := Same.size hs4; have := Same.size hj9; have := Same.size hs14; have := Same.size hs16; simp only [All, But, Lo, LoBut] at *; omega))⟩, by dsimp only; omega⟩
    · skip
      have hz9 := Same.size hj9
      have hl7 := Bx.lt hj7
      have hl8 := Bx.lt hj8
      refine W_seq (fun K41 hK41 => ?_)
      refine W_region ?_
      refine L_run (v := .bool (decide (((4 : Nat) : Int) < ((spl s).length : Int)))) (R_lss rfl rfl) rfl ?_
      refine L_nil ?_
      refine T_normal ?_
      refine hK41 _ _ ?_
      clear hK41
      refine W_seq (fun K42 hK42 => ?_)
      have hc1 : (decide (((4 : Nat) : Int) < ((spl s).length : Int))) = false := decide_eq_false (by omega)
      refine W_cond (decide (((4 : Nat) : Int) < ((spl s).length : Int))) rfl (fun h => by rw [hc1] at h; cases h) (fun _ => ?_)
      refine W_exit ?_
      refine T_exit ?_
      refine T_exit ?_
      refine B_hit ?_
      refine T_normal ?_
      refine hK7 _ _ ?_
      clear hK7
      refine W_seq (fun K43 hK43 => ?_)
      refine W_region ?_
      refine L_run (v := .pointer (some ⟨b2, 0, none⟩)) (X_indexArr (k := 0) 0 rfl rfl rfl (by decide) Tryd.underlying81 inf3 rfl rfl) rfl ?_
      refine L_run (v := .int .i64 n0) (R_loadB rfl hj8 rfl Tryd.underlying3 rfl) rfl ?_
      refine L_run (v := .pointer (some ⟨b2, 1, none⟩)) (X_indexArr (k := 1) 1 rfl rfl rfl (by decide) Tryd.underlying81 inf3 rfl rfl) rfl ?_
      refine L_run (v := .int .i64 n1) (R_loadB rfl hj8 rfl Tryd.underlying3 rfl) rfl ?_
      refine L_run (v := .pointer (some ⟨b2, 2, none⟩)) (X_indexArr (k := 2) 2 rfl rfl rfl (by decide) Tryd.underlying81 inf3 rfl rfl) rfl ?_
      refine L_run (v := .int .i64 n2) (R_loadB rfl hj8 rfl Tryd.underlying3 rfl) rfl ?_
      refine L_run (v := .pointer (some ⟨b2, 3, none⟩)) (X_indexArr (k := 3) 3 rfl rfl rfl (by decide) Tryd.underlying81 inf3 rfl rfl) rfl ?_
      refine L_run (v := .int .i64 n3) (R_loadB rfl hj8 rfl Tryd.underlying3 rfl) rfl ?_
      refine L_run (v := .agg #[.int .i64 n0, .int .i64 n1, .int .i64 n2, .int .i64 n3]) (R_build (ps := [(0, .tmp 37), (1, .tmp 39), (2, .tmp 41), (3, .tmp 43)]) (pv := [(0, .int .i64 n0), (1, .int .i64 n1), (2, .int .i64 n2), (3, .int .i64 n3)]) (cs := #[.int .i64 n0, .int .i64 n1, .int .i64 n2, .int .i64 n3]) Tryd.underlying44 (inf44).choose_spec.1 (inf44).choose_spec.2.2.2 pl44 rfl rfl) rfl ?_
      refine L_op rfl rfl ?_
      refine X_alloc #[.int .i64 0, .int .i64 0, .int .i64 0, .int .i64 0] inf44 rfl ?_
      intro b3 w18 hB12g hB12l hs17 hB12
      refine L_op rfl rfl ?_
      refine X_store (.agg #[.int .i64 n0, .int .i64 n1, .int .i64 n2, .int .i64 n3]) #[.int .i64 n0, .int .i64 n1, .int .i64 n2, .int .i64 n3] rfl rfl inf44 hB12 rfl rfl rfl rfl ?_
      intro w19 hs18 hB13z hB13
      refine L_nil ?_
      refine T_normal ?_
      refine hK43 _ _ ?_
      clear hK43
      refine W_seq (fun K44 hK44 => ?_)
      refine W_seq (fun K45 hK45 => ?_)
      refine W_region ?_
      refine L_run (v := .agg #[.int .i64 n0, .int .i64 n1, .int .i64 n2, .int .i64 n3]) (X_loadBA #[.int .i64 n0, .int .i64 n1, .int .i64 n2, .int .i64 n3] rfl hB13 Tryd.underlying44 rfl inf44 rfl rfl) rfl ?_
      refine L_op rfl rfl ?_
      refine O_call (args := [.agg #[.int .i64 n0, .int .i64 n1, .int .i64 n2, .int .i64 n3]]) en52 rfl (C_iFormatRecord n0 n1 n2 n3 _ (tab_same htab (Same.after' (Same.trans (Same.trans (Same.refl All w) (Same.all hj9)) (Same.all hs17)) hs18 (by intro k hk hn; have := Same.size hs1; have := Same.size hs2; have := Same.size hs4; have := Same.size hj9; have := Same.size hs17; have := Same.size hs18; simp only [All, But, Lo, LoBut] at *; omega)))) ?_
      rintro _ w20 ⟨t1, rfl, hfr1, hs19⟩
      refine L_run (v := .string (st s)) (R_move rfl) rfl ?_
      refine L_run (v := .bool (!decide (t1 = s))) (X_sneq rfl rfl) rfl ?_
      refine L_nil ?_
      refine T_normal ?_
      refine hK45 _ _ ?_
      clear hK45
      refine W_cond (!decide (t1 = s)) rfl (fun hc3 => ?_) (fun hc3 => ?_)
      · have hc3 := not_t hc3
        refine W_seq (fun K46 hK46 => ?_)
        refine W_region ?_
        refine L_run (v := .agg #[.int .i64 0, .int .i64 0, .int .i64 0, .int .i64 0]) (R_build (ps := []) (pv := []) (cs := #[.int .i64 0, .int .i64 0, .int .i64 0, .int .i64 0]) Tryd.underlying44 (inf44).choose_spec.1 (inf44).choose_spec.2.2.2 pl44 rfl rfl) rfl ?_
        refine L_op rfl rfl ?_
        have h28 := Bx.same hs17 hj7 trivial
        have h29 := Bx.same hs18 h28 (by have := Same.size hs1; have := Same.size hs2; have := Same.size hs4; have := Same.size hj9; have := Same.size hs17; have := Same.size hs18; have := Same.size hs19; simp only [All, But, Lo, LoBut] at *; omega)
        have h30 := Bx.same hs19 h29 trivial
        refine X_store (.agg #[.int .i64 0, .int .i64 0, .int .i64 0, .int .i64 0]) #[.int .i64 0, .int .i64 0, .int .i64 0, .int .i64 0] rfl rfl inf44 h30 rfl rfl rfl rfl ?_
        intro w21 hs20 hB14z hB14
        refine L_run (v := .bool false) (R_assign rfl) rfl ?_
        refine L_nil ?_
        refine T_normal ?_
        refine hK46 _ _ ?_
        clear hK46
        refine W_ret ?_
        refine T_ret ?_
        refine Q_ret (v := .tuple #[.agg #[.int .i64 0, .int .i64 0, .int .i64 0, .int .i64 0], .bool false]) (resC2 Tryd.results20 rfl rfl hB14 Tryd.underlying44 rfl (inf44).choose_spec.1 (inf44).choose_spec.2.1.symm) ?_
        clear hK44 hK42
        have hno : ∀ x y z u, inR x y z u → fr x y z u = s → False := by
          intro x y z u hq e
          have e2 : spl s = [Lib.itoa x, Lib.itoa y, Lib.itoa z, Lib.itoa u] := by rw [← e]; exact spl_fr x y z u
          have hb := inR_lens hq
          have f0 := hj2 (by omega)
          have f1 := hj3 (by omega)
          have f2 := hj4 (by omega)
          have f3 := hj5 (by omega)
          rw [e2] at f0 f1 f2 f3
          have g0 := (PI.of (k := x) f0 (by omega) (by omega)).2
          have g1 := (PI.of (k := y) f1 (by omega) (by omega)).2
          have g2 := (PI.of (k := z) f2 (by omega) (by omega)).2
          have g3 := (PI.of (k := u) f3 (by omega) (by omega)).2
          rw [g0, g1, g2, g3] at hfr1
          exact hc3 ((hfr1.1 hq).trans e)
        exact ⟨0, 0, 0, 0, false, rfl, RP_no hno, (Same.after' (Same.trans (Same.after' (Same.trans (Same.trans (Same.refl All w) (Same.all hj9)) (Same.all hs17)) hs18 (by intro k hk hn; have := Same.size hs1; have := Same.size hs2; have := Same.size hs4; have := Same.size hj9; have := Same.size hs17; have := Same.size hs18; have := Same.size hs19; have := Same.size hs20; simp only [All, But, Lo, LoBut] at *; omega)) (Same.all hs19)) hs20 (by intro k hk hn; have := Same.size hs1; have := Same.size hs2; have := Same.size hs4; have := Same.size hj9; have := Same.size hs17; have := Same.size hs18; have := Same.size hs19; have := Same.size hs20; simp only [All, But, Lo, LoBut] at *; omega))⟩
      · have hc3 := not_f hc3
        refine W_skip ?_
        refine T_normal ?_
        refine hK44 _ _ ?_
        clear hK44
        refine W_seq (fun K47 hK47 => ?_)
        refine W_region ?_
        have h31 := Bx.same hs19 hB13 trivial
        refine L_run (v := .agg #[.int .i64 n0, .int .i64 n1, .int .i64 n2, .int .i64 n3]) (X_loadBA #[.int .i64 n0, .int .i64 n1, .int .i64 n2, .int .i64 n3] rfl h31 Tryd.underlying44 rfl inf44 rfl rfl) rfl ?_
        refine L_op rfl rfl ?_
        have h32 := Bx.same hs17 hj7 trivial
        have h33 := Bx.same hs18 h32 (by have := Same.size hs1; have := Same.size hs2; have := Same.size hs4; have := Same.size hj9; have := Same.size hs17; have := Same.size hs18; have := Same.size hs19; simp only [All, But, Lo, LoBut] at *; omega)
        have h34 := Bx.same hs19 h33 trivial
        refine X_store (.agg #[.int .i64 n0, .int .i64 n1, .int .i64 n2, .int .i64 n3]) #[.int .i64 n0, .int .i64 n1, .int .i64 n2, .int .i64 n3] rfl rfl inf44 h34 rfl rfl rfl rfl ?_
        intro w22 hs21 hB15z hB15
        refine L_run (v := .bool true) (R_assign rfl) rfl ?_
        refine L_nil ?_
        refine T_normal ?_
        refine hK47 _ _ ?_
        clear hK47
        refine W_ret ?_
        refine Q_ret (v := .tuple #[.agg #[.int .i64 n0, .int .i64 n1, .int .i64 n2, .int .i64 n3], .bool true]) (resC2 Tryd.results20 rfl rfl hB15 Tryd.underlying44 rfl (inf44).choose_spec.1 (inf44).choose_spec.2.1.symm) ?_
        clear hK42
        exact ⟨_, _, _, _, true, rfl, RP_good hfr1 hc3 (fun h0 => by rw [h0] at hc0; exact absurd hc0 (by decide)), (Same.after' (Same.trans (Same.after' (Same.trans (Same.trans (Same.refl All w) (Same.all hj9)) (Same.all hs17)) hs18 (by intro k hk hn; have := Same.size hs1; have := Same.size hs2; have := Same.size hs4; have := Same.size hj9; have := Same.size hs17; have := Same.size hs18; have := Same.size hs19; have := Same.size hs21; simp only [All, But, Lo, LoBut] at *; omega)) (Same.all hs19)) hs21 (by intro k hk hn; have := Same.size hs1; have := Same.size hs2; have := Same.size hs4; have := Same.size hj9; have := Same.size hs17; have := Same.size hs18; have := Same.size hs19; have := Same.size hs21; simp only [All, But, Lo, LoBut] at *; omega))⟩

theorem C_FnExactParseRecord (s : List UInt8) (w : World) (htab : Lib.TabIs Tryd.prog w "internal/strconv.uint64pow10" .u64 Lib.pow10Tab) (hm : ∃ m, World.cell? w ⟨1, 0, none⟩ = some (.int .i64 m)) :
    Ret Tryd.prog 5 #[.string (st s)] w (fun v w' => v = .bool true ∧ Same All w w') := by
  refine ret_of (args := [.string (st s)]) Tryd.func5 rfl 29 Tryd.ntmps5 rfl ?_
  refine W_seq (fun K1 hK1 => ?_)
  refine W_region ?_
  refine L_run (v := .bool false) (R_assign rfl) rfl ?_
  refine L_nil ?_
  refine T_normal ?_
  refine hK1 _ _ ?_
  clear hK1
  refine W_seq (fun K2 hK2 => ?_)
  refine W_seq (fun K3 hK3 => ?_)
  refine W_region ?_
  refine L_run (v := .string (st s)) (R_move rfl) rfl ?_
  refine L_run (v := .int .i64 (s.length : Int)) (X_slen Tryd.underlying9 rfl) rfl ?_
  refine L_run (v := .bool (decide (1048576 < (s.length : Int)))) (R_gtr rfl rfl) rfl ?_
  refine L_nil ?_
  refine T_normal ?_
  refine hK3 _ _ ?_
  clear hK3
  refine W_cond (decide (1048576 < (s.length : Int))) rfl (fun hc0 => ?_) (fun hc0 => ?_)
  · have hc0 := of_decide_eq_true hc0
    refine W_seq (fun K4 hK4 => ?_)
    refine W_region ?_
    refine L_run (v := .bool true) (R_assign rfl) rfl ?_
    refine L_nil ?_
    refine T_normal ?_
    refine hK4 _ _ ?_
    clear hK4
    refine W_ret ?_
    refine T_ret ?_
    refine Q_ret (v := .bool true) (res1 Tryd.results5 rfl) ?_
    clear hK2
    exact ⟨rfl, (Same.refl All w)⟩
  · have hc0 := of_decide_eq_false hc0
    refine W_skip ?_
    refine T_normal ?_
    refine hK2 _ _ ?_
    clear hK2
    refine W_seq (fun K5 hK5 => ?_)
    refine W_region ?_
    refine L_run (v := .string (st s)) (R_move rfl) rfl ?_
    refine L_op rfl rfl ?_
    refine O_call (args := [.string (st s)]) en19 rfl (C_sParseRecord s _) ?_
    rintro _ w1 ⟨a1, b1, c1, d1, ok1, rfl, hrp1, hs1⟩
    refine L_run (v := .tuple #[.agg #[.int .i64 a1, .int .i64 b1, .int .i64 c1, .int .i64 d1], .bool ok1]) (R_move rfl) rfl ?_
    refine L_run (v := .agg #[.int .i64 a1, .int .i64 b1, .int .i64 c1, .int .i64 d1]) (R_extract rfl rfl) rfl ?_
    refine L_run (v := .bool ok1) (R_extract rfl rfl) rfl ?_
    refine L_op rfl rfl ?_
    refine X_alloc #[.int .i64 0, .int .i64 0, .int .i64 0, .int .i64 0] inf44 rfl ?_
    intro b2 w2 hB1g hB1l hs2 hB1
    refine L_op rfl rfl ?_
    refine X_store (.agg #[.int .i64 a1, .int .i64 b1, .int .i64 c1, .int .i64 d1]) #[.int .i64 a1, .int .i64 b1, .int .i64 c1, .int .i64 d1] rfl rfl inf44 hB1 rfl rfl rfl rfl ?_
    intro w3 hs3 hB2z hB2
    refine L_run (v := .bool ok1) (R_assign rfl) rfl ?_
    refine L_nil ?_
    refine T_normal ?_
    refine hK5 _ _ ?_
    clear hK5
    refine W_seq (fun K6 hK6 => ?_)
    refine W_region ?_
    refine L_run (v := .string (st s)) (R_move rfl) rfl ?_
    refine L_op rfl rfl ?_
    refine O_call (args := [.string (st s)]) en20 rfl (C_iParseRecord s _ (tab_same htab (Same.after' (Same.trans (Same.trans (Same.refl All w) (Same.all hs1)) (Same.all hs2)) hs3 (by intro k hk hn; have := Same.size hs1; have := Same.size hs2; have := Same.size hs3; simp only [All, But, Lo, LoBut] at *; omega))) (mx_same hm (Same.after' (Same.trans (Same.trans (Same.refl All w) (Same.all hs1)) (Same.all hs2)) hs3 (by intro k hk hn; have := Same.size hs1; have := Same.size hs2; have := Same.size hs3; simp only [All, But, Lo, LoBut] at *; omega))) (by omega)) ?_
    rintro _ w4 ⟨a2, b3, c2, d2, ok2, rfl, hrp2, hs4⟩
    refine L_run (v := .tuple #[.agg #[.int .i64 a2, .int .i64 b3, .int .i64 c2, .int .i64 d2], .bool ok2]) (R_move rfl) rfl ?_
    refine L_run (v := .agg #[.int .i64 a2, .int .i64 b3, .int .i64 c2, .int .i64 d2]) (R_extract rfl rfl) rfl ?_
    refine L_run (v := .bool ok2) (R_extract rfl rfl) rfl ?_
    refine L_op rfl rfl ?_
    refine X_alloc #[.int .i64 0, .int .i64 0, .int .i64 0, .int .i64 0] inf44 rfl ?_
    intro b4 w5 hB3g hB3l hs5 hB3
    refine L_op rfl rfl ?_
    refine X_store (.agg #[.int .i64 a2, .int .i64 b3, .int .i64 c2, .int .i64 d2]) #[.int .i64 a2, .int .i64 b3, .int .i64 c2, .int .i64 d2] rfl rfl inf44 hB3 rfl rfl rfl rfl ?_
    intro w6 hs6 hB4z hB4
    refine L_run (v := .bool ok2) (R_assign rfl) rfl ?_
    refine L_nil ?_
    refine T_normal ?_
    refine hK6 _ _ ?_
    clear hK6
    refine W_seq (fun K7 hK7 => ?_)
    refine W_seq (fun K8 hK8 => ?_)
    refine W_region ?_
    refine L_run (v := .agg #[.int .i64 a2, .int .i64 b3, .int .i64 c2, .int .i64 d2]) (X_loadBA #[.int .i64 a2, .int .i64 b3, .int .i64 c2, .int .i64 d2] rfl hB4 Tryd.underlying44 rfl inf44 rfl rfl) rfl ?_
    have h1 := Bx.same hs4 hB2 trivial
    have h2 := Bx.same hs5 h1 trivial
    have h3 := Bx.same hs6 h2 (by have := Same.size hs1; have := Same.size hs2; have := Same.size hs3; have := Same.size hs4; have := Same.size hs5; have := Same.size hs6; simp only [All, But, Lo, LoBut] at *; omega)
    refine L_run (v := .agg #[.int .i64 a1, .int .i64 b1, .int .i64 c1, .int .i64 d1]) (X_loadBA #[.int .i64 a1, .int .i64 b1, .int .i64 c1, .int .i64 d1] rfl h3 Tryd.underlying44 rfl inf44 rfl rfl) rfl ?_
    refine L_op rfl rfl ?_
    refine O_call (args := [.agg #[.int .i64 a2, .int .i64 b3, .int .i64 c2, .int .i64 d2], .agg #[.int .i64 a1, .int .i64 b1, .int .i64 c1, .int .i64 d1]]) en21 rfl (C_eqRecord a2 b3 c2 d2 a1 b1 c1 d1 _) ?_
    rintro _ w7 ⟨rfl, hs7⟩
    refine L_run (v := .bool (!(decide (a2 = a1) && decide (b3 = b1) && decide (c2 = c1) && decide (d2 = d1)))) (R_not rfl) rfl ?_
    refine L_run (v := .bool (!(decide (a2 = a1) && decide (b3 = b1) && decide (c2 = c1) && decide (d2 = d1)))) (R_move rfl) rfl ?_
    rcases Bool.eq_false_or_eq_true (!(decide (a2 = a1) && decide (b3 = b1) && decide (c2 = c1) && decide (d2 = d1))) with hg1 | hg1
    · have hg1p := notb_t hg1
      try rw [hg1]
      refine L_no (e := 24) rfl rfl rfl rfl ?_
      refine L_no (e := 24) rfl rfl rfl rfl ?_
      refine L_no (e := 24) rfl rfl rfl rfl ?_
      refine L_run (v := .bool true) (R_pick_t rfl rfl) rfl ?_
      refine L_nil ?_
      refine T_normal ?_
      refine hK8 _ _ ?_
      clear hK8
      refine W_cond true rfl (fun _ => ?_) (fun h => by cases h)
      refine W_seq (fun K9 hK9 => ?_)
      refine W_region ?_
      refine L_run (v := .bool false) (R_assign rfl) rfl ?_
      refine L_nil ?_
      refine T_normal ?_
      refine hK9 _ _ ?_
      clear hK9
      refine W_ret ?_
      refine T_ret ?_
      refine Q_ret (v := .bool false) (res1 Tryd.results5 rfl) ?_
      clear hK7
      have hu := RP.unique hrp1 hrp2
      refine ⟨congrArg Value.bool ?_, (Same.trans (Same.after' (Same.trans (Same.trans (Same.after' (Same.trans (Same.trans (Same.refl All w) (Same.all hs1)) (Same.all hs2)) hs3 (by intro k hk hn; have := Same.size hs1; have := Same.size hs2; have := Same.size hs3; have := Same.size hs4; have := Same.size hs5; have := Same.size hs6; have := Same.size hs7; simp only [All, But, Lo, LoBut] at *; omega)) (Same.all hs4)) (Same.all hs5)) hs6 (by intro k hk hn; have := Same.size hs1; have := Same.size hs2; have := Same.size hs3; have := Same.size hs4; have := Same.size hs5; have := Same.size hs6; have := Same.size hs7; simp only [All, But, Lo, LoBut] at *; omega)) (Same.all hs7))⟩
      obtain ⟨⟨u1, u2, u3, u4⟩, u5⟩ := hu
      simp_all
    · have hg1p := notb_f hg1
      try rw [hg1]
      refine L_yesrun (e := 24) (v := .bool ok2) rfl rfl rfl (R_move rfl) rfl ?_
      refine L_yesrun (e := 24) (v := .bool ok1) rfl rfl rfl (R_move rfl) rfl ?_
      refine L_yesrun (e := 24) (v := .bool (!(ok2 == ok1))) rfl rfl rfl (R_neb Tryd.underlying4 rfl rfl) rfl ?_
      refine L_run (v := .bool (!(ok2 == ok1))) (R_pick_f rfl rfl) rfl ?_
      refine L_nil ?_
      refine T_normal ?_
      refine hK8 _ _ ?_
      clear hK8
      refine W_cond (!(ok2 == ok1)) rfl (fun hc1 => ?_) (fun hc1 => ?_)
      · have hc1 := notb_t hc1
        refine W_seq (fun K10 hK10 => ?_)
        refine W_region ?_
        refine L_run (v := .bool false) (R_assign rfl) rfl ?_
        refine L_nil ?_
        refine T_normal ?_
        refine hK10 _ _ ?_
        clear hK10
        refine W_ret ?_
        refine T_ret ?_
        refine Q_ret (v := .bool false) (res1 Tryd.results5 rfl) ?_
        clear hK7
        have hu := RP.unique hrp1 hrp2
        refine ⟨congrArg Value.bool ?_, (Same.trans (Same.after' (Same.trans (Same.trans (Same.after' (Same.trans (Same.trans (Same.refl All w) (Same.all hs1)) (Same.all hs2)) hs3 (by intro k hk hn; have := Same.size hs1; have := Same.size hs2; have := Same.size hs3; have := Same.size hs4; have := Same.size hs5; have := Same.size hs6; have := Same.size hs7; simp only [All, But, Lo, LoBut] at *; omega)) (Same.all hs4)) (Same.all hs5)) hs6 (by intro k hk hn; have := Same.size hs1; have := Same.size hs2; have := Same.size hs3; have := Same.size hs4; have := Same.size hs5; have := Same.size hs6; have := Same.size hs7; simp only [All, But, Lo, LoBut] at *; omega)) (Same.all hs7))⟩
        obtain ⟨⟨u1, u2, u3, u4⟩, u5⟩ := hu
        simp_all
      · have hc1 := notb_f hc1
        refine W_skip ?_
        refine T_normal ?_
        refine hK7 _ _ ?_
        clear hK7
        refine W_seq (fun K11 hK11 => ?_)
        refine W_region ?_
        refine L_run (v := .bool true) (R_assign rfl) rfl ?_
        refine L_nil ?_
        refine T_normal ?_
        refine hK11 _ _ ?_
        clear hK11
        refine W_ret ?_
        refine Q_ret (v := .bool true) (res1 Tryd.results5 rfl) ?_
        have hu := RP.unique hrp1 hrp2
        refine ⟨congrArg Value.bool ?_, (Same.trans (Same.after' (Same.trans (Same.trans (Same.after' (Same.trans (Same.trans (Same.refl All w) (Same.all hs1)) (Same.all hs2)) hs3 (by intro k hk hn; have := Same.size hs1; have := Same.size hs2; have := Same.size hs3; have := Same.size hs4; have := Same.size hs5; have := Same.size hs6; have := Same.size hs7; simp only [All, But, Lo, LoBut] at *; omega)) (Same.all hs4)) (Same.all hs5)) hs6 (by intro k hk hn; have := Same.size hs1; have := Same.size hs2; have := Same.size hs3; have := Same.size hs4; have := Same.size hs5; have := Same.size hs6; have := Same.size hs7; simp only [All, But, Lo, LoBut] at *; omega)) (Same.all hs7))⟩
        obtain ⟨⟨u1, u2, u3, u4⟩, u5⟩ := hu
        simp_all

end Go.Proofs.YtpfbheodbgkgmaaDoor
