/-
  For every string s the call laws.FnExactParseRecord(s) returns true, and s reads afterwards as it read before. Condition: the listed package-level tables of Go's library hold what the program's text lays (the card ties them).
-/
import Derived.Test.YtpfbheodbgkgmaaDoorCards
import Derived.Test.YtpfbheodbgkgmaaDoorTie
import Derived.Test.YtpfbheodbgkgmaaDoorRc
import Derived.Test.YtpfbheodbgkgmaaDoorTab
import Derived.WalkKit
import Derived.ProofKit
import Derived.OpenShut
import Derived.ShutString
import Derived.ChangeOld
import Derived.Below
import Derived.LaidMore
import Derived.Lay
import Derived.SevenTiedAt
import Derived.Stop.Joined
import Derived.Deep.DeepHandedRow
set_option linter.unusedVariables false
namespace Go.Proofs.YtpfbheodbgkgmaaDoor.fnExactParseRecord
open Go Gx Go.Proofs
open Go.ChangeShapes Go.WideShapes Go.ChangeAt Go.RowKit
open Go.ChangeMaps (open_string shut_string)
theorem own : ownKnob Tryd.prog.godebug = none := by kernel_rfl
set_option maxRecDepth 100000 in
theorem lifted (os : Os) (started : os.Started) (H : Type) (enc : TypeId × Value → H) (F : Stop.Interp) :
    ReturnsInHanded {} Tryd.checked os 5 .any ((OpenSpec.ofChange Rows.fnExactParseRecordSpec).preRow enc Tryd.prog Tryd.f5 Rows.fnExactParseRecordRow.domain false Rows.fnExactParseRecordRow.laid) (((OpenSpec.ofChange Rows.fnExactParseRecordSpec).at F).post enc Tryd.prog Tryd.f5 false true false false) := by
  refine returnsInHanded_of_row (C := Tryd.checked) (s := OpenSpec.ofChange Rows.fnExactParseRecordSpec) own started (by kernel_rfl) Tryd.func5
    (ChangeSpec.witness_shaped (enc := enc) (C := Tryd.checked) (os := os) (X := fun w _ => laidMetH Tryd.prog Rows.fnExactParseRecordRow.laid w) false (World.laidAll Tryd.prog os Rows.fnExactParseRecordRow.laid) #[.string ByteArray.empty] 8 (World.laidAll_os _ _ _)
      (World.shaped_of_ZipB (by kernel_rfl) (by kernel_rfl)) (by kernel_rfl) (by kernel_rfl) (by kernel_rfl)
      (by rw [MakeChecks.laidMetH_plain _ _ _ (by kernel_rfl)]; exact laidMet_laidAll _ (by kernel_rfl) (by kernel_rfl))) ?_
  intro W base args ds gs before hval0 hW _ _ _ hL hsh _
  have hval : ∀ (j : Nat) t v, Tryd.f5.params[j]? = some t → args[j]? = some v → Value.okWide Tryd.prog W .any base t v := hval0
  have hW' := hW
  obtain ⟨p, q, hA0, hV, rfl, _, _⟩ := hW
  have hA : DataW.TrodAll enc Tryd.prog W 0 (fun _ => true) true Tryd.f5.params.toList args.toList ds p := hA0
  rw [Tryd.params5] at hA hval
  obtain ⟨v0, d0, rfl, rfl, h0⟩ := trodAll_one hA
  obtain ⟨rfl, rfl⟩ := trodVars_none hV
  rw [MakeChecks.laidMetH_plain _ _ _ (by kernel_rfl)] at hL
  have htab : Lib.TabIs Tryd.prog W "internal/strconv.uint64pow10" .u64 Lib.pow10Tab := pow_of (by rw [← pow_datum]; exact Lib.laidMet.reads hL (by simp [Rows.fnExactParseRecordRow]))
  have hm : ∃ m, W.cell? ⟨1, 0, none⟩ = some (.int .i64 m) := mx_of hsh
  obtain ⟨a0, rfl, rfl, rfl, w0⟩ := open_string Tryd.underlying9 (hval 0 9 v0 rfl rfl) h0
  clear hA0 hval0
  simp only [List.append_nil] at hW'
  have walk : Calls Tryd.prog 5 #[.string a0] W fun e w' => e = .returned (.bool true) ∧ Same All W w' := by
    have h := C_FnExactParseRecord a0.data.toList W htab hm
    rw [st_eta] at h
    exact Calls.mono h fun e w' hh => by obtain ⟨v, he, hv, hs⟩ := hh; exact ⟨by rw [he, hv], hs⟩
  refine walk.mono fun e W' ⟨he, hs⟩ => ?_
  subst he
  have bel := hs.below
  exact ⟨_, rfl, _, _, _, [], _, [], hW', trodAll_mk1 (shut_bool Tryd.underlying4 _), (trodAll_cons_mk (shut_string Tryd.underlying9 w0) trodAll_mk0), rfl, bel.frame _, fun h => by cases h⟩

theorem over : Rows.fnExactParseRecordRow.holds Tryd.pinned (OpenSpec.ofChange Rows.fnExactParseRecordSpec) :=
  OpenClaim.holds_of_cond 5 Tryd.f5 rfl rfl rfl rfl rfl rfl rfl ⟨rfl, rfl, rfl, rfl, rfl⟩ rfl rfl rfl rfl rfl (by kernel_rfl) Tryd.func5 (by kernel_rfl)
    (of_decide_eq_true (by kernel_rfl)) (by unfold Func.isWrapper; first | (rw [if_pos (by decide +kernel)]; kernel_rfl) | (rw [if_neg (by decide +kernel)]; exact ⟨rfl, rfl⟩))
    (fun os started H enc _ F => by rw [OpenClaim.pre_eq_preRow]; exact lifted os started H enc F)
theorem plain (f : FuncId) (fn : Func) (hf : Tryd.pinned.checked.prog.funcNamed "loop.example/g03320/laws.FnExactParseRecord" = some f) (hfn : Tryd.pinned.checked.prog.funcs[f]? = some fn) :
    false = Tryd.pinned.checked.prog.looks [] ∧ ∀ (j : Nat) t, fn.params[j]? = some t → Tryd.pinned.checked.prog.wantsStandIn t = false := by
  obtain rfl : f = 5 := Option.some.inj ((show Tryd.prog.funcNamed "loop.example/g03320/laws.FnExactParseRecord" = some 5 by kernel_rfl).symm.trans hf) |>.symm
  obtain rfl : fn = Tryd.f5 := (Option.some.inj (Tryd.func5.symm.trans hfn)).symm
  refine ⟨by kernel_rfl, fun j t ht => ?_⟩
  rw [Tryd.params5] at ht
  obtain rfl : t = 9 := by simpa using Array.mem_of_getElem? ht
  exact (show Tryd.prog.wantsStandIn 9 = false by kernel_rfl)
end Go.Proofs.YtpfbheodbgkgmaaDoor.fnExactParseRecord
namespace Go.Proofs.YtpfbheodbgkgmaaDoor
open Go
theorem fnExactParseRecord_holds : Rows.FnExactParseRecordCardSaid :=
  Claim7.holds_tied_plain_at .later [] _ _ _ _ fnExactParseRecord.over (fun _ h => by cases h) (by kernel_rfl) (fun _ h => by cases h) fnExactParseRecord_row_tie rfl ⟨rfl, rfl⟩ (by kernel_rfl) rfl fnExactParseRecord.plain (by kernel_rfl)
#print axioms fnExactParseRecord_holds
end Go.Proofs.YtpfbheodbgkgmaaDoor
