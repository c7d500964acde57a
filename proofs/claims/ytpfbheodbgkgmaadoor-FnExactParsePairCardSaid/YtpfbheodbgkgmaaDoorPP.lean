/-
  For every string s the call laws.FnExactParsePair(s) returns true, and s reads afterwards as it read before. Condition: the five listed package-level tables of Go's library hold what the program's text lays (the card ties them).
-/
import Derived.Test.YtpfbheodbgkgmaaDoorCards
import Derived.Test.YtpfbheodbgkgmaaDoorTie
import Derived.Test.YtpfbheodbgkgmaaDoorTe
import Derived.Test.YtpfbheodbgkgmaaDoorTab
import Derived.WalkKit
import Derived.ProofKit
import Derived.OpenShut
import Derived.ShutString
import Derived.LaidMore
import Derived.Lay
import Derived.SevenTiedAt
import Derived.Stop.Joined
set_option linter.unusedVariables false
namespace Go.Proofs.YtpfbheodbgkgmaaDoor.fnExactParsePair
open Go Gx Go.Proofs
open Go.ChangeShapes Go.WideShapes Go.ChangeAt Go.RowKit
open Go.ChangeMaps (open_string shut_string)
theorem own : ownKnob Tryd.prog.godebug = none := by kernel_rfl
set_option maxRecDepth 100000 in
theorem lifted (os : Os) (started : os.Started) (H : Type) (enc : TypeId × Value → H) :
    ReturnsInHanded {} Tryd.checked os 6 .any (fun w args => (Rows.fnExactParsePairSpec.pre enc Tryd.prog Tryd.f6 Rows.fnExactParsePairRow.domain false w args ∧ laidMetH Tryd.prog Rows.fnExactParsePairRow.laid w) ∧ sizedMet enc Tryd.prog Tryd.f6 (OpenSpec.ofChange Rows.fnExactParsePairSpec) false w args)
      (Rows.fnExactParsePairSpec.post enc Tryd.prog Tryd.f6 false true false false) := by
  refine returnsInHanded_of_change_and (C := Tryd.checked) (X := fun w _ => laidMetH Tryd.prog Rows.fnExactParsePairRow.laid w) (fun _ _ _ hh h => h.of_heap hh) own started (by kernel_rfl) Tryd.func6
    (ChangeSpec.witness_shaped (enc := enc) (C := Tryd.checked) (os := os) (X := fun w _ => laidMetH Tryd.prog Rows.fnExactParsePairRow.laid w) false (World.laidAll Tryd.prog os Rows.fnExactParsePairRow.laid) #[.string ByteArray.empty] 8 (World.laidAll_os _ _ _)
      (World.shaped_of_ZipB (by kernel_rfl) (by kernel_rfl)) (by kernel_rfl) (by kernel_rfl) (by kernel_rfl)
      (by rw [MakeChecks.laidMetH_plain _ _ _ (by kernel_rfl)]; exact laidMet_laidAll _ (by kernel_rfl) (by kernel_rfl))) ?_
  intro W base args ds gs before hval0 hW hc _ hL _
  have hval : ∀ (j : Nat) t v, Tryd.f6.params[j]? = some t → args[j]? = some v → Value.okWide Tryd.prog W .any base t v := hval0
  have hW' := hW
  obtain ⟨p, q, hA0, hV, rfl, _, _⟩ := hW
  have hA : DataW.TrodAll enc Tryd.prog W 0 (fun _ => true) true Tryd.f6.params.toList args.toList ds p := hA0
  rw [Tryd.params6] at hA hval
  obtain ⟨v0, d0, rfl, rfl, h0⟩ := trodAll_one hA
  obtain ⟨rfl, rfl⟩ := trodVars_none hV
  rw [MakeChecks.laidMetH_plain _ _ _ (by kernel_rfl)] at hL
  have htab : Lib.TabIs Tryd.prog W "internal/strconv.uint64pow10" .u64 Lib.pow10Tab := pow_of (by rw [← pow_datum]; exact Lib.laidMet.reads hL (by simp [Rows.fnExactParsePairRow]))
  have hU : Lib.Utf8Tabs 2 3 W := u8_of (by rw [← first_datum]; exact Lib.laidMet.reads hL (by simp [Rows.fnExactParsePairRow])) (by rw [← acc_datum]; exact Lib.laidMet.reads hL (by simp [Rows.fnExactParsePairRow]))
  obtain ⟨a0, rfl, rfl, rfl, w0⟩ := open_string Tryd.underlying9 (hval 0 9 v0 rfl rfl) h0
  clear hA0 hval0
  simp only [List.append_nil] at hW'
  have walk : Calls Tryd.prog 6 #[.string a0] W fun e w' => e = .returned (.bool true) ∧ Same All W w' := by
    have h := C_FnExactParsePair a0.data.toList W htab hU
    rw [st_eta] at h
    exact Calls.mono h fun e w' hh => by obtain ⟨v, he, hv, hs⟩ := hh; exact ⟨by rw [he, hv], hs⟩
  refine walk.mono fun e W' ⟨he, hs⟩ => ?_
  subst he
  have bel := hs.below
  exact ⟨_, rfl, _, _, _, [], _, [], hW', trodAll_mk1 (shut_bool Tryd.underlying4 _), (trodAll_cons_mk (shut_string Tryd.underlying9 w0) trodAll_mk0), rfl, bel.frame _, fun h => by cases h⟩

theorem over : Rows.fnExactParsePairRow.holds Tryd.pinned (OpenSpec.ofChange Rows.fnExactParsePairSpec) :=
  OpenClaim.holds_of_wide 6 Tryd.f6 rfl rfl rfl rfl rfl rfl rfl ⟨rfl, rfl, rfl, rfl, rfl⟩ rfl rfl rfl rfl rfl (by kernel_rfl) Tryd.func6 (by kernel_rfl)
    (of_decide_eq_true (by kernel_rfl)) (by unfold Func.isWrapper; first | (rw [if_pos (by decide +kernel)]; kernel_rfl) | (rw [if_neg (by decide +kernel)]; exact ⟨rfl, rfl⟩))
    (fun os started H enc _ => lifted os started H enc)
theorem plain (f : FuncId) (fn : Func) (hf : Tryd.pinned.checked.prog.funcNamed "loop.example/g03320/laws.FnExactParsePair" = some f) (hfn : Tryd.pinned.checked.prog.funcs[f]? = some fn) :
    false = Tryd.pinned.checked.prog.looks [] ∧ ∀ (j : Nat) t, fn.params[j]? = some t → Tryd.pinned.checked.prog.wantsStandIn t = false := by
  obtain rfl : f = 6 := Option.some.inj ((show Tryd.prog.funcNamed "loop.example/g03320/laws.FnExactParsePair" = some 6 by kernel_rfl).symm.trans hf) |>.symm
  obtain rfl : fn = Tryd.f6 := (Option.some.inj (Tryd.func6.symm.trans hfn)).symm
  refine ⟨by kernel_rfl, fun j t ht => ?_⟩
  rw [Tryd.params6] at ht
  obtain rfl : t = 9 := by simpa using Array.mem_of_getElem? ht
  exact (show Tryd.prog.wantsStandIn 9 = false by kernel_rfl)
end Go.Proofs.YtpfbheodbgkgmaaDoor.fnExactParsePair
namespace Go.Proofs.YtpfbheodbgkgmaaDoor
open Go
theorem fnExactParsePair_holds : Rows.FnExactParsePairCardSaid :=
  Claim7.holds_tied_plain_at .later [] _ _ _ _ fnExactParsePair.over (fun _ h => by cases h) (by kernel_rfl) (fun _ h => by cases h) fnExactParsePair_row_tie rfl ⟨rfl, rfl⟩ (by kernel_rfl) rfl fnExactParsePair.plain (by kernel_rfl)
#print axioms fnExactParsePair_holds
end Go.Proofs.YtpfbheodbgkgmaaDoor
