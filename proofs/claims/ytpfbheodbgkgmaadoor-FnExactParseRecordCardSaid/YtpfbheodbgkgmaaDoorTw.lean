/-
  What the walks of the Door seat need of the library's tables, and of strings.LastIndexAny at the two signs.
-/
import Derived.Test.YtpfbheodbgkgmaaDoorGxStr
import Derived.Test.YtpfbheodbgkgmaaDoorGxTxt
import Derived.Test.YtpfbheodbgkgmaaDoorChecked
import Derived.Test.YtpfbheodbgkgmaaDoorShelf
import Derived.Shelf.Unicode.DecodeSlow
import Derived.Lib.AtoiErrMem
import Derived.Lib.IndexAny
import Derived.Lib.TrimU
import Derived.Lib.TrimAscii
set_option linter.unusedSimpArgs false
set_option linter.unusedVariables false
namespace Go.Proofs.YtpfbheodbgkgmaaDoor
open Go Gx Go.Proofs
theorem cell_same {w w' : World} {p : Addr} {v : Value} (h : w.cell? p = some v) (hs : Same All w w') : w'.cell? p = some v := by
  rw [hs.below.cell (Lib.lt_of_cell h)]; exact h
theorem u8_same {w w' : World} {a b : Nat} (h : Lib.Utf8Tabs a b w) (hs : Same All w w') : Lib.Utf8Tabs a b w' :=
  ⟨fun c hc => cell_same (h.1 c hc) hs, fun i hi => ⟨cell_same (h.2 i hi).1 hs, cell_same (h.2 i hi).2 hs⟩⟩
/-- the two signs -/
def pm : List UInt8 := [43, 45]
theorem pm_at {i : Nat} (h : i < 2) : (pm.getD i 0).toNat < 128 := by
  match i, h with
  | 0, _ => decide
  | 1, _ => decide
/-- a rune that is no byte of ASCII is written in two bytes or more, none of ASCII -/
theorem encR_hi {r : Int} (h0 : 128 ≤ r) (hv : Lib.validRune r = true) : (2 ≤ (encR r).length ∧ (encR r).length ≤ 4) ∧ ∀ b ∈ encR r, 128 ≤ b.toNat := by
  have hr : r ≤ 1114111 := by unfold Lib.validRune at hv; simp at hv; omega
  unfold encR Utf8.encode
  generalize hc : (if Utf8.valid r then r.toNat else Utf8.runeError) = c
  have h1 : 128 ≤ c ∧ c ≤ 1114111 := by
    subst hc; split
    · omega
    · unfold Utf8.runeError; omega
  have hn : ∀ k : Nat, 128 ≤ k → k < 256 → 128 ≤ (UInt8.ofNat k).toNat := fun k a b => by rw [ofNat_toNat b]; exact a
  simp only []
  rw [if_neg (by omega)]
  split
  · refine ⟨by simp, fun b hb => ?_⟩
    simp only [List.mem_cons, List.not_mem_nil, or_false] at hb
    rcases hb with rfl | rfl <;> exact hn _ (by omega) (by omega)
  · split
    · refine ⟨by simp, fun b hb => ?_⟩
      simp only [List.mem_cons, List.not_mem_nil, or_false] at hb
      rcases hb with rfl | rfl | rfl <;> exact hn _ (by omega) (by omega)
    · refine ⟨by simp, fun b hb => ?_⟩
      simp only [List.mem_cons, List.not_mem_nil, or_false] at hb
      rcases hb with rfl | rfl | rfl | rfl <;> exact hn _ (by omega) (by omega)
theorem rs_ne {r : Int} {i j : Nat} (hi : i < 2) (hj : j < (encR r).length) (h : (2 ≤ (encR r).length ∧ (encR r).length ≤ 4) ∧ ∀ b ∈ encR r, 128 ≤ b.toNat) :
    (!decide (((pm.getD i 0).toNat : Int) = (((encR r).getD j 0).toNat : Int))) = true := by
  have h1 := pm_at hi
  have h2 := h.2 _ (getD_mem hj)
  rw [Bool.not_eq_true', decide_eq_false_iff_not]; omega
theorem C_sIndexByte (l : List UInt8) (c : Int) (w : World) : Ret Tryd.prog 102 #[.string (st l), .int .u8 c] w (fun v w' => v = .int .i64 (Lib.indexByte l c.toNat.toUInt8) ∧ w = w') :=
  ret_lib (Tryd.strings_IndexByte (st l) c w) (fun w' e => ⟨rfl, e.symm⟩)
theorem C_ValidRune (r : Int) (w : World) : Ret Tryd.prog 111 #[.int .i32 r] w (fun v w' => v = .bool (Lib.validRune r) ∧ w = w') :=
  ret_lib (Tryd.utf8_ValidRune r w) (fun w' e => ⟨rfl, e.symm⟩)
theorem C_shouldUse (n : Int) (w : World) : Ret Tryd.prog 73 #[.int .i64 n] w (fun v w' => v = .bool (decide (8 < n)) ∧ w = w') :=
  ret_lib (Tryd.strings_shouldUseASCIISet n w) (fun w' e => ⟨rfl, e.symm⟩)
instance (b : UInt8) : Decidable (isSgn b) := by unfold isSgn; infer_instance
theorem u8_eta (b : UInt8) : (b.toNat : Int).toNat.toUInt8 = b := by simp
theorem indexByte_pm (b : UInt8) : 0 ≤ Lib.indexByte pm b ↔ isSgn b := by
  have h : pm.contains b = decide (0 ≤ Lib.indexByte pm b) := Lib.contains_iff_indexByte pm b
  have h2 : pm.contains b = true ↔ isSgn b := by
    unfold isSgn pm
    simp only [List.contains_cons, List.contains_nil, Bool.or_false, Bool.or_eq_true, beq_iff_eq]
    constructor
    · rintro (h | h) <;> rw [h] <;> decide
    · rintro (h | h)
      · exact .inl (UInt8.toNat_inj.1 (by show b.toNat = 43; omega))
      · exact .inr (UInt8.toNat_inj.1 (by show b.toNat = 45; omega))
  rw [← h2, h]; simp
theorem setCells_pm_size : (Lib.setCells pm).size = 256 := by decide +kernel
theorem setCells_pm_at (x : UInt8) : (Lib.setCells pm)[x.toNat]? = some (.bool (decide (isSgn x))) := by
  have h := Lib.fold_at pm (Array.replicate 256 (.bool false)) false x (by rw [Array.getElem?_replicate, if_pos (by have := x.toNat_lt; omega)])
  have h2 : decide (isSgn x) = (false || pm.contains x) := by
    rw [Bool.false_or]
    have := indexByte_pm x
    rw [Lib.contains_iff_indexByte]
    exact decide_eq_decide.2 this.symm
  rw [h2]; exact h
theorem inf113 : Inf Tryd.prog 113 256 256 (.agg (Array.replicate 256 (.bool false))) := inf_of (by kernel_rfl)
theorem zero113 (w : World) : (zeroValue 113).run Tryd.prog w = .ok (.agg (Array.replicate 256 (.bool false))) w := by
  obtain ⟨i, hi, _, _, hz⟩ := inf113
  simp [zeroValue, typeInfo, hi, hz]
theorem C_makeSet (w : World) : Ret Tryd.prog 74 #[.string (st pm)] w (fun v w' => v = .tuple #[.agg (Lib.setCells pm), .bool true] ∧ Same All w w') := by
  exact ret_lib (Tryd.strings_makeASCIISet zero113 (st pm) w (by decide) (fun j b h => by
    have hj : j < 2 := (List.getElem?_eq_some_iff.1 h).1
    have := pm_at hj
    rw [List.getD_eq_getElem?_getD] at this
    rw [show pm[j]? = some b from h] at this
    exact this)) (fun w' e => ⟨rfl, by rw [e]; exact same_alloc _ _⟩)
theorem C_contains (b : Nat) (x : UInt8) (w : World) (hB : Bx w b 113 (Lib.setCells pm)) : Ret Tryd.prog 75 #[.pointer (some ⟨b, 0, none⟩), .int .u8 (x.toNat : Int)] w (fun v w' => v = .bool (decide (isSgn x)) ∧ w = w') :=
  ret_lib (Tryd.asciiSet_contains b x (decide (isSgn x)) w (by rw [hB.cell]; exact setCells_pm_at x)) (fun w' e => ⟨rfl, e.symm⟩)
theorem setsAt_all {a b : Array Value} (h : a.size = b.size) : setsAt a 0 b.toList = b := by
  unfold setsAt
  have : a.toList.drop (0 + b.toList.length) = [] := List.drop_eq_nil_of_le (by simp; omega)
  rw [this]; simp
theorem oneCell_pm : (Lib.setCells pm).toList.all (·.oneCell') = true := by decide +kernel
theorem C_DecodeLast (l : List UInt8) (w : World) (hs : l.length ≤ 9223372036854775807) (hU : Lib.Utf8Tabs 2 3 w) :
    Ret Tryd.prog 76 #[.string (st l)] w (fun v w' => v = .tuple #[.int .i32 ((Lib.decodeLastL l).1 : Int), .int .i64 ((Lib.decodeLastL l).2 : Int)] ∧ Same All w w') :=
  ret_lib (Tryd.utf8_DecodeLastRuneInString (st l) w (by rw [st_size]; exact hs) hU) (fun w' h => ⟨rfl, same_below h⟩)
theorem C_IndexRuneLo (s : List UInt8) (r : Int) (w : World) (h0 : 0 ≤ r) (h1 : r < 128) : Ret Tryd.prog 72 #[.string (st s), .int .i32 r] w (fun v w' => v = .int .i64 (Lib.indexByte s r.toNat.toUInt8) ∧ w = w') :=
  ret_lib (Tryd.strings_IndexRune_ascii (st s) r w h0 h1) (fun w' e => ⟨rfl, e.symm⟩)
end Go.Proofs.YtpfbheodbgkgmaaDoor
