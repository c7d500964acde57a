/-
  strings.IndexRune at the two signs, whatever the rune; plain facts for the last of the signs in a text.
-/
import Derived.Test.YtpfbheodbgkgmaaDoorTf
set_option linter.unusedSimpArgs false
set_option linter.unusedVariables false
namespace Go.Proofs.YtpfbheodbgkgmaaDoor
open Go Gx Go.Proofs
def IRP (r k : Int) : Prop := -1 ≤ k ∧ ∀ b : UInt8, r = (b.toNat : Int) → b.toNat < 128 → (0 ≤ k ↔ isSgn b)
theorem C_IndexRunePm (r : Int) (w : World) (h0 : 0 ≤ r) (h1 : r ≤ 1114111) : Ret Tryd.prog 72 #[.string (st pm), .int .i32 r] w (fun v w' => ∃ (k : Int), v = .int .i64 k ∧ IRP r k ∧ Same All w w') := by
  by_cases h : r < 128
  · refine (C_IndexRuneLo pm r w h0 h).mono ?_
    rintro v w' ⟨rfl, rfl⟩
    refine ⟨_, rfl, ⟨Lib.indexByte_ge _ _, fun b hb h2 => ?_⟩, Same.refl _ _⟩
    subst hb
    rw [u8_eta]
    exact indexByte_pm b
  · refine (C_IndexRuneHi r w (by omega) h1).mono ?_
    rintro v w' ⟨rfl, hs⟩
    exact ⟨_, rfl, ⟨by omega, fun b hb h2 => by omega⟩, hs⟩
def asc (s : List UInt8) : Prop := ∀ b ∈ s, b.toNat < 128
theorem asc_at {s : List UInt8} (h : asc s) (j : Nat) : (s.getD j 0).toNat < 128 := by
  by_cases hj : j < s.length
  · exact h _ (getD_mem hj)
  · rw [List.getD_eq_getElem?_getD, List.getElem?_eq_none (by omega)]; decide
/-- from a place on, no sign (of a text of ASCII) -/
def noSgn (s : List UInt8) (i : Int) : Prop := asc s → ∀ j : Nat, i ≤ (j : Int) → j < s.length → ¬ isSgn (s.getD j 0)
theorem noSgn_end (s : List UInt8) {i : Int} (h : (s.length : Int) ≤ i) : noSgn s i := fun _ j h1 h2 => by omega
theorem noSgn_back {s : List UInt8} {i i' : Int} (h : noSgn s i) (h0 : asc s → i' = i - 1) (h1 : asc s → 0 ≤ i' → ¬ isSgn (s.getD i'.toNat 0)) : noSgn s i' := fun ha j h2 h3 => by
  by_cases e : i ≤ (j : Int)
  · exact h ha j e h3
  · have := h0 ha
    have e2 : j = i'.toNat := by omega
    rw [e2]; exact h1 ha (by omega)
def LIAp (s : List UInt8) (k : Int) : Prop := (∀ b ∈ s, b.toNat < 128) → (0 ≤ k → isSgn (s.getD (Int.toNat k) 0)) ∧ ∀ j : Nat, k < (j : Int) → j < s.length → ¬ isSgn (s.getD j 0)
theorem LIA_hit {s : List UInt8} {k i : Int} (h : noSgn s i) (h0 : asc s → k = i - 1) (h1 : asc s → isSgn (s.getD k.toNat 0)) : LIAp s k := fun ha => ⟨fun _ => h1 ha, fun j h2 h3 => h ha j (by have := h0 ha; omega) h3⟩
theorem LIA_none {s : List UInt8} {i : Int} (h : noSgn s i) (h0 : i ≤ 0) : LIAp s (-1) := fun ha => ⟨fun h => by omega, fun j h2 h3 => h ha j (by omega) h3⟩
theorem dl_ascii {s : List UInt8} {i : Nat} (h0 : 0 < i) (h1 : i ≤ s.length) (ha : asc s) : Lib.decodeLastL (s.take i) = ((s.getD (i - 1) 0).toNat, 1) := by
  have e : s.take i = s.take (i - 1) ++ [s.getD (i - 1) 0] := by
    have := take_snoc (l := s) (i := i - 1) (by omega)
    rwa [Nat.sub_add_cancel h0] at this
  rw [e]
  exact Lib.decodeLastL_ascii _ _ (asc_at ha _)
theorem cells_agg (x : Array Value) : (Value.agg x).cells = x := rfl
theorem stA : (Value.agg (Lib.setCells pm)).cells.size = 256 := by rw [cells_agg, setCells_pm_size]
theorem stB : Nat.ble (0 + (Value.agg (Lib.setCells pm)).cells.size) (Array.replicate 256 (Value.bool false)).size = true := by rw [stA, Array.size_replicate]; rfl
theorem stC : (Value.agg (Lib.setCells pm)).cells.toList.all (·.oneCell') = true := by rw [cells_agg]; exact oneCell_pm
theorem stD : setsAt (Array.replicate 256 (Value.bool false)) 0 (Value.agg (Lib.setCells pm)).cells.toList = Lib.setCells pm := by
  rw [cells_agg]
  exact setsAt_all (a := Array.replicate 256 (Value.bool false)) (b := Lib.setCells pm) (by rw [setCells_pm_size, Array.size_replicate])
theorem w32 {x : Int} (h0 : 0 ≤ x) (h1 : x ≤ 2147483647) : IntKind.wrap .i32 x = x := by
  unfold IntKind.wrap
  simp [IntKind.bits, IntKind.signed]
  omega
end Go.Proofs.YtpfbheodbgkgmaaDoor
