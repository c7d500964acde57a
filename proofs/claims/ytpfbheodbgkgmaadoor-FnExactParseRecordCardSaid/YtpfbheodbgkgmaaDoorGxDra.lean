/-
  The base of this seat's walks: the cursor that the draws go on.
-/
import Derived.Test.YtpfbheodbgkgmaaDoorGxWalk
set_option linter.unusedSimpArgs false
set_option linter.unusedVariables false
namespace Gx
open Go

/-- At block c lies a cursor over bytes; the bytes lie in older memory. -/
def Cur (c : Nat) (w : World) : Prop := ∃ (T : TypeId) (a : Option Addr) (cap : Nat) (code : List UInt8) (i h : Int),
  Bx w c T #[.slice a code.length cap, .int .i64 i, .int .i64 h] ∧ Rd u8E (Lo c) w a code ∧ 0 ≤ i ∧ i ≤ code.length ∧ code.length ≤ 140737488355328

theorem Cur.keep {c : Nat} {w w' : World} {N : Nat → Prop} (h : Cur c w) (hs : Same N w w') (hn : ∀ k, k ≤ c → N k) : Cur c w' := by
  obtain ⟨T, a, cap, code, i, h', hB, hR, r⟩ := h
  exact ⟨T, a, cap, code, i, h', hB.same hs (hn c (Nat.le_refl _)), hR.same (hs.mono fun k _ hk => hn k (Nat.le_of_lt hk)), r⟩
theorem Cur.lt {c : Nat} {w : World} (h : Cur c w) : c < w.heap.size := by
  obtain ⟨T, a, cap, code, i, h', hB, _⟩ := h
  exact hB.lt
theorem byte_lt (x : UInt8) : (x.toNat : Int) ≤ 255 := by have := x.toNat_lt; omega
theorem wrap_byte (x : UInt8) : IntKind.wrap .i64 (x.toNat : Int) = x.toNat := wrap_in (by omega) (by have := byte_lt x; omega)
theorem get_byte (l : List UInt8) {k : Nat} (h : k < l.length) : l[k]? = some (l.getD k 0) := by
  rw [List.getD_eq_getElem?_getD, List.getElem?_eq_getElem h]; rfl
theorem get_elem {α : Type} (l : List α) (d : α) {k : Nat} (h : k < l.length) : l[k]? = some (l.getD k d) := by
  rw [List.getD_eq_getElem?_getD, List.getElem?_eq_getElem h]; rfl
theorem getD_mem_of {α : Type} (l : List α) (d : α) {k : Nat} (h : k < l.length) : l.getD k d ∈ l := by
  rw [List.getD_eq_getElem?_getD, List.getElem?_eq_getElem h]; exact List.getElem_mem h
end Gx
