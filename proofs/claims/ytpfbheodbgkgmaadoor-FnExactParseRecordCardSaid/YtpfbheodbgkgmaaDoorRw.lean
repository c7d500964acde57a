/-
  strings.Split at a blank, by the shelf's contract, as the list that 'spl' gives; the variable that it reads goes on reading so.
-/
import Derived.Test.YtpfbheodbgkgmaaDoorTw
import Derived.Test.YtpfbheodbgkgmaaDoorGxRec
set_option linter.unusedSimpArgs false
set_option linter.unusedVariables false
namespace Go.Proofs.YtpfbheodbgkgmaaDoor
open Go Gx Go.Proofs
theorem mx_same {w w' : World} (h : ∃ m, w.cell? ⟨1, 0, none⟩ = some (.int .i64 m)) (hs : Same All w w') : ∃ m, w'.cell? ⟨1, 0, none⟩ = some (.int .i64 m) := by
  obtain ⟨m, hm⟩ := h
  exact ⟨m, cell_same hm hs⟩
theorem C_Split (s : List UInt8) (w : World) (hm : ∃ m, w.cell? ⟨1, 0, none⟩ = some (.int .i64 m)) (hsz : s.length < 4294967281) :
    Ret Tryd.prog 51 #[.string (st s), .string (st [32])] w (fun v w' => ∃ (bs : Nat), v = .slice (some ⟨bs, 0, none⟩) (spl s).length (spl s).length ∧ Rd stE All w' (some ⟨bs, 0, none⟩) (spl s) ∧ Same All w w') := by
  obtain ⟨m, hm⟩ := hm
  refine ret_lib (Tryd.strings_Split (st s) (st [32]) m w (by rw [st_size]; exact hsz) hm (by decide)) (fun w' e => ⟨w.heap.size, by rw [spl_len], ?_, by rw [e]; exact same_alloc _ _⟩)
  have hB : Bx w' w.heap.size 9 ((spl s).flatMap stE.enc).toArray := by
    rw [e, ← spl_cells]; exact heap_alloc_new w _
  exact hB.rd (N := All) trivial ⟨[], by simp⟩
end Go.Proofs.YtpfbheodbgkgmaaDoor
