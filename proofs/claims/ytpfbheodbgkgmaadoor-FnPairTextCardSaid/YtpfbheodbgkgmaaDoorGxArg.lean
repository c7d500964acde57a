/-
  The base of this seat's walks: the bytes that came in, as a list that reads so.
-/
import Derived.Test.YtpfbheodbgkgmaaDoorGxDra
import Derived.DataReads
set_option linter.unusedSimpArgs false
set_option linter.unusedVariables false
namespace Gx
open Go
theorem row_rd {W : World} {x : Addr} {len cap : Nat} {zs : List Int} (hl : len ≤ cap) (hz : zs.length = cap) (hcell : ∀ i, i < zs.length → W.cell? (x.add i) = some (.int .u8 (zs.getD i 0)))
    (hw : ∀ n ∈ zs, (Lit.int .u8 n).wf = true) : ∃ code : List UInt8, code.length = len ∧ Rd u8E All W (some x) code := by
  refine ⟨(zs.take len).map (fun z => UInt8.ofNat z.toNat), by simp; omega, fun i b hb => ?_⟩
  have hi : i < len := by
    have := (List.getElem?_eq_some_iff.1 hb).1
    simp at this; omega
  have h0 := hcell 0 (by omega)
  have hsp : x.spot = none := by
    have : x.add 0 = x := rfl
    rw [this] at h0
    exact World.cell?_spot h0
  obtain ⟨bl, o, sp⟩ := x
  simp only at hsp
  subst hsp
  refine ⟨bl, o, rfl, trivial, fun j v hv => ?_⟩
  have hc := hcell i (by omega)
  rw [add_plain] at hc
  have hzi : zs.getD i 0 = zs[i]'(by omega) := by
    rw [List.getD_eq_getElem?_getD, List.getElem?_eq_getElem (by omega)]; rfl
  have hwf := hw _ (List.getElem_mem (show i < zs.length by omega))
  have hr : 0 ≤ zs[i]'(by omega) ∧ zs[i]'(by omega) ≤ 255 := by
    generalize zs[i]'(by omega) = z at hwf
    simp [Lit.wf, IntKind.min, IntKind.max, IntKind.bits, IntKind.signed] at hwf
    omega
  have hbe : b = UInt8.ofNat (zs[i]'(by omega)).toNat := by
    rw [List.getElem?_map, List.getElem?_take, if_pos hi, List.getElem?_eq_getElem (by omega)] at hb
    simpa using hb.symm
  have hbn : (b.toNat : Int) = zs[i]'(by omega) := by
    rw [hbe]
    have : (UInt8.ofNat (zs[i]'(by omega)).toNat).toNat = (zs[i]'(by omega)).toNat := by simp; omega
    rw [this]; omega
  have hj : j = 0 := by
    have := (List.getElem?_eq_some_iff.1 hv).1
    simp [u8E] at this; omega
  subst hj
  simp only [u8E, List.getElem?_cons_zero, Option.some.injEq] at hv
  subst hv
  rw [hbn, ← hzi]
  have e : o + i * u8E.sz + 0 = o + i := by show o + i * 1 + 0 = o + i; omega
  rw [e]
  exact hc
end Gx
