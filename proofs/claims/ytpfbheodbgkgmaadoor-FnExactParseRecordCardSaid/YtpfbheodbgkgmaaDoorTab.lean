/-
  What the rows' lists of the Door seat give of the library's tables.
-/
import Derived.Test.YtpfbheodbgkgmaaDoorTw
import Derived.Test.YtpfbheodbgkgmaaDoorRows
import Derived.Lib.LaidU8
set_option linter.unusedSimpArgs false
set_option linter.unusedVariables false
namespace Go.Proofs.YtpfbheodbgkgmaaDoor
open Go Gx Go.Proofs Go.Lib
theorem tab_of_reads {P : Program} {W : World} {name : String} {k : IntKind} {zs : List Int} {g : Nat} {t e : TypeId} {n : Nat}
    (hg : P.globalNamed name = some g) (hty : (P.globals[g]?).map (·.type) = some t) (ht : P.underlying t = some (.array n e)) (he : P.underlying e = some (.int k)) (hce : P.cellsOf e = 1) (hct : P.cellsOf t = n)
    (h : VarReads P W name (tabData k zs)) : TabIs P W name k zs := by
  obtain ⟨g', t', cs, fuel, p, hg', ht', hvar, hd⟩ := h
  obtain rfl := Option.some.inj (hg.symm.trans hg')
  obtain rfl := Option.some.inj (hty.symm.trans ht')
  unfold TabIs
  rw [hvar, ← cells_of_tab ht he hce hct hd]
theorem pow_datum : (Rows.laid_internal_strconv_uint64pow10 : DataW Unit) = tabData .u64 pow10Tab := by kernel_rfl
theorem acc_datum : (Rows.laid_unicode_utf8_acceptRanges : DataW Unit) = acceptData := by kernel_rfl
theorem first_datum : Rows.laid_unicode_utf8_first = firstData := by kernel_rfl
theorem u8x : U8Extra Tryd.prog Tryd.lays260_ren := { n3 := by kernel_rfl, n4 := by kernel_rfl, y3 := by kernel_rfl, y4 := by kernel_rfl, c5 := by kernel_rfl, c119 := by kernel_rfl, c138 := by kernel_rfl }
theorem u8_of {W : World} (h3 : VarReads Tryd.prog W "unicode/utf8.first" firstData) (h4 : VarReads Tryd.prog W "unicode/utf8.acceptRanges" acceptData) : Lib.Utf8Tabs 2 3 W :=
  utf8Tabs_of_reads Tryd.lays260 u8x h3 h4
theorem pow_of {W : World} (h : VarReads Tryd.prog W "internal/strconv.uint64pow10" (tabData .u64 pow10Tab)) : TabIs Tryd.prog W "internal/strconv.uint64pow10" .u64 pow10Tab :=
  tab_of_reads (g := 4) (t := 176) (e := 150) (n := 20) (by kernel_rfl) (by kernel_rfl) Tryd.underlying176 Tryd.underlying150 (by kernel_rfl) (by kernel_rfl) h

theorem mx_of {W : World} (h : W.ShapedOpen Tryd.prog) : ∃ m, W.cell? ⟨1, 0, none⟩ = some (.int .i64 m) := Tryd.laysM146.s1_3 W h
end Go.Proofs.YtpfbheodbgkgmaaDoor
