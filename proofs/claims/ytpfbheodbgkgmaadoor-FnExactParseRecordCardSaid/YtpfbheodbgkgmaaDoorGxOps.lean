/-
  The base of this seat's walks: what each kind of operation hands back.
-/
import Derived.Test.YtpfbheodbgkgmaaDoorGxCore
import Derived.WalkLawsBesides
set_option linter.unusedSimpArgs false
set_option linter.unusedVariables false
namespace Gx
open Go
section
variable {P : Program} {n : Nat} {ρ : Env} {w : World} {dst : Option Tmp} {ty : TypeId} {pos : String} {af : Array Edge} {gd : Option (Nat × Bool)}

theorem R_move {x : Operand} {v : Value} (h : ev ρ x = v) : Run P ρ ⟨dst, .move x, ty, pos, af, gd⟩ w v := by subst h; rfl
theorem R_assign {x : Operand} {v : Value} (h : ev ρ x = v) : Run P ρ ⟨dst, .assign x, ty, pos, af, gd⟩ w v := by subst h; rfl
theorem R_extract {x : Operand} {i : Nat} {vs : Array Value} {v : Value} (h : ev ρ x = .tuple vs) (hv : vs[i]? = some v) : Run P ρ ⟨dst, .extract x i, ty, pos, af, gd⟩ w v := by
  simp only [Run, execOp, h, Instr.extract, hv]; rfl
theorem R_pick_t {c a b : Operand} {v : Value} (hc : ev ρ c = .bool true) (h : ev ρ a = v) : Run P ρ ⟨dst, .pick c a b, ty, pos, af, gd⟩ w v := by
  simp only [Run, execOp, hc, asBool]; subst h; rfl
theorem R_pick_f {c a b : Operand} {v : Value} (hc : ev ρ c = .bool false) (h : ev ρ b = v) : Run P ρ ⟨dst, .pick c a b, ty, pos, af, gd⟩ w v := by
  simp only [Run, execOp, hc, asBool]; subst h; rfl
theorem R_pick {c a b : Operand} {p x y : Bool} (hc : ev ρ c = .bool p) (ha : ev ρ a = .bool x) (hb : ev ρ b = .bool y) : Run P ρ ⟨dst, .pick c a b, ty, pos, af, gd⟩ w (.bool (bif p then x else y)) := by
  simp only [Run, execOp, hc, asBool, ha, hb]; cases p <;> rfl

theorem R_not {t : TypeId} {x : Operand} {b : Bool} (h : ev ρ x = .bool b) : Run P ρ ⟨dst, .unOp .not t x, ty, pos, af, gd⟩ w (.bool (!b)) := by
  simp only [Run, execOp, h, Op.unary]; rfl
theorem R_negf {t : TypeId} {x : Operand} {k : FloatKind} {b : Nat} (h : ev ρ x = .float k b) : Run P ρ ⟨dst, .unOp .neg t x, ty, pos, af, gd⟩ w (.float k (Op.negFloat k b)) := by
  simp only [Run, execOp, h, Op.unary]; rfl
theorem R_negc {t : TypeId} {x : Operand} {k : FloatKind} {a b : Nat} (h : ev ρ x = .complex k a b) : Run P ρ ⟨dst, .unOp .neg t x, ty, pos, af, gd⟩ w (.complex k (Op.negFloat k a) (Op.negFloat k b)) := by
  simp only [Run, execOp, h, Op.unary]; rfl

/-- An int of 64 bits that fits is not turned by the wrap. -/
theorem wrap_in {x : Int} (h0 : -9223372036854775808 ≤ x) (h1 : x ≤ 9223372036854775807) : IntKind.i64.wrap x = x := by
  unfold IntKind.wrap IntKind.signed IntKind.bits
  simp only [Bool.true_and, decide_eq_true_eq, ge_iff_le, Nat.add_one_sub_one]
  have e1 : ((2 : Int) ^ 64) = 18446744073709551616 := by decide
  have e2 : ((2 : Int) ^ 63) = 9223372036854775808 := by decide
  simp only [e1, e2]
  split <;> omega

theorem guard_int {op : BinOp} {t : TypeId} {x y : Operand} {k k' : IntKind} {a b : Int} : (eqGuard op t x y (.int k a) (.int k' b)).run P w = .ok () w := by
  unfold eqGuard; split <;> rfl

theorem R_int {op : BinOp} {t t' : TypeId} {x y : Operand} {k : IntKind} {a b : Int} {v : Value} (hx : ev ρ x = .int k a) (hy : ev ρ y = .int k b)
    (h : (binOp op t (.int k a) (.int k b)).run P w = .ok v w) : Run P ρ ⟨dst, .binOp op t x y t', ty, pos, af, gd⟩ w v := by
  simp only [Run, execOp, hx, hy, Sem.run_bind, guard_int, Result.andThen_ok, h, Sem.run_pure]

theorem R_add {t t' : TypeId} {x y : Operand} {a b : Int} (hx : ev ρ x = .int .i64 a) (hy : ev ρ y = .int .i64 b) (h0 : -9223372036854775808 ≤ a + b) (h1 : a + b ≤ 9223372036854775807) :
    Run P ρ ⟨dst, .binOp .add t x y t', ty, pos, af, gd⟩ w (.int .i64 (a + b)) := R_int hx hy (by simp [binOp, Op.intArith, wrap_in h0 h1])
theorem R_sub {t t' : TypeId} {x y : Operand} {a b : Int} (hx : ev ρ x = .int .i64 a) (hy : ev ρ y = .int .i64 b) (h0 : -9223372036854775808 ≤ a - b) (h1 : a - b ≤ 9223372036854775807) :
    Run P ρ ⟨dst, .binOp .sub t x y t', ty, pos, af, gd⟩ w (.int .i64 (a - b)) := R_int hx hy (by simp [binOp, Op.intArith, wrap_in h0 h1])
theorem R_mul {t t' : TypeId} {x y : Operand} {a b : Int} (hx : ev ρ x = .int .i64 a) (hy : ev ρ y = .int .i64 b) (h0 : -9223372036854775808 ≤ a * b) (h1 : a * b ≤ 9223372036854775807) :
    Run P ρ ⟨dst, .binOp .mul t x y t', ty, pos, af, gd⟩ w (.int .i64 (a * b)) := R_int hx hy (by simp [binOp, Op.intArith, wrap_in h0 h1])
theorem R_addw {k : IntKind} {t t' : TypeId} {x y : Operand} {a b : Int} (hx : ev ρ x = .int k a) (hy : ev ρ y = .int k b) :
    Run P ρ ⟨dst, .binOp .add t x y t', ty, pos, af, gd⟩ w (.int k (k.wrap (a + b))) := R_int hx hy (by simp [binOp, Op.intArith])
theorem R_subw {k : IntKind} {t t' : TypeId} {x y : Operand} {a b : Int} (hx : ev ρ x = .int k a) (hy : ev ρ y = .int k b) :
    Run P ρ ⟨dst, .binOp .sub t x y t', ty, pos, af, gd⟩ w (.int k (k.wrap (a - b))) := R_int hx hy (by simp [binOp, Op.intArith])
theorem R_mulw {k : IntKind} {t t' : TypeId} {x y : Operand} {a b : Int} (hx : ev ρ x = .int k a) (hy : ev ρ y = .int k b) :
    Run P ρ ⟨dst, .binOp .mul t x y t', ty, pos, af, gd⟩ w (.int k (k.wrap (a * b))) := R_int hx hy (by simp [binOp, Op.intArith])
theorem R_neg {t : TypeId} {x : Operand} {a : Int} (hx : ev ρ x = .int .i64 a) (h0 : -9223372036854775807 ≤ a) (h1 : a ≤ 9223372036854775807) :
    Run P ρ ⟨dst, .unOp .neg t x, ty, pos, af, gd⟩ w (.int .i64 (-a)) := by
  simp only [Run, execOp, hx, Op.unary, Op.intArith, Int.zero_sub, wrap_in (show -9223372036854775808 ≤ -a by omega) (show -a ≤ 9223372036854775807 by omega)]; rfl
theorem R_quo {t t' : TypeId} {x y : Operand} {a b : Int} (hx : ev ρ x = .int .i64 a) (hy : ev ρ y = .int .i64 b) (ha : 0 ≤ a) (ha' : a ≤ 9223372036854775807) (hb : 0 < b) :
    Run P ρ ⟨dst, .binOp .quo t x y t', ty, pos, af, gd⟩ w (.int .i64 (a / b)) := by
  refine R_int hx hy ?_
  have e : a.tdiv b = a / b := Int.tdiv_eq_ediv_of_nonneg ha
  have h2 : a / b ≤ a := Int.ediv_le_self _ ha
  have h3 : 0 ≤ a / b := Int.ediv_nonneg ha (by omega)
  have hb' : b ≠ 0 := by omega
  simp [binOp, Op.intDiv, hb', e, wrap_in (show -9223372036854775808 ≤ a / b by omega) (show a / b ≤ 9223372036854775807 by omega)]
theorem R_rem {t t' : TypeId} {x y : Operand} {a b : Int} (hx : ev ρ x = .int .i64 a) (hy : ev ρ y = .int .i64 b) (ha : 0 ≤ a) (hb : 0 < b) :
    Run P ρ ⟨dst, .binOp .rem t x y t', ty, pos, af, gd⟩ w (.int .i64 (a % b)) := by
  refine R_int hx hy ?_
  have e : a.tmod b = a % b := Int.tmod_eq_emod_of_nonneg ha
  have hb' : b ≠ 0 := by omega
  simp [binOp, Op.intDiv, hb', e]
theorem R_tquo {t t' : TypeId} {x y : Operand} {a b : Int} (hx : ev ρ x = .int .i64 a) (hy : ev ρ y = .int .i64 b) (hb : b ≠ 0) :
    Run P ρ ⟨dst, .binOp .quo t x y t', ty, pos, af, gd⟩ w (.int .i64 (IntKind.i64.wrap (a.tdiv b))) := R_int hx hy (by simp [binOp, Op.intDiv, hb])
theorem R_trem {t t' : TypeId} {x y : Operand} {a b : Int} (hx : ev ρ x = .int .i64 a) (hy : ev ρ y = .int .i64 b) (hb : b ≠ 0) :
    Run P ρ ⟨dst, .binOp .rem t x y t', ty, pos, af, gd⟩ w (.int .i64 (a.tmod b)) := R_int hx hy (by simp [binOp, Op.intDiv, hb])

theorem R_lss {k : IntKind} {t t' : TypeId} {x y : Operand} {a b : Int} (hx : ev ρ x = .int k a) (hy : ev ρ y = .int k b) :
    Run P ρ ⟨dst, .binOp .lss t x y t', ty, pos, af, gd⟩ w (.bool (decide (a < b))) := R_int hx hy (by simp [binOp, Op.intCmp])
theorem R_leq {k : IntKind} {t t' : TypeId} {x y : Operand} {a b : Int} (hx : ev ρ x = .int k a) (hy : ev ρ y = .int k b) :
    Run P ρ ⟨dst, .binOp .leq t x y t', ty, pos, af, gd⟩ w (.bool (decide (a ≤ b))) := R_int hx hy (by simp [binOp, Op.intCmp])
theorem R_gtr {k : IntKind} {t t' : TypeId} {x y : Operand} {a b : Int} (hx : ev ρ x = .int k a) (hy : ev ρ y = .int k b) :
    Run P ρ ⟨dst, .binOp .gtr t x y t', ty, pos, af, gd⟩ w (.bool (decide (b < a))) := R_int hx hy (by simp [binOp, Op.intCmp])
theorem R_geq {k : IntKind} {t t' : TypeId} {x y : Operand} {a b : Int} (hx : ev ρ x = .int k a) (hy : ev ρ y = .int k b) :
    Run P ρ ⟨dst, .binOp .geq t x y t', ty, pos, af, gd⟩ w (.bool (decide (b ≤ a))) := R_int hx hy (by simp [binOp, Op.intCmp])
theorem beq_decide (a b : Int) : (a == b) = decide (a = b) := by
  by_cases h : a = b <;> simp [h]
theorem R_eql {k : IntKind} {t t' : TypeId} {x y : Operand} {a b : Int} (hx : ev ρ x = .int k a) (hy : ev ρ y = .int k b) :
    Run P ρ ⟨dst, .binOp .eql t x y t', ty, pos, af, gd⟩ w (.bool (decide (a = b))) := R_int hx hy (by simp [binOp, Op.intCmp, beq_decide])
theorem R_neq {k : IntKind} {t t' : TypeId} {x y : Operand} {a b : Int} (hx : ev ρ x = .int k a) (hy : ev ρ y = .int k b) :
    Run P ρ ⟨dst, .binOp .neq t x y t', ty, pos, af, gd⟩ w (.bool (!decide (a = b))) := R_int hx hy (by
      have : (a != b) = !decide (a = b) := by rw [← beq_decide]; rfl
      simp [binOp, Op.intCmp, this])

/-- == on bools. -/
theorem R_eqb {t t' : TypeId} {x y : Operand} {a b : Bool} (ht : P.underlying t = some .bool) (hx : ev ρ x = .bool a) (hy : ev ρ y = .bool b) :
    Run P ρ ⟨dst, .binOp .eql t x y t', ty, pos, af, gd⟩ w (.bool (a == b)) := by
  have e : (binOp .eql t (.bool a) (.bool b)).run P w = .ok (.bool (a == b)) w := by
    exact run_eql_bool w t a b ht
  have g : (eqGuard .eql t x y (.bool a) (.bool b)).run P w = .ok () w := by unfold eqGuard; split <;> rfl
  simp only [Run, execOp, hx, hy, Sem.run_bind, g, Result.andThen_ok, e, Sem.run_pure]
theorem R_neb {t t' : TypeId} {x y : Operand} {a b : Bool} (ht : P.underlying t = some .bool) (hx : ev ρ x = .bool a) (hy : ev ρ y = .bool b) :
    Run P ρ ⟨dst, .binOp .neq t x y t', ty, pos, af, gd⟩ w (.bool (!(a == b))) := by
  have e : (binOp .neq t (.bool a) (.bool b)).run P w = .ok (.bool (!(a == b))) w := by
    exact run_neq_bool w t a b ht
  have g : (eqGuard .neq t x y (.bool a) (.bool b)).run P w = .ok () w := by unfold eqGuard; split <;> rfl
  simp only [Run, execOp, hx, hy, Sem.run_bind, g, Result.andThen_ok, e, Sem.run_pure]

/-- floats -/
theorem guard_float {op : BinOp} {t : TypeId} {x y : Operand} {k k' : FloatKind} {a b : Nat} : (eqGuard op t x y (.float k a) (.float k' b)).run P w = .ok () w := by
  unfold eqGuard; split <;> rfl
theorem R_flt {op : BinOp} {t t' : TypeId} {x y : Operand} {k : FloatKind} {a b : Nat} {v : Value} (hx : ev ρ x = .float k a) (hy : ev ρ y = .float k b)
    (h : (binOp op t (.float k a) (.float k b)).run P w = .ok v w) : Run P ρ ⟨dst, .binOp op t x y t', ty, pos, af, gd⟩ w v := by
  simp only [Run, execOp, hx, hy, Sem.run_bind, guard_float, Result.andThen_ok, h, Sem.run_pure]
def feq (k : FloatKind) (a b : Nat) : Bool := k.format.order a b == some .eq
def flt (k : FloatKind) (a b : Nat) : Bool := k.format.order a b == some .lt
def fgt (k : FloatKind) (a b : Nat) : Bool := k.format.order a b == some .gt
def fle (k : FloatKind) (a b : Nat) : Bool := k.format.order a b == some .lt || k.format.order a b == some .eq
def fge (k : FloatKind) (a b : Nat) : Bool := k.format.order a b == some .gt || k.format.order a b == some .eq
theorem R_feql {t t' : TypeId} {x y : Operand} {k : FloatKind} {a b : Nat} (hx : ev ρ x = .float k a) (hy : ev ρ y = .float k b) :
    Run P ρ ⟨dst, .binOp .eql t x y t', ty, pos, af, gd⟩ w (.bool (feq k a b)) := R_flt hx hy (by simp [binOp, Op.floatCmp, feq])
theorem R_fneq {t t' : TypeId} {x y : Operand} {k : FloatKind} {a b : Nat} (hx : ev ρ x = .float k a) (hy : ev ρ y = .float k b) :
    Run P ρ ⟨dst, .binOp .neq t x y t', ty, pos, af, gd⟩ w (.bool (!feq k a b)) := R_flt hx hy (by simp [binOp, Op.floatCmp, feq, bne])
theorem R_flss {t t' : TypeId} {x y : Operand} {k : FloatKind} {a b : Nat} (hx : ev ρ x = .float k a) (hy : ev ρ y = .float k b) :
    Run P ρ ⟨dst, .binOp .lss t x y t', ty, pos, af, gd⟩ w (.bool (flt k a b)) := R_flt hx hy (by simp [binOp, Op.floatCmp, flt])
theorem R_fgtr {t t' : TypeId} {x y : Operand} {k : FloatKind} {a b : Nat} (hx : ev ρ x = .float k a) (hy : ev ρ y = .float k b) :
    Run P ρ ⟨dst, .binOp .gtr t x y t', ty, pos, af, gd⟩ w (.bool (fgt k a b)) := R_flt hx hy (by simp [binOp, Op.floatCmp, fgt])
theorem R_fleq {t t' : TypeId} {x y : Operand} {k : FloatKind} {a b : Nat} (hx : ev ρ x = .float k a) (hy : ev ρ y = .float k b) :
    Run P ρ ⟨dst, .binOp .leq t x y t', ty, pos, af, gd⟩ w (.bool (fle k a b)) := R_flt hx hy (by simp [binOp, Op.floatCmp, fle])
theorem R_fgeq {t t' : TypeId} {x y : Operand} {k : FloatKind} {a b : Nat} (hx : ev ρ x = .float k a) (hy : ev ρ y = .float k b) :
    Run P ρ ⟨dst, .binOp .geq t x y t', ty, pos, af, gd⟩ w (.bool (fge k a b)) := R_flt hx hy (by simp [binOp, Op.floatCmp, fge])

/-- complex == -/
theorem guard_cplx {op : BinOp} {t : TypeId} {x y : Operand} {k k' : FloatKind} {a b c d : Nat} : (eqGuard op t x y (.complex k a b) (.complex k' c d)).run P w = .ok () w := by
  unfold eqGuard; split <;> rfl
theorem R_ceql {t t' : TypeId} {x y : Operand} {k : FloatKind} {a b c d : Nat} (hx : ev ρ x = .complex k a b) (hy : ev ρ y = .complex k c d) :
    Run P ρ ⟨dst, .binOp .eql t x y t', ty, pos, af, gd⟩ w (.bool (feq k a c && feq k b d)) := by
  simp only [Run, execOp, hx, hy, Sem.run_bind, guard_cplx, Result.andThen_ok, run_eql_complex, Sem.run_pure, feq]
theorem R_cneq {t t' : TypeId} {x y : Operand} {k : FloatKind} {a b c d : Nat} (hx : ev ρ x = .complex k a b) (hy : ev ρ y = .complex k c d) :
    Run P ρ ⟨dst, .binOp .neq t x y t', ty, pos, af, gd⟩ w (.bool (!(feq k a c && feq k b d))) := by
  simp only [Run, execOp, hx, hy, Sem.run_bind, guard_cplx, Result.andThen_ok, run_neq_complex, Sem.run_pure, feq]

/-- strings -/
theorem guard_str {op : BinOp} {t : TypeId} {x y : Operand} {a b : ByteArray} : (eqGuard op t x y (.string a) (.string b)).run P w = .ok () w := by
  unfold eqGuard; split <;> rfl
theorem toList_eq (s : ByteArray) : s.toList = s.data.toList := ByteArray.toList_eq s
theorem R_seql {t t' : TypeId} {x y : Operand} {a b : ByteArray} (hx : ev ρ x = .string a) (hy : ev ρ y = .string b) :
    Run P ρ ⟨dst, .binOp .eql t x y t', ty, pos, af, gd⟩ w (.bool (decide (a = b))) := by
  have e : (a.toList == b.toList) = decide (a = b) := by
    rw [toList_eq, toList_eq]
    by_cases h : a = b
    · subst h; simp
    · have : a.data.toList ≠ b.data.toList := fun e => h (by cases a; cases b; simp only [ByteArray.mk.injEq]; exact Array.toList_inj.1 e)
      simp only [beq_eq_false_iff_ne.2 this, h, decide_false]
  simp only [Run, execOp, hx, hy, Sem.run_bind, guard_str, Result.andThen_ok, binOp, Op.stringOp, Sem.run_pure, e]
theorem R_sneq {t t' : TypeId} {x y : Operand} {a b : ByteArray} (hx : ev ρ x = .string a) (hy : ev ρ y = .string b) :
    Run P ρ ⟨dst, .binOp .neq t x y t', ty, pos, af, gd⟩ w (.bool (!decide (a = b))) := by
  have e : (a.toList == b.toList) = decide (a = b) := by
    rw [toList_eq, toList_eq]
    by_cases h : a = b
    · subst h; simp
    · have : a.data.toList ≠ b.data.toList := fun e => h (by cases a; cases b; simp only [ByteArray.mk.injEq]; exact Array.toList_inj.1 e)
      simp only [beq_eq_false_iff_ne.2 this, h, decide_false]
  simp only [Run, execOp, hx, hy, Sem.run_bind, guard_str, Result.andThen_ok, binOp, Op.stringOp, Sem.run_pure, e]
theorem R_sadd {t t' : TypeId} {x y : Operand} {a b : ByteArray} (hx : ev ρ x = .string a) (hy : ev ρ y = .string b) (hs : a.size + b.size ≤ 9223372036854775807) :
    Run P ρ ⟨dst, .binOp .add t x y t', ty, pos, af, gd⟩ w (.string (a ++ b)) := by
  have e : ¬ (((a.size + b.size : Nat) : Int) > IntKind.i64.max) := by
    have : IntKind.i64.max = 9223372036854775807 := by decide
    rw [this]; omega
  simp only [Run, execOp, hx, hy, Sem.run_bind, guard_str, Result.andThen_ok, binOp, Op.stringOp, Sem.run_pure, if_neg e]

/-- builtins -/
theorem map1 {x : Operand} {v : Value} (hx : ev ρ x = v) : (#[x]).map (ev ρ) = #[v] := by simp [hx]
theorem map2 {x y : Operand} {v u : Value} (hx : ev ρ x = v) (hy : ev ρ y = u) : (#[x, y]).map (ev ρ) = #[v, u] := by simp [hx, hy]
theorem run_builtin {b : Builtin} {args : Array Operand} {tys : Array TypeId} {v : Value}
    (h : (builtin b tys ty (args.map fun | .const _ => true | _ => false) (args.map (ev ρ))).run P w = .ok (.value v) w) :
    Run P ρ ⟨dst, .call ⟨.builtin b, args, tys⟩, ty, pos, af, gd⟩ w v := by
  simp only [Run, execOp, resolve, Sem.run_bind, Sem.run_pure, Result.andThen_ok, invoke]
  exact h
theorem R_len {x : Operand} {t e : TypeId} {a : Option Addr} {l c : Nat} (ht : P.underlying t = some (.slice e)) (hx : ev ρ x = .slice a l c) :
    Run P ρ ⟨dst, .call ⟨.builtin .len, #[x], #[t]⟩, ty, pos, af, gd⟩ w (.int .i64 l) := run_builtin (by
      simp [builtin, Builtin.len_, hx, run_underlying ht, goInt])
theorem R_lens {x : Operand} {t : TypeId} {s : ByteArray} (ht : P.underlying t = some .string) (hx : ev ρ x = .string s) :
    Run P ρ ⟨dst, .call ⟨.builtin .len, #[x], #[t]⟩, ty, pos, af, gd⟩ w (.int .i64 s.size) := run_builtin (by
      simp [builtin, Builtin.len_, hx, run_underlying ht, goInt])
theorem R_real {x : Operand} {tys : Array TypeId} {k : FloatKind} {a b : Nat} (hx : ev ρ x = .complex k a b) :
    Run P ρ ⟨dst, .call ⟨.builtin .real, #[x], tys⟩, ty, pos, af, gd⟩ w (.float k a) := run_builtin (by rw [map1 hx]; rfl)
theorem R_imag {x : Operand} {tys : Array TypeId} {k : FloatKind} {a b : Nat} (hx : ev ρ x = .complex k a b) :
    Run P ρ ⟨dst, .call ⟨.builtin .imag, #[x], tys⟩, ty, pos, af, gd⟩ w (.float k b) := run_builtin (by rw [map1 hx]; rfl)
theorem R_complex {x y : Operand} {tys : Array TypeId} {k : FloatKind} {a b : Nat} (hx : ev ρ x = .float k a) (hy : ev ρ y = .float k b) :
    Run P ρ ⟨dst, .call ⟨.builtin .complex, #[x, y], tys⟩, ty, pos, af, gd⟩ w (.complex k a b) := run_builtin (by rw [map2 hx hy]; simp only [builtin, Sem.run_bind, run_complex, Result.andThen_ok, Sem.run_pure])
theorem R_min {x y : Operand} {tys : Array TypeId} {k : IntKind} {a b : Int} (hx : ev ρ x = .int k a) (hy : ev ρ y = .int k b) :
    Run P ρ ⟨dst, .call ⟨.builtin .min, #[x, y], tys⟩, ty, pos, af, gd⟩ w (.int k (if b < a then b else a)) := run_builtin (by
      simp [builtin, Builtin.min_, Builtin.min2, hx, hy])
theorem R_max {x y : Operand} {tys : Array TypeId} {k : IntKind} {a b : Int} (hx : ev ρ x = .int k a) (hy : ev ρ y = .int k b) :
    Run P ρ ⟨dst, .call ⟨.builtin .max, #[x, y], tys⟩, ty, pos, af, gd⟩ w (.int k (if a < b then b else a)) := run_builtin (by
      simp [builtin, Builtin.max_, Builtin.max2, hx, hy])

/-- conversions -/
theorem R_ii {s d : TypeId} {x : Operand} {k k' : IntKind} {a : Int} (hs : (P.underlying s).isSome = true) (hd : P.underlying d = some (.int k)) (hx : ev ρ x = .int k' a) :
    Run P ρ ⟨dst, .convert s d x, ty, pos, af, gd⟩ w (.int k (k.wrap a)) := by
  obtain ⟨u, hs'⟩ := Option.isSome_iff_exists.1 hs
  cases u <;> simp [Run, execOp, hx, convert, run_underlying hs', run_underlying hd, Conv.intToInt]
theorem R_if {s d : TypeId} {x : Operand} {k' : IntKind} {k : FloatKind} {a : Int} (hs : (P.underlying s).isSome = true) (hd : P.underlying d = some (.float k)) (hx : ev ρ x = .int k' a) :
    Run P ρ ⟨dst, .convert s d x, ty, pos, af, gd⟩ w (.float k (k.nearest a)) := by
  obtain ⟨u, hs'⟩ := Option.isSome_iff_exists.1 hs
  cases u <;> simp [Run, execOp, hx, convert, run_underlying hs', run_underlying hd, Conv.intToFloat]

/-- a type of one cell, and one of several -/
def scalarT : TypeDesc → Bool | .struct _ | .array _ _ => false | _ => true
def aggT : TypeDesc → Bool | .struct _ | .array _ _ => true | _ => false
/-- a part of a struct value -/
theorem R_field1 {t : TypeId} {x : Operand} {f : Nat} {cs : Array Value} {fs : Array Field} {fd : Field} {v : Value} {td : TypeDesc} (ht : P.underlying t = some (.struct fs)) (hf : fs[f]? = some fd)
    (hx : ev ρ x = .agg cs) (hu : P.underlying fd.type = some td) (hna : scalarT td = true) (hv : cs[fd.offset]? = some v) :
    Run P ρ ⟨dst, .field t x f, ty, pos, af, gd⟩ w v := by
  cases td <;> simp [scalarT] at hna <;> simp [Run, execOp, hx, Instr.field, run_underlying ht, hf, asAgg, part, isAgg, run_underlying hu, hv]

theorem R_nilCheck {x : Operand} {a : Addr} (hx : ev ρ x = .pointer (some a)) : Run P ρ ⟨dst, .nilCheck x, ty, pos, af, gd⟩ w (.pointer (some a)) := by
  simp only [Run, execOp, hx]; rfl
/-- a string's byte -/
theorem R_index {t : TypeId} {x y : Operand} {s : ByteArray} {i : Int} {k : IntKind} (ht : P.underlying t = some .string) (hx : ev ρ x = .string s) (hy : ev ρ y = .int k i) (h0 : 0 ≤ i) (h1 : i < s.size) :
    Run P ρ ⟨dst, .index t x y, ty, pos, af, gd⟩ w (.int .u8 (s.data.toList.getD i.toNat 0).toNat) := by
  have hlt : i.toNat < s.size := by omega
  have e : s[i.toNat]? = some (s.data.toList.getD i.toNat 0) := by
    rw [getElem?_pos s i.toNat hlt]
    have h2 : i.toNat < s.data.toList.length := by simpa using hlt
    simp only [List.getD_eq_getElem?_getD, List.getElem?_eq_getElem h2, Option.getD_some, Array.getElem_toList]
    rfl
  simp [Run, execOp, hx, hy, Instr.index, asIntOf, run_underlying ht, h0, e]
end
end Gx
