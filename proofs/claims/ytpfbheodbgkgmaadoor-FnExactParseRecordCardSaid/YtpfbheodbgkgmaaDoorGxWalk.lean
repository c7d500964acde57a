/-
  The base of this seat's walks: the rules in the form in which the walks cite them.
-/
import Derived.Test.YtpfbheodbgkgmaaDoorGxCall
set_option linter.unusedSimpArgs false
set_option linter.unusedVariables false
namespace Gx
open Go

/-- What the walks ask of a type: its cells, its bytes, its zero. -/
def Inf (P : Program) (t : TypeId) (size bytes : Nat) (z : Value) : Prop := ∃ i, P.info? t = some i ∧ i.size = size ∧ i.bytes = bytes ∧ i.zero = some z
theorem inf_of {P : Program} {t : TypeId} {size bytes : Nat} {z : Value} (h : (P.info? t).map (fun i => (i.zero, i.size, i.bytes)) = some (some z, size, bytes)) : Inf P t size bytes z := by
  cases hi : P.info? t with
  | none => rw [hi] at h; cases h
  | some i =>
    rw [hi] at h
    simp only [Option.map_some, Option.some.injEq, Prod.mk.injEq] at h
    exact ⟨i, hi, h.2.1, h.2.2, h.1⟩

/-- Below a block number. -/
def Lo (B : Nat) : Nat → Prop := fun k => k < B
/-- Below a block number, and not one block. -/
def LoBut (B c : Nat) : Nat → Prop := fun k => k < B ∧ k ≠ c

theorem Same.lo {w w' : World} {N : Nat → Prop} (h : Same N w w') {B : Nat} (hB : ∀ k, k < B → N k) : Same (Lo B) w w' := h.mono fun k _ hk => hB k hk
theorem Same.toAll {w w' : World} (h : Same (Lo w.heap.size) w w') : Same All w w' := h.mono fun k hk _ => hk
theorem Same.toBut {w w' : World} {c : Nat} (h : Same (LoBut w.heap.size c) w w') : Same (But c) w w' := h.mono fun k hk hn => ⟨hk, hn⟩
theorem Same.but_all {w w' : World} {c : Nat} (h : Same (But c) w w') (hc : w.heap.size ≤ c) : Same All w w' := h.mono fun k hk _ => by unfold But; omega

section
variable {P : Program} {n : Nat} {ρ : Env} {w : World} {dst : Option Tmp} {ty : TypeId} {pos : String} {af : Array Edge} {gd : Option (Nat × Bool)} {K : Env → World → Prop}

theorem X_alloc {T : TypeId} {sz by_ : Nat} {z : Value} (cs : Array Value) (hI : Inf P T sz by_ z) (hcs : z.cells = cs)
    (h : ∀ b w', w.heap.size ≤ b → b < w'.heap.size → Same All w w' → Bx w' b T cs → K (updo ρ dst (.pointer (some ⟨b, 0, none⟩))) w') :
    OpW P ρ ⟨dst, .alloc T, ty, pos, af, gd⟩ w K := by
  obtain ⟨i, hi, h1, h2, h3⟩ := hI
  exact O_alloc hi h3 hcs h
theorem X_box {T : TypeId} {x : Operand} (v : Value) (cs : Array Value) (hx : ev ρ x = v) (hcs : v.cells = cs)
    (h : ∀ b w', w.heap.size ≤ b → b < w'.heap.size → Same All w w' → Bx w' b T cs → K (updo ρ dst (.pointer (some ⟨b, 0, none⟩))) w') :
    OpW P ρ ⟨dst, .box T x, ty, pos, af, gd⟩ w K := O_box hx hcs h
theorem X_store {T U : TypeId} {x y : Operand} {b o sz by_ : Nat} {z : Value} {cs : Array Value} (v : Value) (cs' : Array Value) (hx : ev ρ x = .pointer (some ⟨b, o, none⟩)) (hy : ev ρ y = v) (hI : Inf P U sz by_ z)
    (hb : Bx w b T cs) (hsz : v.cells.size = sz) (hlt : Nat.ble (o + v.cells.size) cs.size = true) (h1 : v.cells.toList.all (·.oneCell') = true) (hcs : setsAt cs o v.cells.toList = cs')
    (h : ∀ w', Same (But b) w w' → w'.heap.size = w.heap.size → Bx w' b T cs' → K (updo ρ dst undef) w') : OpW P ρ ⟨dst, .store U x y, ty, pos, af, gd⟩ w K := by
  obtain ⟨i, hi, e1, e2, e3⟩ := hI
  exact O_store (m := 0) hx hy hi hb (by rw [hsz, e1]) (Nat.le_of_ble_eq_true hlt) h1 hcs h
theorem X_loadBA {T U : TypeId} {x : Operand} {b o sz by_ : Nat} {z : Value} {cs : Array Value} (vs : Array Value) {td : TypeDesc} (hx : ev ρ x = .pointer (some ⟨b, o, none⟩)) (hb : Bx w b T cs)
    (hu : P.underlying U = some td) (hna : aggT td = true) (hI : Inf P U sz by_ z) (hl : vs.size = sz)
    (hv : (cs.toList.drop o).take sz = vs.toList) : Run P ρ ⟨dst, .load U x, ty, pos, af, gd⟩ w (.agg vs) := by
  obtain ⟨i, hi, rfl, e2, e3⟩ := hI
  exact R_loadBA hx hb hu hna hi hl hv
theorem X_loadEA {α : Type} {E : Enc α} {N : Nat → Prop} {U : TypeId} {x : Operand} {a : Option Addr} {l : List α} {k sz by_ : Nat} {z : Value} {e : α} (vs : Array Value) {td : TypeDesc}
    (hx : ev ρ x = .pointer (some (ix a (k * E.sz)))) (hr : Rd E N w a l) (he : l[k]? = some e) (hu : P.underlying U = some td)
    (hna : aggT td = true) (hI : Inf P U sz by_ z) (hsz : E.sz = sz) (hvs : (E.enc e).toArray = vs) : Run P ρ ⟨dst, .load U x, ty, pos, af, gd⟩ w (.agg vs) := by
  obtain ⟨i, hi, rfl, e2, e3⟩ := hI
  exact R_loadEA hx hr he hu hna hi hsz hvs
theorem X_fieldAddr {t : TypeId} {x : Operand} {f b o : Nat} (o' : Nat) {fs : Array Field} (fd : Field) {sz by_ : Nat} {z : Value} (hx : ev ρ x = .pointer (some ⟨b, o, none⟩)) (ht : P.underlying t = some (.struct fs)) (hf : fs[f]? = some fd)
    (hI : Inf P fd.type sz by_ z) (hz : (sz == 0) = false) (ho : o + fd.offset = o') : Run P ρ ⟨dst, .fieldAddr t x f, ty, pos, af, gd⟩ w (.pointer (some ⟨b, o', none⟩)) := by
  obtain ⟨i, hi, rfl, e2, e3⟩ := hI
  exact R_fieldAddr hx ht hf hi hz ho
theorem X_fieldAddrE {t : TypeId} {x : Operand} {f k : Nat} (k' : Nat) {a : Option Addr} {fs : Array Field} (fd : Field) {sz by_ : Nat} {z : Value} (hx : ev ρ x = .pointer (some (ix a k))) (ht : P.underlying t = some (.struct fs)) (hf : fs[f]? = some fd)
    (hI : Inf P fd.type sz by_ z) (hz : (sz == 0) = false) (hk : k + fd.offset = k') : Run P ρ ⟨dst, .fieldAddr t x f, ty, pos, af, gd⟩ w (.pointer (some (ix a k'))) := by
  obtain ⟨i, hi, rfl, e2, e3⟩ := hI
  exact R_fieldAddrE hx ht hf hi hz hk
theorem X_indexAddr {α : Type} {E : Enc α} {N : Nat → Prop} {l : List α} {t e : TypeId} {x y : Operand} {a : Option Addr} {cap : Nat} (k : Nat) {j : Int} {kk : IntKind} {sz by_ : Nat} {z : Value}
    (hx : ev ρ x = .slice a l.length cap) (hy : ev ρ y = .int kk j) (hr : Rd E N w a l) (hj : j = (k : Int)) (hk : k < l.length)
    (ht : P.underlying t = some (.slice e)) (hI : Inf P e sz by_ z) (hsz : E.sz = sz) : Run P ρ ⟨dst, .indexAddr t x y, ty, pos, af, gd⟩ w (.pointer (some (ix a (k * E.sz)))) := by
  obtain ⟨i, hi, e1, e2, e3⟩ := hI
  exact R_indexAddrE hx hy hr hj hk ht hi (by rw [e1, hsz])
theorem X_slice {t e : TypeId} {x : Operand} {lo hi' : Option Operand} {a : Option Addr} {len cap : Nat} (l h : Nat) {sz by_ : Nat} {z : Value} (hx : ev ρ x = .slice a len cap)
    (hlo : (match lo with | some y => ∃ k j, ev ρ y = .int k j ∧ j = (l : Int) | none => l = 0)) (hhi : (match hi' with | some y => ∃ k j, ev ρ y = .int k j ∧ j = (h : Int) | none => h = len))
    (hlh : l ≤ h) (hhc : h ≤ cap) (ht : P.underlying t = some (.slice e)) (hI : Inf P e sz by_ z) :
    Run P ρ ⟨dst, .slice t x lo hi' none, ty, pos, af, gd⟩ w (.slice (cut a cap l sz) (h - l) (cap - l)) := by
  obtain ⟨i, hi, e1, e2, e3⟩ := hI
  exact R_slice hx hlo hhi hlh hhc ht hi e1
theorem X_buildSlice {t e : TypeId} (xs : List Operand) {len sz by_ : Nat} {z : Value} (vs : List Value) (cs : Array Value) {parts : Array (Nat × Operand)} (ht : P.underlying t = some (.slice e)) (hI : Inf P e sz by_ z)
    (hp : parts = (xs.zipIdx.map fun p => (p.2, p.1)).toArray)
    (hlen : xs.length = len) (hx : xs.map (ev ρ) = vs) (hvs : (vs.all fun v => v.cells.size == sz) = true) (hsm : Nat.ble (len * sz) (2 ^ 24) = true) (hcs : (vs.flatMap fun v => v.cells.toList).toArray = cs)
    (h : ∀ b w', w.heap.size ≤ b → b < w'.heap.size → Same All w w' → Bx w' b e cs → K (updo ρ dst (.slice (some ⟨b, 0, none⟩) len len)) w') :
    OpW P ρ ⟨dst, .buildSlice t len parts, ty, pos, af, gd⟩ w K := by
  obtain ⟨i, hi, rfl, e2, e3⟩ := hI
  subst hp
  exact O_buildSlice ht hi e3 hlen hx hvs hsm hcs h
theorem X_append {α : Type} {E : Enc α} {N : Nat → Prop} {t e : TypeId} {s x : Operand} {a a2 : Option Addr} {cap cap2 base sz by_ : Nat} {l m : List α} {z : Value}
    (hs : ev ρ s = .slice a l.length cap) (hx : ev ρ x = .slice a2 m.length cap2) (ho : Ow E e base w a cap l) (hr : Rd E N w a2 m) (hnil : a2 = none → cap2 = 0)
    (hsp : ∀ p, a2 = some p → p.spot = none)
    (ht : P.underlying t = some (.slice e)) (hI : Inf P e sz by_ z) (hsz : E.sz = sz) (hzs : z.cells.size = E.sz) (hpos : 0 < E.sz)
    (hb : base ≤ w.heap.size) (h63 : (l.length + m.length) * (by_ + 1) ≤ 140737488355328)
    (h : ∀ a' cap' w', Same (Off a) w w' → Ow E e base w' a' cap' (l ++ m) → K (updo ρ dst (.slice a' (l ++ m).length cap')) w') :
    OpW P ρ ⟨dst, .call ⟨.builtin .append, #[s, x], #[t, t]⟩, ty, pos, af, gd⟩ w K := by
  obtain ⟨i, hi, e1, e2, e3⟩ := hI
  have h1 : (l.length + m.length) * 1 ≤ (l.length + m.length) * (by_ + 1) := Nat.mul_le_mul_left _ (by omega)
  have h2 : (l.length + m.length) * by_ ≤ (l.length + m.length) * (by_ + 1) := Nat.mul_le_mul_left _ (by omega)
  exact O_append hs hx ho hr hnil hsp ht hi e3 (by rw [e1, hsz]) hzs hpos hb (by unfold maxLen; omega) (by rw [e2]; omega) h
/-- append of one element that was just laid as a literal -/
theorem X_append1 {α : Type} {E : Enc α} {t e : TypeId} {s x : Operand} {a : Option Addr} {cap b base sz by_ : Nat} {l : List α} (y : α) {z : Value} {cs : Array Value}
    (hs : ev ρ s = .slice a l.length cap) (hx : ev ρ x = .slice (some ⟨b, 0, none⟩) 1 1) (ho : Ow E e base w a cap l) (hbx : Bx w b e cs) (hcs : cs.toList = E.enc y)
    (ht : P.underlying t = some (.slice e)) (hI : Inf P e sz by_ z) (hsz : E.sz = sz) (hzs : z.cells.size = E.sz) (hpos : 0 < E.sz)
    (hb : base ≤ w.heap.size) (h63 : (l.length + 1) * (by_ + 1) ≤ 140737488355328)
    (h : ∀ a' cap' w', Same (Off a) w w' → Ow E e base w' a' cap' (l ++ [y]) → K (updo ρ dst (.slice a' (l ++ [y]).length cap')) w') :
    OpW P ρ ⟨dst, .call ⟨.builtin .append, #[s, x], #[t, t]⟩, ty, pos, af, gd⟩ w K :=
  X_append (m := [y]) hs hx ho (hbx.rd (N := All) trivial ⟨[], by simp [hcs]⟩) (fun h => by cases h) (fun p hp => by cases hp; rfl) ht hI hsz hzs hpos hb h63 h
end

section
variable {P : Program} {n : Nat} {ρ : Env} {w : World} {dst : Option Tmp} {ty : TypeId} {pos : String} {af : Array Edge} {gd : Option (Nat × Bool)} {K : Env → World → Prop}
/-- an element of an array that is a variable -/
theorem X_indexArr {t e : TypeId} {x y : Operand} {b o len k : Nat} (o' : Nat) {j : Int} {kk : IntKind} {sz by_ : Nat} {z : Value} (hx : ev ρ x = .pointer (some ⟨b, o, none⟩)) (hy : ev ρ y = .int kk j) (hj : j = (k : Int)) (hk : k < len)
    (ht : P.underlying t = some (.array len e)) (hI : Inf P e sz by_ z) (hz : (sz == 0) = false) (ho : o + k * sz = o') : Run P ρ ⟨dst, .indexAddr t x y, ty, pos, af, gd⟩ w (.pointer (some ⟨b, o', none⟩)) := by
  obtain ⟨i, hi, e1, e2, e3⟩ := hI
  subst hj; subst ho; subst e1
  have h0 : ¬ ((k : Int) < 0) := by omega
  have hnl : ¬ len ≤ k := by omega
  simp [Run, execOp, hx, hy, Instr.indexAt, asIntOf, run_underlying ht, Go.sizeOf, typeInfo, hi, hnl, hk, add_plain, Instr.sureAddr]
end

/-- one list of slots within another -/
theorem subM {M M' : List Nat} (h : (M'.all fun t => M.elem t) = true) : ∀ t, M'.elem t = true → M.elem t = true := fun t ht => by
  have h1 : t ∈ M' := by simpa using ht
  exact List.all_eq_true.1 h t h1

/-! ### Bits of whole numbers -/
def band (k : IntKind) (x y : Int) : Int := k.wrap ((BitVec.ofInt k.bits x &&& BitVec.ofInt k.bits y).toNat)
def bor (k : IntKind) (x y : Int) : Int := k.wrap ((BitVec.ofInt k.bits x ||| BitVec.ofInt k.bits y).toNat)
def bxor (k : IntKind) (x y : Int) : Int := k.wrap ((BitVec.ofInt k.bits x ^^^ BitVec.ofInt k.bits y).toNat)
def bandNot (k : IntKind) (x y : Int) : Int := k.wrap ((BitVec.ofInt k.bits x &&& ~~~(BitVec.ofInt k.bits y)).toNat)
def shrI (k : IntKind) (x y : Int) : Int := x.fdiv (2 ^ (min y.toNat k.bits))
def shlI (k : IntKind) (x y : Int) : Int := k.wrap (x * 2 ^ (min y.toNat k.bits))
section
variable {P : Program} {n : Nat} {ρ : Env} {w : World} {dst : Option Tmp} {ty : TypeId} {pos : String} {af : Array Edge} {gd : Option (Nat × Bool)}
theorem R_band {k : IntKind} {t t' : TypeId} {x y : Operand} {a b : Int} (hx : ev ρ x = .int k a) (hy : ev ρ y = .int k b) : Run P ρ ⟨dst, .binOp .and t x y t', ty, pos, af, gd⟩ w (.int k (band k a b)) := R_int hx hy (by simp [binOp, Op.intBits, band])
theorem R_bor {k : IntKind} {t t' : TypeId} {x y : Operand} {a b : Int} (hx : ev ρ x = .int k a) (hy : ev ρ y = .int k b) : Run P ρ ⟨dst, .binOp .or t x y t', ty, pos, af, gd⟩ w (.int k (bor k a b)) := R_int hx hy (by simp [binOp, Op.intBits, bor])
theorem R_bxor {k : IntKind} {t t' : TypeId} {x y : Operand} {a b : Int} (hx : ev ρ x = .int k a) (hy : ev ρ y = .int k b) : Run P ρ ⟨dst, .binOp .xor t x y t', ty, pos, af, gd⟩ w (.int k (bxor k a b)) := R_int hx hy (by simp [binOp, Op.intBits, bxor])
theorem R_bandNot {k : IntKind} {t t' : TypeId} {x y : Operand} {a b : Int} (hx : ev ρ x = .int k a) (hy : ev ρ y = .int k b) : Run P ρ ⟨dst, .binOp .andNot t x y t', ty, pos, af, gd⟩ w (.int k (bandNot k a b)) := R_int hx hy (by simp [binOp, Op.intBits, bandNot])
theorem shift_guard {op : BinOp} {t : TypeId} {x y : Operand} {k k' : IntKind} {a b : Int} : (eqGuard op t x y (.int k a) (.int k' b)).run P w = .ok () w := by unfold eqGuard; split <;> rfl
theorem R_shr {k k' : IntKind} {t t' : TypeId} {x y : Operand} {a b : Int} (hx : ev ρ x = .int k a) (hy : ev ρ y = .int k' b) (hb : 0 ≤ b) : Run P ρ ⟨dst, .binOp .shr t x y t', ty, pos, af, gd⟩ w (.int k (shrI k a b)) := by
  have hb' : ¬ b < 0 := by omega
  simp only [Run, execOp, hx, hy, Sem.run_bind, shift_guard, Result.andThen_ok, binOp, Op.shift, if_neg hb', Sem.run_pure, shrI]
theorem R_shl {k k' : IntKind} {t t' : TypeId} {x y : Operand} {a b : Int} (hx : ev ρ x = .int k a) (hy : ev ρ y = .int k' b) (hb : 0 ≤ b) : Run P ρ ⟨dst, .binOp .shl t x y t', ty, pos, af, gd⟩ w (.int k (shlI k a b)) := by
  have hb' : ¬ b < 0 := by omega
  simp only [Run, execOp, hx, hy, Sem.run_bind, shift_guard, Result.andThen_ok, binOp, Op.shift, if_neg hb', Sem.run_pure, shlI]
end
theorem band_255 (x : Int) : 0 ≤ band .i64 x 255 ∧ band .i64 x 255 ≤ 255 := by
  have h : (BitVec.ofInt 64 x &&& BitVec.ofInt 64 255).toNat ≤ 255 := by
    rw [BitVec.toNat_and]
    exact Nat.le_trans Nat.and_le_right (by decide)
  unfold band
  show 0 ≤ IntKind.wrap .i64 ((BitVec.ofInt 64 x &&& BitVec.ofInt 64 255).toNat) ∧ _
  rw [wrap_in (by omega) (by omega)]
  show _ ∧ IntKind.wrap .i64 ((BitVec.ofInt 64 x &&& BitVec.ofInt 64 255).toNat) ≤ 255
  rw [wrap_in (by omega) (by omega)]
  omega

section
variable {P : Program} {n : Nat} {ρ : Env} {w : World} {dst : Option Tmp} {ty : TypeId} {pos : String} {af : Array Edge} {gd : Option (Nat × Bool)}
theorem R_ii64 {s d : TypeId} {x : Operand} {k' : IntKind} {a : Int} (hs : (P.underlying s).isSome = true) (hd : P.underlying d = some (.int .i64)) (hx : ev ρ x = .int k' a) (h0 : -9223372036854775808 ≤ a) (h1 : a ≤ 9223372036854775807) :
    Run P ρ ⟨dst, .convert s d x, ty, pos, af, gd⟩ w (.int .i64 a) := by
  have := R_ii (w := w) (dst := dst) (ty := ty) (pos := pos) (af := af) (gd := gd) hs hd hx
  rwa [wrap_in h0 h1] at this
end

theorem wrap_in8 {x : Int} (h0 : 0 ≤ x) (h1 : x ≤ 255) : IntKind.wrap .u8 x = x := by
  unfold IntKind.wrap
  simp [IntKind.bits, IntKind.signed]
  omega

/-! ### Kinds of elements -/
def intE : Enc Int := ⟨1, fun n => [.int .i64 n], fun _ => rfl, fun x v hv => by simp at hv; subst hv; rfl⟩
def u8E : Enc UInt8 := ⟨1, fun n => [.int .u8 n.toNat], fun _ => rfl, fun x v hv => by simp at hv; subst hv; rfl⟩
def strE : Enc ByteArray := ⟨1, fun s => [.string s], fun _ => rfl, fun x v hv => by simp at hv; subst hv; rfl⟩
/-- a complex128, by the bits of its parts -/
def cpE : Enc (Nat × Nat) := ⟨1, fun z => [.complex .f64 z.1 z.2], fun _ => rfl, fun x v hv => by simp at hv; subst hv; rfl⟩
/-- a complex64 -/
def csE : Enc (Nat × Nat) := ⟨1, fun z => [.complex .f32 z.1 z.2], fun _ => rfl, fun x v hv => by simp at hv; subst hv; rfl⟩
/-- a node of an expression -/
structure Nd where
  kind : Int
  slot : Int
  re : Nat
  im : Nat
def ndE : Enc Nd := ⟨3, fun n => [.int .i64 n.kind, .int .i64 n.slot, .complex .f64 n.re n.im], fun _ => rfl, fun x v hv => by
  simp at hv; rcases hv with rfl | rfl | rfl <;> rfl⟩
end Gx
