/-
  The base of this seat's walks: strings as lists of bytes; contracts of the library's functions taken over; scopes.
-/
import Derived.Test.YtpfbheodbgkgmaaDoorGxDra
import Derived.Laws.IdiomStrings
import Derived.Lib.AppendIntMem
import Derived.Scope
import Derived.Laws.RangeString
import Derived.Lib.OthersKept
import Derived.Sort.Grow
set_option linter.unusedSimpArgs false
set_option linter.unusedVariables false
namespace Gx
open Go Go.Sort

/-- The string of these bytes. -/
def st (l : List UInt8) : ByteArray := ⟨l.toArray⟩
theorem st_data (l : List UInt8) : (st l).data.toList = l := rfl
theorem st_size (l : List UInt8) : (st l).size = l.length := by simp [st, ByteArray.size]
theorem st_eta (s : ByteArray) : st s.data.toList = s := by cases s; rfl
theorem st_inj {l m : List UInt8} : st l = st m ↔ l = m := ⟨fun h => by have := congrArg (fun s => s.data.toList) h; exact this, fun h => by rw [h]⟩
theorem data_ext {s t : ByteArray} (h : s.data.toList = t.data.toList) : s = t := by rw [← st_eta s, h, st_eta]
theorem st_append (l m : List UInt8) : st l ++ st m = st (l ++ m) := data_ext (by rw [ByteArray.data_append, Array.toList_append]; rfl)
theorem st_extract (l : List UInt8) (a b : Nat) : (st l).extract a b = st ((l.take b).drop a) := data_ext (by
  rw [ByteArray.data_extract, Array.toList_extract, st_data, st_data, List.extract_eq_take_drop, List.drop_take])

section
variable {P : Program} {n : Nat} {ρ : Env} {w : World} {dst : Option Tmp} {ty : TypeId} {pos : String} {af : Array Edge} {gd : Option (Nat × Bool)} {K : Env → World → Prop} {Q : Post}

theorem X_slen {x : Operand} {t : TypeId} {l : List UInt8} (ht : P.underlying t = some .string) (hx : ev ρ x = .string (st l)) :
    Run P ρ ⟨dst, .call ⟨.builtin .len, #[x], #[t]⟩, ty, pos, af, gd⟩ w (.int .i64 (l.length : Int)) := by
  have := R_lens (w := w) (dst := dst) (ty := ty) (pos := pos) (af := af) (gd := gd) ht hx
  rwa [st_size] at this
theorem X_sindex {t : TypeId} {x y : Operand} {l : List UInt8} {j : Int} {k : IntKind} (i : Nat) (ht : P.underlying t = some .string) (hx : ev ρ x = .string (st l)) (hy : ev ρ y = .int k j) (hj : j = (i : Int)) (h1 : i < l.length) :
    Run P ρ ⟨dst, .index t x y, ty, pos, af, gd⟩ w (.int .u8 ((l.getD i 0).toNat : Int)) := by
  have := R_index (w := w) (dst := dst) (ty := ty) (pos := pos) (af := af) (gd := gd) ht hx hy (by omega) (by rw [st_size]; omega)
  subst hj
  exact this
theorem X_sslice {t : TypeId} {x : Operand} {lo hi : Option Operand} {m : List UInt8} (a b : Nat) (hx : ev ρ x = .string (st m))
    (hlo : (match lo with | some y => ∃ k j, ev ρ y = .int k j ∧ j = (a : Int) | none => a = 0)) (hhi : (match hi with | some y => ∃ k j, ev ρ y = .int k j ∧ j = (b : Int) | none => b = m.length))
    (hlh : a ≤ b) (hhc : b ≤ m.length) (ht : P.underlying t = some .string) :
    Run P ρ ⟨dst, .slice t x lo hi none, ty, pos, af, gd⟩ w (.string (st ((m.take b).drop a))) := by
  rw [← st_extract]
  exact R_sliceS hx hlo (by cases hi <;> simp only [st_size] <;> exact hhi) hlh (by rw [st_size]; exact hhc) ht
theorem X_sslice0 {t : TypeId} {x : Operand} {hi : Option Operand} {m : List UInt8} (b : Nat) (hx : ev ρ x = .string (st m))
    (hhi : (match hi with | some y => ∃ k j, ev ρ y = .int k j ∧ j = (b : Int) | none => b = m.length)) (hhc : b ≤ m.length) (ht : P.underlying t = some .string) :
    Run P ρ ⟨dst, .slice t x none hi none, ty, pos, af, gd⟩ w (.string (st (m.take b))) :=
  X_sslice (lo := none) 0 b hx rfl hhi (Nat.zero_le _) hhc ht
theorem X_sslice1 {t : TypeId} {x : Operand} {lo : Option Operand} {m : List UInt8} (a : Nat) (hx : ev ρ x = .string (st m))
    (hlo : (match lo with | some y => ∃ k j, ev ρ y = .int k j ∧ j = (a : Int) | none => a = 0)) (hlh : a ≤ m.length) (ht : P.underlying t = some .string) :
    Run P ρ ⟨dst, .slice t x lo none none, ty, pos, af, gd⟩ w (.string (st (m.drop a))) := by
  have := X_sslice (P := P) (w := w) (dst := dst) (ty := ty) (pos := pos) (af := af) (gd := gd) (lo := lo) (hi := none) a m.length hx hlo rfl hlh (Nat.le_refl _) ht
  rwa [List.take_length] at this
theorem X_sadd {t t' : TypeId} {x y : Operand} {l m : List UInt8} (hx : ev ρ x = .string (st l)) (hy : ev ρ y = .string (st m)) (hs : l.length + m.length ≤ 9223372036854775807) :
    Run P ρ ⟨dst, .binOp .add t x y t', ty, pos, af, gd⟩ w (.string (st (l ++ m))) := by
  rw [← st_append]
  exact R_sadd hx hy (by rw [st_size, st_size]; exact hs)
theorem X_seql {t t' : TypeId} {x y : Operand} {l m : List UInt8} (hx : ev ρ x = .string (st l)) (hy : ev ρ y = .string (st m)) :
    Run P ρ ⟨dst, .binOp .eql t x y t', ty, pos, af, gd⟩ w (.bool (decide (l = m))) := by
  have := R_seql (P := P) (w := w) (dst := dst) (ty := ty) (pos := pos) (af := af) (gd := gd) (t := t) (t' := t') hx hy
  rwa [show decide (st l = st m) = decide (l = m) from decide_eq_decide.2 st_inj] at this
theorem X_sneq {t t' : TypeId} {x y : Operand} {l m : List UInt8} (hx : ev ρ x = .string (st l)) (hy : ev ρ y = .string (st m)) :
    Run P ρ ⟨dst, .binOp .neq t x y t', ty, pos, af, gd⟩ w (.bool (!decide (l = m))) := by
  have := R_sneq (P := P) (w := w) (dst := dst) (ty := ty) (pos := pos) (af := af) (gd := gd) (t := t) (t' := t') hx hy
  rwa [show decide (st l = st m) = decide (l = m) from decide_eq_decide.2 st_inj] at this
/-- string(bytes) -/
theorem X_b2s {N : Nat → Prop} {s d e : TypeId} {x : Operand} {a : Option Addr} {cap : Nat} {l : List UInt8} (hs : P.underlying s = some (.slice e)) (he : P.underlying e = some (.int .u8)) (hd : P.underlying d = some .string)
    (hx : ev ρ x = .slice a l.length cap) (hr : Rd u8E N w a l) (hl : l ≠ []) : Run P ρ ⟨dst, .convert s d x, ty, pos, af, gd⟩ w (.string (st l)) := by
  have hpos : 0 < l.length := by cases l with
    | nil => exact absurd rfl hl
    | cons => simp
  obtain ⟨b, o, rfl, _, _⟩ := hr 0 l[0] (List.getElem?_eq_getElem hpos)
  have := run_convert_bytes_back (P := P) w s d e ⟨b, o, none⟩ cap l hs he hd (fun j hj => by
    obtain ⟨b', o', e1, _, h2⟩ := hr j l[j] (List.getElem?_eq_getElem hj)
    cases e1
    have := h2 0 _ rfl
    rw [add_plain]
    simpa [u8E] using this)
  simp only [Run, execOp, hx, this, Sem.run_bind, Result.andThen_ok, Sem.run_pure]
  rfl

theorem not_t {p : Prop} [Decidable p] (h : (!decide p) = true) : ¬ p := by simpa using h
theorem not_f {p : Prop} [Decidable p] (h : (!decide p) = false) : p := by simpa using h
theorem notb_t {b : Bool} (h : (!b) = true) : b = false := by simpa using h
theorem notb_f {b : Bool} (h : (!b) = false) : b = true := by simpa using h

theorem w8 {b : UInt8} (h : 48 ≤ b.toNat) : IntKind.wrap .i64 (IntKind.wrap .u8 ((b.toNat : Int) - 48)) = (b.toNat : Int) - 48 := by
  have := b.toNat_lt
  rw [wrap_in8 (by omega) (by omega), wrap_in (by omega) (by omega)]

theorem W_scope {c : Code} (h : WC P n c (fun e ρ w => match e with | .goto _ => False | e => Q e ρ w) ρ w) : WC P n (.scope c) Q ρ w := by
  intro a ha
  refine wp_scope_straight (wp_mono (h a ha) ?_)
  rintro e a' w' ⟨ρ', hr, hq⟩
  cases e with
  | goto l => exact hq.elim
  | normal => exact ⟨ρ', hr, hq⟩
  | exit id => exact ⟨ρ', hr, hq⟩
  | ret => exact ⟨ρ', hr, hq⟩
  | panic c => exact ⟨ρ', hr, hq⟩
  | outgrown => exact ⟨ρ', hr, hq⟩
theorem W_label {l : Nat} (h : Q .normal ρ w) : WC P n (.label l) Q ρ w := fun _ ha => wp_label ⟨ρ, ha, h⟩
end

def stE : Enc (List UInt8) := ⟨1, fun l => [.string (st l)], fun _ => rfl, fun x v hv => by simp at hv; subst hv; rfl⟩

/-! ### A range over a string; a rune's text -/
def encR (r : Int) : List UInt8 := (Utf8.encode r).data.toList
section
variable {P : Program} {n : Nat} {ρ : Env} {w : World} {dst : Option Tmp} {ty : TypeId} {pos : String} {af : Array Edge} {gd : Option (Nat × Bool)} {K : Env → World → Prop}
theorem R_index_e (s : ByteArray) (i : Nat) (h : i < s.size) : s[i]'h = s.data.toList.getD i 0 := by
  have h2 : i < s.data.toList.length := by simpa using h
  simp only [List.getD_eq_getElem?_getD, List.getElem?_eq_getElem h2, Option.getD_some, Array.getElem_toList]
  rfl
theorem X_i2s {s d : TypeId} {x : Operand} {k' : IntKind} {a : Int} (hs : (P.underlying s).isSome = true) (hd : P.underlying d = some .string) (hx : ev ρ x = .int k' a) :
    Run P ρ ⟨dst, .convert s d x, ty, pos, af, gd⟩ w (.string (st (encR a))) := by
  obtain ⟨u, hs'⟩ := Option.isSome_iff_exists.1 hs
  unfold encR
  rw [st_eta]
  cases u <;> simp only [Run, execOp, hx, convert, run_underlying hs', run_underlying hd, Sem.run_bind, Result.andThen_ok, Conv.intToString, Sem.run_pure]
theorem R_iiw {s d : TypeId} {x : Operand} {k k' : IntKind} {a : Int} (hs : (P.underlying s).isSome = true) (hd : P.underlying d = some (.int k)) (hx : ev ρ x = .int k' a) (hw : IntKind.wrap k a = a) :
    Run P ρ ⟨dst, .convert s d x, ty, pos, af, gd⟩ w (.int k a) := by
  have := R_ii (w := w) (dst := dst) (ty := ty) (pos := pos) (af := af) (gd := gd) hs hd hx
  rwa [hw] at this
theorem X_range {t : TypeId} {x : Operand} {l : List UInt8} (ht : P.underlying t = some .string) (hx : ev ρ x = .string (st l))
    (h : ∀ b w', w.heap.size ≤ b → b < w'.heap.size → Same All w w' → w'.heap[b]? = some (.stringIter (st l) 0) → K (updo ρ dst (.pointer (some ⟨b, 0, none⟩))) w') :
    OpW P ρ ⟨dst, .range t x, ty, pos, af, gd⟩ w K := by
  refine opW_value (w' := w.iter (st l) 0) (v := .pointer (some ⟨w.heap.size, 0, none⟩)) ?_ (h _ _ (Nat.le_refl _) (by simp [World.iter]) (same_alloc _ _) (World.iter_heap _ _ _))
  simp only [execOp, hx, run_range_string w t (st l) ht, Sem.run_bind, Result.andThen_ok, Sem.run_pure]
theorem X_next_more {x : Operand} {b i : Nat} {l : List UInt8} (hx : ev ρ x = .pointer (some ⟨b, 0, none⟩)) (hb : w.heap[b]? = some (.stringIter (st l) i)) (hi : i < l.length) (ha : (l.getD i 0).toNat < 128)
    (h : ∀ w', Same (But b) w w' → w'.heap[b]? = some (.stringIter (st l) (i + 1)) → w'.heap.size = w.heap.size → K (updo ρ dst (.tuple #[.bool true, .int .i64 (i : Int), .int .i32 ((l.getD i 0).toNat : Int)])) w') :
    OpW P ρ ⟨dst, .next x true, ty, pos, af, gd⟩ w K := by
  have hlt : i < (st l).size := by rw [st_size]; exact hi
  have e : ((st l)[i]'hlt) = l.getD i 0 := by
    have h2 := R_index_e (st l) i hlt
    rw [h2, st_data]
  have hr := Lib.run_next_ascii_at (P := P) w b (st l) i ty hb hlt (by rw [e]; exact ha)
  rw [e] at hr
  have hbl : b < w.heap.size := (Array.getElem?_eq_some_iff.1 hb).1
  refine opW_value (w' := w.iterAt b (st l) (i + 1)) (v := .tuple #[.bool true, .int .i64 (i : Int), .int .i32 ((l.getD i 0).toNat : Int)]) ?_ (h _ ⟨rfl, rfl, rfl, by simp [World.iterAt], fun k hk hn => ?_⟩ ?_ ?_)
  · simp only [execOp, hx, hr, Sem.run_bind, Result.andThen_ok, Sem.run_pure]
  · simp only [World.iterAt]
    rw [Array.getElem?_setIfInBounds_ne (fun e => hn e.symm)]
  · simp [World.iterAt, hbl]
  · simp [World.iterAt]
theorem X_next_end {x : Operand} {b i : Nat} {l : List UInt8} (hx : ev ρ x = .pointer (some ⟨b, 0, none⟩)) (hb : w.heap[b]? = some (.stringIter (st l) i)) (hi : l.length ≤ i)
    (h : K (updo ρ dst (.tuple #[.bool false])) w) : OpW P ρ ⟨dst, .next x true, ty, pos, af, gd⟩ w K := by
  refine opW_value (w' := w) (v := .tuple #[.bool false]) ?_ h
  have : ¬ i < (st l).size := by rw [st_size]; omega
  simp [execOp, hx, Instr.next, getObj, Sem.run, hb, this]
end

/-! ### The library's contracts -/
theorem same_grow (w : World) (k : Nat) (os : Array Obj) : Same All w (grow (w.drewN k) os) :=
  ⟨rfl, rfl, rfl, by show w.heap.size ≤ (w.heap ++ os).size; rw [Array.size_append]; omega, fun i hi _ => by
    show (w.heap ++ os)[i]? = _
    rw [Array.getElem?_append_left hi]⟩
theorem same_below {w w' : World} (h : RowKit.Below w.heap.size w w') : Same All w w' := ⟨h.os, h.tape, h.output, h.size, fun i hi _ => h.block i hi⟩
theorem tab_same {P : Program} {w w' : World} {name : String} {k : IntKind} {zs : List Int} (h : Lib.TabIs P w name k zs) (hs : Same All w w') : Lib.TabIs P w' name k zs :=
  Lib.tabBelow_of_tabIs h w' hs.below
theorem ret_lib {P : Program} {f : FuncId} {args : Array Value} {w : World} {v : Value} {S : World → Prop} {R : Value → World → Prop}
    (h : Calls P f args w (fun e w' => e = .returned v ∧ S w')) (hr : ∀ w', S w' → R v w') : Ret P f args w R :=
  h.mono fun _ w' ⟨he, hs⟩ => ⟨v, he, hr w' hs⟩
end Gx
