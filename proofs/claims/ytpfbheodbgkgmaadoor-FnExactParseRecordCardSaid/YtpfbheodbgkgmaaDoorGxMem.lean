/-
  The base of this seat's walks: memory. What has not changed; what reads as what; what each operation on memory does.
-/
import Derived.Test.YtpfbheodbgkgmaaDoorGxOps
import Derived.WalkKit
import Derived.Laws.OwnMore
set_option linter.unusedSimpArgs false
set_option linter.unusedVariables false
namespace Gx
open Go

/-- Of the blocks that were there, those that N tells of are as they were. -/
structure Same (N : Nat → Prop) (w w' : World) : Prop where
  os : w'.os = w.os
  tape : w'.tape = w.tape
  output : w'.output = w.output
  size : w.heap.size ≤ w'.heap.size
  block : ∀ k, k < w.heap.size → N k → w'.heap[k]? = w.heap[k]?

/-- All blocks. -/
def All : Nat → Prop := fun _ => True
/-- All blocks but one. -/
def But (c : Nat) : Nat → Prop := fun k => k ≠ c
/-- All blocks but the one that a slice leads to. -/
def Off (a : Option Addr) : Nat → Prop := fun k => some k ≠ a.map (·.block)

theorem Same.refl (N : Nat → Prop) (w : World) : Same N w w := ⟨rfl, rfl, rfl, Nat.le_refl _, fun _ _ _ => rfl⟩
theorem Same.trans {N : Nat → Prop} {a b c : World} (h : Same N a b) (k : Same N b c) : Same N a c :=
  ⟨k.os.trans h.os, k.tape.trans h.tape, k.output.trans h.output, Nat.le_trans h.size k.size, fun i hi hn => (k.block i (Nat.lt_of_lt_of_le hi h.size) hn).trans (h.block i hi hn)⟩
theorem Same.mono {N N' : Nat → Prop} {a b : World} (h : Same N a b) (hn : ∀ k, k < a.heap.size → N' k → N k) : Same N' a b :=
  ⟨h.os, h.tape, h.output, h.size, fun i hi hn' => h.block i hi (hn i hi hn')⟩
theorem Same.all {N : Nat → Prop} {a b : World} (h : Same All a b) : Same N a b := h.mono fun _ _ _ => trivial
theorem Same.below {a b : World} (h : Same All a b) : RowKit.Below a.heap.size a b := ⟨h.os, h.tape, h.output, h.size, fun i hi => h.block i hi trivial⟩
theorem Same.drew {N : Nat → Prop} {a b : World} (h : Same N a b) : Same N a b.drew := ⟨h.os, h.tape, h.output, h.size, h.block⟩
theorem Same.of_grown {w w' : World} {row : Option Nat} (h : w.grownBy w' row) : Same (fun k => some k ≠ row) w w' :=
  ⟨h.os, h.tape, h.output, h.size, fun k hk hn => h.block k hk hn⟩
/-- What was made since a world may have changed: of the older world nothing has. -/
theorem Same.after {w0 w w' : World} {N : Nat → Prop} (h0 : Same All w0 w) (h : Same N w w') (hn : ∀ k, k < w0.heap.size → N k) : Same All w0 w' :=
  ⟨h.os.trans h0.os, h.tape.trans h0.tape, h.output.trans h0.output, Nat.le_trans h0.size h.size,
    fun k hk _ => (h.block k (Nat.lt_of_lt_of_le hk h0.size) (hn k hk)).trans (h0.block k hk trivial)⟩
theorem Same.after' {w0 w w' : World} {N M : Nat → Prop} (h0 : Same M w0 w) (h : Same N w w') (hn : ∀ k, k < w0.heap.size → M k → N k) : Same M w0 w' :=
  ⟨h.os.trans h0.os, h.tape.trans h0.tape, h.output.trans h0.output, Nat.le_trans h0.size h.size,
    fun k hk hm => (h.block k (Nat.lt_of_lt_of_le hk h0.size) (hn k hk hm)).trans (h0.block k hk hm)⟩

/-- A block known whole: a variable, or a row of the call's own. -/
def Bx (w : World) (b : Nat) (T : TypeId) (cs : Array Value) : Prop := w.heap[b]? = some (.cells cs T (0, 0))

theorem Bx.lt {w : World} {b : Nat} {T : TypeId} {cs : Array Value} (h : Bx w b T cs) : b < w.heap.size := (Array.getElem?_eq_some_iff.1 h).1
theorem Bx.same {N : Nat → Prop} {w w' : World} {b : Nat} {T : TypeId} {cs : Array Value} (hs : Same N w w') (h : Bx w b T cs) (hn : N b) : Bx w' b T cs :=
  (hs.block b h.lt hn).trans h
theorem Bx.cell {w : World} {b : Nat} {T : TypeId} {cs : Array Value} (h : Bx w b T cs) (i : Nat) : w.cell? ⟨b, i, none⟩ = cs[i]? := by
  unfold Bx at h
  simp [World.cell?, h]

theorem cell_lt {w : World} {b o : Nat} {v : Value} (h : w.cell? ⟨b, o, none⟩ = some v) : b < w.heap.size := World.block_lt_of_cell? w _ h
theorem cell_same {N : Nat → Prop} {w w' : World} {b o : Nat} {v : Value} (hs : Same N w w') (h : w.cell? ⟨b, o, none⟩ = some v) (hn : N b) : w'.cell? ⟨b, o, none⟩ = some v := by
  have := hs.block b (cell_lt h) hn
  rw [← h]
  exact World.cell?_of_block (w := w) this

/-- How a kind of element lies in memory: so many cells. -/
structure Enc (α : Type) where
  sz : Nat
  enc : α → List Value
  len : ∀ x, (enc x).length = sz
  one : ∀ x, ∀ v ∈ enc x, v.oneCell' = true

/-- At 'a' the elements l lie, one behind the other, in a block that N tells of. -/
def Rd {α : Type} (E : Enc α) (N : Nat → Prop) (w : World) (a : Option Addr) (l : List α) : Prop :=
  ∀ i x, l[i]? = some x → ∃ b o, a = some ⟨b, o, none⟩ ∧ N b ∧ ∀ j v, (E.enc x)[j]? = some v → w.cell? ⟨b, o + i * E.sz + j, none⟩ = some v

section
variable {α : Type} {E : Enc α} {N N' : Nat → Prop} {w w' : World} {a : Option Addr} {l : List α}

theorem Rd.nil (E : Enc α) (N : Nat → Prop) (w : World) (a : Option Addr) : Rd E N w a [] := fun i x h => by simp at h
theorem Rd.same (h : Rd E N w a l) (hs : Same N w w') : Rd E N w' a l := fun i x hx => by
  obtain ⟨b, o, ha, hn, hc⟩ := h i x hx
  exact ⟨b, o, ha, hn, fun j v hv => cell_same hs (hc j v hv) hn⟩
theorem Rd.mono (h : Rd E N w a l) (hN : ∀ b, N b → N' b) : Rd E N' w a l := fun i x hx => by
  obtain ⟨b, o, ha, hn, hc⟩ := h i x hx
  exact ⟨b, o, ha, hN b hn, hc⟩
theorem Rd.all (h : Rd E N w a l) : Rd E All w a l := h.mono fun _ _ => trivial
/-- What is there lies in the blocks that are there. -/
theorem Rd.old (h : Rd E N w a l) (hz : 0 < E.sz) : Rd E (fun b => N b ∧ b < w.heap.size) w a l := fun i x hx => by
  obtain ⟨b, o, ha, hn, hc⟩ := h i x hx
  refine ⟨b, o, ha, ⟨hn, ?_⟩, hc⟩
  have hl := E.len x
  have h0 : (E.enc x)[0]? = some ((E.enc x)[0]'(by omega)) := List.getElem?_eq_getElem _
  exact cell_lt (hc 0 _ h0)
theorem Rd.fresh {c : Nat} (h : Rd E N w a l) (hz : 0 < E.sz) (hc : w.heap.size ≤ c) : Rd E (But c) w a l :=
  (h.old hz).mono fun b ⟨_, hb⟩ => by unfold But; omega
theorem Rd.keep (h : Rd E N w a l) (hz : 0 < E.sz) (hs : Same N' w w') (hn : ∀ b, b < w.heap.size → N b → N' b) : Rd E N w' a l := fun i x hx => by
  obtain ⟨b, o, ha, ⟨hb, hlt⟩, hc⟩ := h.old hz i x hx
  exact ⟨b, o, ha, hb, fun j v hv => cell_same hs (hc j v hv) (hn b hlt hb)⟩
theorem Rd.some (h : Rd E N w a l) {i : Nat} (hi : i < l.length) : a ≠ none := by
  obtain ⟨b, o, ha, _⟩ := h i l[i] (List.getElem?_eq_getElem hi)
  rw [ha]; simp

/-- Where a slice's element lies. -/
def ix (a : Option Addr) (k : Nat) : Addr := ⟨(a.map (·.block)).getD 0, (a.map (·.off)).getD 0 + k, none⟩

theorem Rd.at (h : Rd E N w a l) {i j : Nat} {x : α} {v : Value} (hx : l[i]? = .some x) (hv : (E.enc x)[j]? = .some v) : w.cell? (ix a (i * E.sz + j)) = .some v := by
  obtain ⟨b, o, ha, hn, hc⟩ := h i x hx
  have := hc j v hv
  rw [Nat.add_assoc] at this
  subst ha
  exact this

/-- The first k elements. -/
theorem Rd.take (h : Rd E N w a l) (k : Nat) : Rd E N w a (l.take k) := fun i x hx => h i x (by
  rw [List.getElem?_take] at hx; split at hx
  · exact hx
  · cases hx)

/-- The address of 's[k:]'. -/
def cut (a : Option Addr) (cap k sz : Nat) : Option Addr := if cap = k then a else a.map (·.add (k * sz))
theorem Rd.drop (h : Rd E N w a l) {k cap : Nat} (hc : l.length ≤ cap) : Rd E N w (cut a cap k E.sz) (l.drop k) := fun i x hx => by
  rw [List.getElem?_drop] at hx
  obtain ⟨b, o, ha, hn, hcell⟩ := h (k + i) x hx
  have hlt : k + i < l.length := (List.getElem?_eq_some_iff.1 hx).1
  have hne : cap ≠ k := by omega
  refine ⟨b, o + k * E.sz, ?_, hn, fun j v hv => ?_⟩
  · unfold cut
    rw [if_neg hne, ha]
    simp only [Option.map_some, Addr.add]
    split
    · rename_i e; simp [e]
    · rfl
  · have := hcell j v hv
    rw [show o + k * E.sz + i * E.sz + j = o + (k + i) * E.sz + j by rw [Nat.add_mul]; omega]
    exact this
theorem cut_zero (a : Option Addr) (cap sz : Nat) : cut a cap 0 sz = a := by
  unfold cut
  split
  · rfl
  · cases a <;> simp [Addr.add]

theorem flatMap_get (E : Enc α) : ∀ (l : List α) (i j : Nat) (x : α), l[i]? = .some x → j < E.sz → (l.flatMap E.enc)[i * E.sz + j]? = (E.enc x)[j]?
  | [], i, j, x, h, _ => by simp at h
  | y :: l, 0, j, x, h, hj => by
    simp only [List.getElem?_cons_zero, Option.some.injEq] at h
    subst h
    rw [List.flatMap_cons, Nat.zero_mul, Nat.zero_add, List.getElem?_append_left (by rw [E.len]; exact hj)]
  | y :: l, i + 1, j, x, h, hj => by
    simp only [List.getElem?_cons_succ] at h
    rw [List.flatMap_cons, List.getElem?_append_right (by rw [E.len, Nat.add_mul]; omega), E.len]
    rw [show (i + 1) * E.sz + j - E.sz = i * E.sz + j by rw [Nat.add_mul]; omega]
    exact flatMap_get E l i j x h hj
theorem flatMap_len (E : Enc α) (l : List α) : (l.flatMap E.enc).length = l.length * E.sz := by
  induction l with
  | nil => simp
  | cons x l ih => rw [List.flatMap_cons, List.length_append, ih, E.len, List.length_cons, Nat.add_mul]; omega
theorem flatMap_one (E : Enc α) (l : List α) : ∀ v ∈ l.flatMap E.enc, v.oneCell' = true := fun v hv => by
  obtain ⟨x, _, hx⟩ := List.mem_flatMap.1 hv
  exact E.one x v hx

/-- A block whose first cells are the elements'. -/
theorem Bx.rd {b : Nat} {T : TypeId} {cs : Array Value} (h : Bx w b T cs) (hn : N b) (hc : ∃ rest, cs.toList = l.flatMap E.enc ++ rest) : Rd E N w (.some ⟨b, 0, none⟩) l := fun i x hx => by
  refine ⟨b, 0, rfl, hn, fun j v hv => ?_⟩
  rw [h.cell]
  have hj : j < E.sz := by have := (List.getElem?_eq_some_iff.1 hv).1; rwa [E.len] at this
  have hlt : i < l.length := (List.getElem?_eq_some_iff.1 hx).1
  obtain ⟨rest, hr⟩ := hc
  have h1 := flatMap_get E l i j x hx hj
  have h2 : i * E.sz + j < (l.flatMap E.enc).length := by
    rw [flatMap_len]
    calc i * E.sz + j < i * E.sz + E.sz := by omega
      _ = (i + 1) * E.sz := by rw [Nat.add_mul]; omega
      _ ≤ l.length * E.sz := Nat.mul_le_mul_right _ hlt
  rw [← Array.getElem?_toList, hr, Nat.zero_add, List.getElem?_append_left h2, h1, hv]

/-- A slice of the call's own: nil, or at the head of a block of its own from 'base' on; its elements are l. -/
def Ow (E : Enc α) (T : TypeId) (base : Nat) (w : World) (a : Option Addr) (cap : Nat) (l : List α) : Prop :=
  w.ownsRow base T E.sz (.slice a l.length cap) l.length (l.flatMap E.enc)

theorem Ow.nil (E : Enc α) (T : TypeId) (base : Nat) (w : World) : Ow E T base w none 0 [] := World.ownsRow_nil w base T E.sz
theorem Ow.same {T : TypeId} {base cap : Nat} (h : Ow E T base w a cap l) (hs : Same N w w') (hn : ∀ k, a.map (·.block) = .some k → N k) : Ow E T base w' a cap l := by
  refine ⟨h.1, ?_⟩
  rcases h.2 with hx | ⟨g, c, cur, hv, hb, hg, r⟩
  · exact .inl hx
  · refine .inr ⟨g, c, cur, hv, hb, ?_, r⟩
    have e : a = .some ⟨g, 0, none⟩ := by cases hv; rfl
    exact (hs.block g (Array.getElem?_eq_some_iff.1 hg).1 (hn g (by rw [e]; rfl))).trans hg
theorem Ow.lt {T : TypeId} {base cap : Nat} (h : Ow E T base w a cap l) : ∀ k, a.map (·.block) = .some k → base ≤ k ∧ k < w.heap.size := fun k hk => by
  refine World.ownsRow.lt h k ?_
  cases a with
  | none => simp at hk
  | some p => simpa [Value.ownBlock] using hk
theorem Ow.mono {T : TypeId} {base base' cap : Nat} (h : Ow E T base w a cap l) (hb : base' ≤ base) : Ow E T base' w a cap l := by
  refine ⟨h.1, ?_⟩
  rcases h.2 with hx | ⟨g, c, cur, hv, hbg, r⟩
  · exact .inl hx
  · exact .inr ⟨g, c, cur, hv, by omega, r⟩
theorem Ow.rd {T : TypeId} {base cap : Nat} (h : Ow E T base w a cap l) (hn : ∀ k, base ≤ k → k < w.heap.size → N k) : Rd E N w a l := fun i x hx => by
  rcases h.2 with ⟨hx', hl⟩ | ⟨g, c, cur, hv, hb, hg, hnc, hcm, hcs, htake⟩
  · have : l = [] := List.eq_nil_of_length_eq_zero hl
    subst this; simp at hx
  · have e : a = .some ⟨g, 0, none⟩ := by cases hv; rfl
    subst e
    have hg' : Bx w g T cur := hg
    refine hg'.rd (hn g hb hg'.lt) ?_ i x hx
    exact ⟨cur.toList.drop (l.length * E.sz), by rw [← htake, List.take_append_drop]⟩
theorem Ow.cap {T : TypeId} {base cap : Nat} (h : Ow E T base w a cap l) : l.length ≤ cap := by
  rcases h.2 with ⟨hx', hl⟩ | ⟨g, c, cur, hv, hb, hg, hnc, _⟩
  · omega
  · cases hv; exact hnc
/-- The own row with fewer elements. -/
theorem Ow.take {T : TypeId} {base cap : Nat} (h : Ow E T base w a cap l) (k : Nat) (hk : k ≤ l.length) : Ow E T base w a cap (l.take k) := by
  have hl : (l.take k).length = k := by simp; omega
  refine ⟨by rw [flatMap_len], ?_⟩
  rcases h.2 with ⟨hx', hz⟩ | ⟨g, c, cur, hv, hb, hg, hnc, hcm, hcs, htake⟩
  · have hln : l = [] := List.eq_nil_of_length_eq_zero hz
    subst hln
    exact .inl ⟨by simpa using hx', by simp⟩
  · have e : a = .some ⟨g, 0, none⟩ := by cases hv; rfl
    have e2 : c = cap := by cases hv; rfl
    subst e; subst e2
    refine .inr ⟨g, c, cur, rfl, hb, hg, by omega, hcm, hcs, ?_⟩
    rw [hl]
    have h1 : cur.toList.take (k * E.sz) = (cur.toList.take (l.length * E.sz)).take (k * E.sz) := by
      rw [List.take_take, Nat.min_eq_left (Nat.mul_le_mul_right _ hk)]
    rw [h1, htake]
    have h2 : l.flatMap E.enc = (l.take k).flatMap E.enc ++ (l.drop k).flatMap E.enc := by rw [← List.flatMap_append, List.take_append_drop]
    rw [h2]
    exact List.take_left' (by rw [flatMap_len, hl])
theorem Ow.made {T : TypeId} {base b : Nat} (h : Bx w b T (l.flatMap E.enc).toArray) (hb : base ≤ b) (hm : l.length ≤ maxLen) : Ow E T base w (.some ⟨b, 0, none⟩) l.length l := by
  refine ⟨by rw [flatMap_len], .inr ⟨b, l.length, _, rfl, hb, h, Nat.le_refl _, hm, by rw [List.size_toArray, flatMap_len], ?_⟩⟩
  simp only [List.take_of_length_le, flatMap_len, Nat.le_refl]
end

/-! ### Operations on memory -/
section
variable {P : Program} {n : Nat} {ρ : Env} {w : World} {dst : Option Tmp} {ty : TypeId} {pos : String} {af : Array Edge} {gd : Option (Nat × Bool)} {K : Env → World → Prop}

theorem opW_value {o : Oper} {v : Value} {w' : World} (h : (execOp (ev ρ) o).run P w = .ok (.value v) w') (hk : K (updo ρ o.dst v) w') : OpW P ρ o w K := by
  unfold OpW; rw [h]; exact hk
theorem opW_skip {o : Oper} {w' : World} (h : (execOp (ev ρ) o).run P w = .ok .skip w') (hk : K (updo ρ o.dst undef) w') : OpW P ρ o w K := by
  unfold OpW; rw [h]; exact hk

theorem same_alloc (w : World) (o : Obj) : Same All w (w.alloc o) := ⟨rfl, rfl, rfl, by simp, fun k hk _ => RowKit.Below.heap_alloc w o k hk⟩

theorem O_box {T : TypeId} {x : Operand} {v : Value} {cs : Array Value} (hx : ev ρ x = v) (hcs : v.cells = cs)
    (h : ∀ b w', w.heap.size ≤ b → b < w'.heap.size → Same All w w' → Bx w' b T cs → K (updo ρ dst (.pointer (some ⟨b, 0, none⟩))) w') :
    OpW P ρ ⟨dst, .box T x, ty, pos, af, gd⟩ w K := by
  subst hcs
  refine opW_value (w' := w.alloc (.cells v.cells T)) (v := .pointer (some ⟨w.heap.size, 0, none⟩)) ?_ (h _ _ (Nat.le_refl _) (by simp) (same_alloc _ _) (heap_alloc_new w _))
  simp only [execOp, Instr.box, newVar, newRow, hx, Sem.run_bind, run_newObj, Result.andThen_ok, Sem.run_pure]
  rfl

theorem O_alloc {T : TypeId} {i : TypeInfo} {z : Value} {cs : Array Value} (hi : P.info? T = some i) (hz : i.zero = some z) (hcs : z.cells = cs)
    (h : ∀ b w', w.heap.size ≤ b → b < w'.heap.size → Same All w w' → Bx w' b T cs → K (updo ρ dst (.pointer (some ⟨b, 0, none⟩))) w') :
    OpW P ρ ⟨dst, .alloc T, ty, pos, af, gd⟩ w K := by
  subst hcs
  refine opW_value (w' := w.alloc (.cells z.cells T)) (v := .pointer (some ⟨w.heap.size, 0, none⟩)) ?_ (h _ _ (Nat.le_refl _) (by simp) (same_alloc _ _) (heap_alloc_new w _))
  simp only [execOp, Instr.alloc, zeroValue, typeInfo, run_program, hi, hz, newVar, newRow, Sem.run_bind, run_newObj, Result.andThen_ok, Sem.run_pure]
  rfl

/-- The cells of a block with some written anew. -/
def setsAt (cs : Array Value) (o : Nat) (vs : List Value) : Array Value := (cs.toList.take o ++ vs ++ cs.toList.drop (o + vs.length)).toArray

theorem O_store {T U : TypeId} {x y : Operand} {b o m : Nat} {cs cs' : Array Value} {v : Value} {i : TypeInfo} (hx : ev ρ x = .pointer (some ⟨b, o, none⟩)) (hy : ev ρ y = v) (hi : P.info? U = some i)
    (hb : Bx w b T cs) (hsz : v.cells.size = i.size) (hlt : o + v.cells.size ≤ cs.size) (h1 : v.cells.toList.all (·.oneCell') = true) (hcs : setsAt cs o v.cells.toList = cs')
    (h : ∀ w', Same (But b) w w' → w'.heap.size = w.heap.size → Bx w' b T cs' → K (updo ρ dst undef) w') : OpW P ρ ⟨dst, .store U x y, ty, pos, af, gd⟩ w K := by
  subst hcs
  have hst := run_storeCells_at P b o T v.cells.toList 0 cs w hb (by simpa using hlt) (fun u hu => by simpa using (List.all_eq_true.1 h1 u hu))
  refine opW_skip (w' := w.setRow b (setsAt cs o v.cells.toList)) ?_ (h _ ?_ (by simp) (setRow_heap w b cs _ T _ hb))
  · simp only [execOp, Instr.storeAt, Instr.sureAddr, hx, hy, storeVar, Go.sizeOf, typeInfo, run_program, hi, Sem.run_bind, Result.andThen_ok, Sem.run_pure, hsz, ne_eq, not_true, if_false]
    simp only [Nat.add_zero] at hst
    rw [hst]
    rfl
  · exact ⟨rfl, rfl, rfl, by simp, fun k _ hk => setRow_other w b k _ hk⟩

theorem R_load {T : TypeId} {x : Operand} {ad : Addr} {v : Value} {td : TypeDesc} (hx : ev ρ x = .pointer (some ad)) (hu : P.underlying T = some td)
    (hna : scalarT td = true) (hc : w.cell? ad = some v) : Run P ρ ⟨dst, .load T x, ty, pos, af, gd⟩ w v := by
  cases td <;> simp [scalarT, aggT] at hna <;> simp [Run, execOp, hx, Instr.loadAt, Instr.sureAddr, loadVar, isAgg, run_underlying hu, hc]

theorem R_loadAgg {T : TypeId} {x : Operand} {ad : Addr} {cs : List Value} {vs : Array Value} {td : TypeDesc} {i : TypeInfo} (hx : ev ρ x = .pointer (some ad)) (hu : P.underlying T = some td)
    (hna : aggT td = true) (hi : P.info? T = some i) (hl : cs.length = i.size)
    (hc : ∀ j v, cs[j]? = some v → w.cell? (ad.add j) = some v) (hvs : cs.toArray = vs) : Run P ρ ⟨dst, .load T x, ty, pos, af, gd⟩ w (.agg vs) := by
  subst hvs
  have h := run_loadCells_list (P := P) w ad cs hc
  rw [hl] at h
  cases td <;> simp [scalarT, aggT] at hna <;>
    simp only [Run, execOp, hx, Instr.loadAt, Instr.sureAddr, loadVar, isAgg, run_underlying hu, Go.sizeOf, typeInfo, run_program, hi, Sem.run_bind, Result.andThen_ok, Sem.run_pure, h, if_true]

theorem add_plain (b o j : Nat) : (⟨b, o, none⟩ : Addr).add j = ⟨b, o + j, none⟩ := by unfold Addr.add; split <;> simp_all

/-- A variable's scalar. -/
theorem R_loadB {T U : TypeId} {x : Operand} {b o : Nat} {cs : Array Value} {v : Value} {td : TypeDesc} (hx : ev ρ x = .pointer (some ⟨b, o, none⟩)) (hb : Bx w b T cs) (hv : cs[o]? = some v)
    (hu : P.underlying U = some td) (hna : scalarT td = true) : Run P ρ ⟨dst, .load U x, ty, pos, af, gd⟩ w v :=
  R_load hx hu hna (by rw [hb.cell]; exact hv)
/-- A variable's struct (or a struct within it). -/
theorem R_loadBA {T U : TypeId} {x : Operand} {b o : Nat} {cs : Array Value} {vs : Array Value} {td : TypeDesc} {i : TypeInfo} (hx : ev ρ x = .pointer (some ⟨b, o, none⟩)) (hb : Bx w b T cs)
    (hu : P.underlying U = some td) (hna : aggT td = true) (hi : P.info? U = some i) (hl : vs.size = i.size)
    (hv : (cs.toList.drop o).take i.size = vs.toList) : Run P ρ ⟨dst, .load U x, ty, pos, af, gd⟩ w (.agg vs) := by
  refine R_loadAgg hx hu hna hi (cs := vs.toList) (by simpa using hl) (fun j v hj => ?_) (by simp)
  rw [add_plain, hb.cell]
  rw [← hv, List.getElem?_take] at hj
  split at hj
  · rw [List.getElem?_drop] at hj
    rw [← Array.getElem?_toList]; exact hj
  · cases hj
/-- A slice's element, or a part of one, of one cell. -/
theorem R_loadE {α : Type} {E : Enc α} {N : Nat → Prop} {U : TypeId} {x : Operand} {a : Option Addr} {l : List α} {k j : Nat} {e : α} {v : Value} {td : TypeDesc}
    (hx : ev ρ x = .pointer (some (ix a (k * E.sz + j)))) (hr : Rd E N w a l) (he : l[k]? = some e) (hv : (E.enc e)[j]? = some v) (hu : P.underlying U = some td)
    (hna : scalarT td = true) : Run P ρ ⟨dst, .load U x, ty, pos, af, gd⟩ w v :=
  R_load hx hu hna (hr.at he hv)
/-- A slice's element that is a struct. -/
theorem R_loadEA {α : Type} {E : Enc α} {N : Nat → Prop} {U : TypeId} {x : Operand} {a : Option Addr} {l : List α} {k : Nat} {e : α} {vs : Array Value} {td : TypeDesc} {i : TypeInfo}
    (hx : ev ρ x = .pointer (some (ix a (k * E.sz)))) (hr : Rd E N w a l) (he : l[k]? = some e) (hu : P.underlying U = some td)
    (hna : aggT td = true) (hi : P.info? U = some i) (hsz : E.sz = i.size) (hvs : (E.enc e).toArray = vs) : Run P ρ ⟨dst, .load U x, ty, pos, af, gd⟩ w (.agg vs) :=
  R_loadAgg hx hu hna hi (cs := E.enc e) (by rw [E.len, hsz]) (fun j v hj => by
    have := hr.at he hj
    unfold ix at this ⊢
    rw [add_plain, Nat.add_assoc]
    exact this) hvs

theorem R_fieldAddr {t : TypeId} {x : Operand} {f b o o' : Nat} {fs : Array Field} {fd : Field} {i : TypeInfo} (hx : ev ρ x = .pointer (some ⟨b, o, none⟩)) (ht : P.underlying t = some (.struct fs)) (hf : fs[f]? = some fd)
    (hi : P.info? fd.type = some i) (hz : (i.size == 0) = false) (ho : o + fd.offset = o') : Run P ρ ⟨dst, .fieldAddr t x f, ty, pos, af, gd⟩ w (.pointer (some ⟨b, o', none⟩)) := by
  subst ho
  have hz' : ¬ i.size = 0 := by simpa using hz
  simp [Run, execOp, Instr.fieldAt, run_underlying ht, hf, hx, Instr.sureAddr, fieldPlace, Go.sizeOf, typeInfo, hi, hz', add_plain]
theorem R_fieldAddrE {t : TypeId} {x : Operand} {f k k' : Nat} {a : Option Addr} {fs : Array Field} {fd : Field} {i : TypeInfo} (hx : ev ρ x = .pointer (some (ix a k))) (ht : P.underlying t = some (.struct fs)) (hf : fs[f]? = some fd)
    (hi : P.info? fd.type = some i) (hz : (i.size == 0) = false) (hk : k + fd.offset = k') : Run P ρ ⟨dst, .fieldAddr t x f, ty, pos, af, gd⟩ w (.pointer (some (ix a k'))) := by
  subst hk
  exact R_fieldAddr hx ht hf hi hz (by rw [Nat.add_assoc])

theorem R_indexAddr {t e : TypeId} {x y : Operand} {a : Option Addr} {len cap k : Nat} {j : Int} {kk : IntKind} {i : TypeInfo} {sz : Nat} (hx : ev ρ x = .slice a len cap) (hy : ev ρ y = .int kk j) (hj : j = (k : Int)) (hk : k < len) (ha : a ≠ none)
    (hsp : ∀ p, a = some p → p.spot = none) (ht : P.underlying t = some (.slice e)) (hi : P.info? e = some i) (hsz : i.size = sz) : Run P ρ ⟨dst, .indexAddr t x y, ty, pos, af, gd⟩ w (.pointer (some (ix a (k * sz)))) := by
  subst hj; subst hsz
  cases a with
  | none => exact absurd rfl ha
  | some p =>
    have hs := hsp p rfl
    have hlt : ((k : Int)) < (len : Int) := by omega
    obtain ⟨b, o, sp⟩ := p
    simp only at hs
    subst hs
    have hnl : ¬ len ≤ k := by omega
    simp [Run, execOp, hx, hy, Instr.indexAt, asIntOf, run_underlying ht, Go.sizeOf, typeInfo, hi, hnl, hk, add_plain, ix]
/-- .. of a slice that is known to hold elements. -/
theorem R_indexAddrE {α : Type} {E : Enc α} {N : Nat → Prop} {l : List α} {t e : TypeId} {x y : Operand} {a : Option Addr} {cap k : Nat} {j : Int} {kk : IntKind} {i : TypeInfo} {sz : Nat}
    (hx : ev ρ x = .slice a l.length cap) (hy : ev ρ y = .int kk j) (hr : Rd E N w a l) (hj : j = (k : Int)) (hk : k < l.length)
    (ht : P.underlying t = some (.slice e)) (hi : P.info? e = some i) (hsz : i.size = sz) : Run P ρ ⟨dst, .indexAddr t x y, ty, pos, af, gd⟩ w (.pointer (some (ix a (k * sz)))) := by
  refine R_indexAddr hx hy hj hk (hr.some hk) (fun p hp => ?_) ht hi hsz
  obtain ⟨b, o, ha, _⟩ := hr k l[k] (List.getElem?_eq_getElem hk)
  rw [ha] at hp; cases hp; rfl

/-- s[lo:hi] of a slice. -/
theorem R_slice {t e : TypeId} {x : Operand} {lo hi' : Option Operand} {a : Option Addr} {len cap l h : Nat} {i : TypeInfo} {sz : Nat} (hx : ev ρ x = .slice a len cap)
    (hlo : (match lo with | some y => ∃ k j, ev ρ y = .int k j ∧ j = (l : Int) | none => l = 0)) (hhi : (match hi' with | some y => ∃ k j, ev ρ y = .int k j ∧ j = (h : Int) | none => h = len))
    (hlh : l ≤ h) (hhc : h ≤ cap) (ht : P.underlying t = some (.slice e)) (hi : P.info? e = some i) (hsz : i.size = sz) :
    Run P ρ ⟨dst, .slice t x lo hi' none, ty, pos, af, gd⟩ w (.slice (cut a cap l sz) (h - l) (cap - l)) := by
  subst hsz
  have h1 : (l : Int) ≤ (h : Int) := by omega
  have h2 : (h : Int) ≤ (cap : Int) := by omega
  cases lo with
  | none =>
    simp only at hlo
    subst hlo
    cases hi' with
    | none => simp only at hhi; subst hhi; simp [Run, execOp, hx, Instr.sliceAt, Instr.slice, run_underlying ht, Instr.sliceBounds, Go.sizeOf, typeInfo, hi, cut]
    | some y =>
      obtain ⟨k, j, hy, rfl⟩ := hhi
      simp [Run, execOp, hx, hy, Instr.sliceAt, Instr.slice, run_underlying ht, Instr.sliceBounds, Instr.sliceBound, asIntOf, Go.sizeOf, typeInfo, hi, cut, hhc]
  | some z =>
    obtain ⟨k', j', hz, rfl⟩ := hlo
    cases hi' with
    | none => simp only at hhi; subst hhi; simp [Run, execOp, hx, hz, Instr.sliceAt, Instr.slice, run_underlying ht, Instr.sliceBounds, Instr.sliceBound, asIntOf, Go.sizeOf, typeInfo, hi, cut, hlh]
    | some y =>
      obtain ⟨k, j, hy, rfl⟩ := hhi
      simp [Run, execOp, hx, hy, hz, Instr.sliceAt, Instr.slice, run_underlying ht, Instr.sliceBounds, Instr.sliceBound, asIntOf, Go.sizeOf, typeInfo, hi, cut, hhc, hlh]
/-- s[lo:hi] of a string. -/
theorem R_sliceS {t : TypeId} {x : Operand} {lo hi : Option Operand} {s : ByteArray} {l h : Nat} (hx : ev ρ x = .string s)
    (hlo : (match lo with | some y => ∃ k j, ev ρ y = .int k j ∧ j = (l : Int) | none => l = 0)) (hhi : (match hi with | some y => ∃ k j, ev ρ y = .int k j ∧ j = (h : Int) | none => h = s.size))
    (hlh : l ≤ h) (hhc : h ≤ s.size) (ht : P.underlying t = some .string) :
    Run P ρ ⟨dst, .slice t x lo hi none, ty, pos, af, gd⟩ w (.string (s.extract l h)) := by
  have h1 : (l : Int) ≤ (h : Int) := by omega
  cases lo with
  | none =>
    simp only at hlo
    subst hlo
    cases hi with
    | none => simp only at hhi; subst hhi; simp [Run, execOp, hx, Instr.sliceAt, Instr.slice, run_underlying ht, Instr.sliceBounds]
    | some y =>
      obtain ⟨k, j, hy, rfl⟩ := hhi
      simp [Run, execOp, hx, hy, Instr.sliceAt, Instr.slice, run_underlying ht, Instr.sliceBounds, Instr.sliceBound, asIntOf, hhc]
  | some z =>
    obtain ⟨k', j', hz, rfl⟩ := hlo
    cases hi with
    | none => simp only at hhi; subst hhi; simp [Run, execOp, hx, hz, Instr.sliceAt, Instr.slice, run_underlying ht, Instr.sliceBounds, Instr.sliceBound, asIntOf, hlh]
    | some y =>
      obtain ⟨k, j, hy, rfl⟩ := hhi
      simp [Run, execOp, hx, hy, hz, Instr.sliceAt, Instr.slice, run_underlying ht, Instr.sliceBounds, Instr.sliceBound, asIntOf, hhc, hlh]
end
end Gx
