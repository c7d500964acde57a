/-
  The base of this seat's walks: calls and returns; literals of slices and structs; append; regions that draw their order; floats whose NaN is open.
-/
import Derived.Test.YtpfbheodbgkgmaaDoorGxMem
set_option linter.unusedSimpArgs false
set_option linter.unusedVariables false
namespace Gx
open Go

/-- The call returns a value that R holds of. -/
def Ret (P : Program) (f : FuncId) (args : Array Value) (w : World) (R : Value → World → Prop) : Prop :=
  Calls P f args w (fun e w' => ∃ v, e = .returned v ∧ R v w')

theorem Ret.mono {P : Program} {f : FuncId} {args : Array Value} {w : World} {R R' : Value → World → Prop} (h : Ret P f args w R) (hr : ∀ v w', R v w' → R' v w') : Ret P f args w R' :=
  Calls.mono h fun e w' ⟨v, he, hv⟩ => ⟨v, he, hr v w' hv⟩

/-- What a function hands back, read off the frame at its end. -/
def ResIs (P : Program) (fn : Func) (ρ : Env) (w : World) (v : Value) : Prop := ∀ tmps : Array Value, (∀ t, tmps.getD t undef = ρ t) → (results fn tmps).run P w = .ok v w

/-- The post of a function's body. -/
def bodyQ (P : Program) (fn : Func) (R : Value → World → Prop) : Post
  | .normal, ρ, w | .ret, ρ, w => ∃ v, ResIs P fn ρ w v ∧ R v w
  | _, _, _ => False

theorem ret_of {P : Program} {f : FuncId} {fn : Func} {c : Code} {args : List Value} {w : World} {R : Value → World → Prop} (hf : P.funcs[f]? = some fn) (hb : fn.body = some c) (n : Nat)
    (hn : fn.ntmps = n) (hl : Nat.ble args.length n = true) (h : WC P n c (bodyQ P fn R) (start args) w) : Ret P f args.toArray w R := by
  subst hn
  have hl' : args.length ≤ fn.ntmps := by simpa using hl
  refine calls_of_wp hf hb ?_
  have hr := rep_start args fn.ntmps hl'
  simp only [List.size_toArray]
  refine wp_mono (h _ hr) ?_
  rintro e a w' ⟨ρ', hr', hq⟩
  cases e with
  | normal => obtain ⟨v, hv, hR⟩ := hq; exact ⟨hr'.defers, v, hv _ hr'.getD, v, rfl, hR⟩
  | ret => obtain ⟨v, hv, hR⟩ := hq; exact ⟨hr'.defers, v, hv _ hr'.getD, v, rfl, hR⟩
  | exit id => exact hq.elim
  | goto l => exact hq.elim
  | panic c => exact hq.elim
  | outgrown => exact hq.elim

section
variable {P : Program} {fn : Func} {ρ : Env} {w : World} {R : Value → World → Prop}
theorem Q_ret {v : Value} (hv : ResIs P fn ρ w v) (h : R v w) : bodyQ P fn R .ret ρ w := ⟨v, hv, h⟩
theorem Q_end {v : Value} (hv : ResIs P fn ρ w v) (h : R v w) : bodyQ P fn R .normal ρ w := ⟨v, hv, h⟩
theorem res0 (h : fn.results = #[]) : ResIs P fn ρ w (.tuple #[]) := fun tmps ht => by simp [results, h]
theorem res1 {t : Tmp} {v : Value} (h : fn.results = #[.tmp t]) (hv : ρ t = v) : ResIs P fn ρ w v := fun tmps ht => by
  have := ht t; subst hv; simp only [results, h]; rw [← this]; simp [results, h]
theorem res2 {t u : Tmp} {v x : Value} (h : fn.results = #[.tmp t, .tmp u]) (hv : ρ t = v) (hx : ρ u = x) : ResIs P fn ρ w (.tuple #[v, x]) := fun tmps ht => by
  have h1 := ht t; have h2 := ht u; subst hv; subst hx; rw [← h1, ← h2]; simp [results, h]
theorem res3 {t u s : Tmp} {v x y : Value} (h : fn.results = #[.tmp t, .tmp u, .tmp s]) (hv : ρ t = v) (hx : ρ u = x) (hy : ρ s = y) : ResIs P fn ρ w (.tuple #[v, x, y]) := fun tmps ht => by
  have h1 := ht t; have h2 := ht u; have h3 := ht s; subst hv; subst hx; subst hy; rw [← h1, ← h2, ← h3]; simp [results, h]
/-- a struct result lies in a variable -/
theorem loadVar_box {T U : TypeId} {b : Nat} {cs : Array Value} {td : TypeDesc} {i : TypeInfo} (hb : Bx w b T cs) (hu : P.underlying U = some td)
    (hna : aggT td = true) (hi : P.info? U = some i) (hl : cs.size = i.size) : (loadVar U ⟨b, 0, none⟩).run P w = .ok (.agg cs) w := by
  have h := run_loadCells_list (P := P) w ⟨b, 0, none⟩ cs.toList (fun j v hj => by rw [add_plain, hb.cell, Nat.zero_add, ← Array.getElem?_toList]; exact hj)
  rw [Array.length_toList, hl] at h
  cases td <;> simp [scalarT, aggT] at hna <;>
    simp only [loadVar, isAgg, run_underlying hu, Go.sizeOf, typeInfo, run_program, hi, Sem.run_bind, Result.andThen_ok, Sem.run_pure, h, if_true, Array.toArray_toList]
theorem resC {t : Tmp} {T U : TypeId} {b : Nat} {cs : Array Value} {td : TypeDesc} {i : TypeInfo} (h : fn.results = #[.cell t U]) (hv : ρ t = .pointer (some ⟨b, 0, none⟩)) (hb : Bx w b T cs)
    (hu : P.underlying U = some td) (hna : aggT td = true) (hi : P.info? U = some i) (hl : cs.size = i.size) : ResIs P fn ρ w (.agg cs) := fun tmps ht => by
  have h1 := ht t; rw [hv] at h1
  have h2 := loadVar_box hb hu hna hi hl
  rw [Array.getD_eq_getD_getElem?] at h1
  simp [results, h, h1, asAddr, h2]
theorem resC2 {t u : Tmp} {T U : TypeId} {b : Nat} {cs : Array Value} {x : Value} {td : TypeDesc} {i : TypeInfo} (h : fn.results = #[.cell t U, .tmp u]) (hv : ρ t = .pointer (some ⟨b, 0, none⟩)) (hx : ρ u = x) (hb : Bx w b T cs)
    (hu : P.underlying U = some td) (hna : aggT td = true) (hi : P.info? U = some i) (hl : cs.size = i.size) : ResIs P fn ρ w (.tuple #[.agg cs, x]) := fun tmps ht => by
  have h1 := ht t; rw [hv] at h1
  have h3 := ht u; rw [hx] at h3
  have h2 := loadVar_box hb hu hna hi hl
  rw [Array.getD_eq_getD_getElem?] at h1 h3
  simp [results, h, h1, h3, asAddr, h2]
theorem resC3 {t u s : Tmp} {T U : TypeId} {b : Nat} {cs : Array Value} {x y : Value} {td : TypeDesc} {i : TypeInfo} (h : fn.results = #[.cell t U, .tmp u, .tmp s]) (hv : ρ t = .pointer (some ⟨b, 0, none⟩)) (hx : ρ u = x) (hy : ρ s = y) (hb : Bx w b T cs)
    (hu : P.underlying U = some td) (hna : aggT td = true) (hi : P.info? U = some i) (hl : cs.size = i.size) : ResIs P fn ρ w (.tuple #[.agg cs, x, y]) := fun tmps ht => by
  have h1 := ht t; rw [hv] at h1
  have h3 := ht u; rw [hx] at h3
  have h4 := ht s; rw [hy] at h4
  have h2 := loadVar_box hb hu hna hi hl
  rw [Array.getD_eq_getD_getElem?] at h1 h3 h4
  simp [results, h, h1, h3, h4, asAddr, h2]
end

section
variable {P : Program} {n : Nat} {ρ : Env} {w : World} {dst : Option Tmp} {ty : TypeId} {pos : String} {af : Array Edge} {gd : Option (Nat × Bool)} {K : Env → World → Prop}

/-- A function of the program that is entered at a call. -/
def Enters (P : Program) (f : FuncId) : Prop := ∀ args w, (callFunc f args).run P w = .ok (.enter f args) w
theorem enters {f : FuncId} {fn : Func} (hf : P.funcs[f]? = some fn) (hb : fn.body.isSome = true) (hn : (fn.name == "runtime.NumGoroutine") = false) : Enters P f := fun args w => by
  have hb' : fn.body.isNone = false := by cases h : fn.body <;> simp_all
  simp only [callFunc, Sem.run_bind, run_program, Result.andThen_ok, hf, hn, hb', Bool.false_eq_true, if_false, Sem.run_pure]

theorem O_call {f : FuncId} {xs : List Operand} {tys : Array TypeId} {args : List Value} {R : Value → World → Prop} (he : Enters P f) (hx : xs.map (ev ρ) = args) (hc : Ret P f args.toArray w R)
    (h : ∀ v w', R v w' → K (updo ρ dst v) w') : OpW P ρ ⟨dst, .call ⟨.value (.func f), xs.toArray, tys⟩, ty, pos, af, gd⟩ w K := by
  subst hx
  unfold OpW
  have e : (execOp (ev ρ) ⟨dst, .call ⟨.value (.func f), xs.toArray, tys⟩, ty, pos, af, gd⟩).run P w = .ok (.enter f (xs.map (ev ρ)).toArray) w := by
    simp only [execOp, resolve, Deferred.ofValue, ev, Sem.run_bind, Sem.run_pure, Result.andThen_ok, invoke, List.map_toArray, Array.append_empty, Array.empty_append]
    exact he _ _
  rw [e]
  exact Calls.mono hc fun e w' ⟨v, hv, hr⟩ => ⟨v, hv, h v w' hr⟩

/-- A function without a body: the model's own answer. -/
theorem R_extern {f : FuncId} {xs : List Operand} {tys : Array TypeId} {args : List Value} {v : Value} (hx : xs.map (ev ρ) = args) (he : (callFunc f args.toArray).run P w = .ok (.value v) w) :
    Run P ρ ⟨dst, .call ⟨.value (.func f), xs.toArray, tys⟩, ty, pos, af, gd⟩ w v := by
  subst hx
  simp only [Run, execOp, resolve, Deferred.ofValue, ev, Sem.run_bind, Sem.run_pure, Result.andThen_ok, invoke, List.map_toArray, Array.append_empty, Array.empty_append]
  exact he

/-! ### Literals -/
theorem foldl_sets : ∀ (vs : List Value) (off j : Nat) (cells : Array Value), off + j + vs.length ≤ cells.size →
    ((vs.zipIdx j).foldl (fun cs (p : Value × Nat) => cs.setIfInBounds (off + p.2) p.1) cells).toList = cells.toList.take (off + j) ++ vs ++ cells.toList.drop (off + j + vs.length)
  | [], off, j, cells, _ => by simp
  | v :: vs, off, j, cells, h => by
    simp only [List.length_cons] at h
    rw [List.zipIdx_cons, List.foldl_cons, foldl_sets vs off (j + 1) _ (by simp; omega)]
    simp only [Array.toList_setIfInBounds, List.length_cons]
    have hlt : off + j < cells.toList.length := by simp; omega
    rw [List.set_eq_take_append_cons_drop, if_pos hlt]
    have h1 : (cells.toList.take (off + j)).length = off + j := by simp; omega
    rw [show off + (j + 1) = (cells.toList.take (off + j)).length + 1 by omega, List.take_length_add_append, List.take_succ_cons, List.take_zero]
    rw [show (cells.toList.take (off + j)).length + 1 + vs.length = (cells.toList.take (off + j)).length + (1 + vs.length) by omega, List.drop_length_add_append]
    rw [show 1 + vs.length = vs.length + 1 by omega, List.drop_succ_cons, List.drop_drop]
    simp [Nat.add_assoc, Nat.add_comm 1, Nat.add_left_comm]

theorem fill_enum (sz : Nat) : ∀ (vs : List Value) (k : Nat) (cells : Array Value), (∀ v ∈ vs, v.cells.size = sz) → (k + vs.length) * sz ≤ cells.size →
    ∃ r, Instr.fill (fun i => some (i * sz, sz)) cells ((vs.zipIdx k).map fun p => (p.2, p.1)) = some r ∧ r.size = cells.size ∧
      r.toList = cells.toList.take (k * sz) ++ vs.flatMap (fun v => v.cells.toList) ++ cells.toList.drop ((k + vs.length) * sz)
  | [], k, cells, _, _ => ⟨cells, rfl, rfl, by simp⟩
  | v :: vs, k, cells, hv, hl => by
    have h0 : v.cells.size = sz := hv v (by simp)
    have hle : k * sz + sz ≤ cells.size := by
      have : (k + 1) * sz ≤ (k + (v :: vs).length) * sz := Nat.mul_le_mul_right _ (by simp)
      rw [Nat.add_mul, Nat.one_mul] at this
      omega
    have hs := foldl_sets v.cells.toList (k * sz) 0 cells (by simp; omega)
    simp only [Nat.add_zero, Array.length_toList, h0] at hs
    have esz : ((v.cells.toList.zipIdx 0).foldl (fun cs (p : Value × Nat) => cs.setIfInBounds (k * sz + p.2) p.1) cells).size = cells.size := by
      rw [← Array.length_toList, hs]
      simp only [List.length_append, List.length_take, List.length_drop, Array.length_toList]
      omega
    have hf : v.cells.zipIdx.foldl (fun cs (p : Value × Nat) => cs.setIfInBounds (k * sz + p.2) p.1) cells = ((v.cells.toList.zipIdx 0).foldl (fun cs (p : Value × Nat) => cs.setIfInBounds (k * sz + p.2) p.1) cells) := by
      rw [← Array.foldl_toList]; simp
    obtain ⟨r, hr, hrs, hrl⟩ := fill_enum sz vs (k + 1) ((v.cells.toList.zipIdx 0).foldl (fun cs (p : Value × Nat) => cs.setIfInBounds (k * sz + p.2) p.1) cells) (fun u hu => hv u (by simp [hu])) (by
      rw [esz]; simp only [List.length_cons] at hl; rw [show k + 1 + vs.length = k + (vs.length + 1) by omega]; exact hl)
    refine ⟨r, ?_, ?_, ?_⟩
    · rw [List.zipIdx_cons, List.map_cons]
      simp only [Instr.fill]
      rw [if_neg (by simp; omega), hf]
      exact hr
    · rw [hrs, esz]
    · rw [hrl, hs]
      have h1 : (cells.toList.take (k * sz)).length = k * sz := by rw [List.length_take, Array.length_toList]; omega
      rw [List.flatMap_cons]
      have e1 : (k + 1) * sz = (cells.toList.take (k * sz) ++ v.cells.toList).length := by rw [List.length_append, h1, Array.length_toList, h0, Nat.add_mul]; omega
      rw [show List.take ((k + 1) * sz) (cells.toList.take (k * sz) ++ v.cells.toList ++ cells.toList.drop (k * sz + sz)) = cells.toList.take (k * sz) ++ v.cells.toList by
        rw [e1]; exact List.take_left]
      rw [show (k + 1 + vs.length) * sz = (cells.toList.take (k * sz) ++ v.cells.toList).length + vs.length * sz by rw [← e1]; rw [Nat.add_mul (k + 1)]]
      rw [List.drop_length_add_append, List.drop_drop]
      simp only [List.length_cons, List.append_assoc]
      have e2 : (k + (vs.length + 1)) * sz = k * sz + sz + vs.length * sz := by rw [Nat.add_mul, Nat.add_mul]; omega
      rw [e2]

theorem size_range_map {α : Type} (m : Nat) (f : Nat → α) : ((Array.range m).map f).size = m := by simp

/-- []T{x0, x1, ..} -/
theorem O_buildSlice {t e : TypeId} {xs : List Operand} {vs : List Value} {i : TypeInfo} {z : Value} {cs : Array Value} {len : Nat} (ht : P.underlying t = some (.slice e)) (hi : P.info? e = some i) (hz : i.zero = some z)
    (hlen : xs.length = len) (hx : xs.map (ev ρ) = vs) (hvs : (vs.all fun v => v.cells.size == i.size) = true) (hsm : Nat.ble (len * i.size) (2 ^ 24) = true) (hcs : (vs.flatMap fun v => v.cells.toList).toArray = cs)
    (h : ∀ b w', w.heap.size ≤ b → b < w'.heap.size → Same All w w' → Bx w' b e cs → K (updo ρ dst (.slice (some ⟨b, 0, none⟩) len len)) w') :
    OpW P ρ ⟨dst, .buildSlice t len ((xs.zipIdx.map fun p => (p.2, p.1)).toArray), ty, pos, af, gd⟩ w K := by
  subst hcs; subst hx; subst hlen
  have hvs' : ∀ v ∈ xs.map (ev ρ), v.cells.size = i.size := fun v hv => by simpa using (List.all_eq_true.1 hvs v hv)
  have hsm' : ¬ (xs.length * i.size > 2 ^ 24) := by have := Nat.le_of_ble_eq_true hsm; omega
  have hparts : (((xs.zipIdx.map fun p => (p.2, p.1)).toArray).map fun (i, x) => (i, ev ρ x)).toList = ((xs.map (ev ρ)).zipIdx 0).map fun p => (p.2, p.1) := by
    simp only [List.map_toArray, List.map_map]
    rw [List.zipIdx_map]
    simp only [List.map_map]
    rfl
  have hB : Bx (w.alloc (.cells ((xs.map (ev ρ)).flatMap fun v => v.cells.toList).toArray e)) w.heap.size e ((xs.map (ev ρ)).flatMap fun v => v.cells.toList).toArray := heap_alloc_new w _
  refine opW_value (w' := w.alloc (.cells ((xs.map (ev ρ)).flatMap fun v => v.cells.toList).toArray e)) (v := .slice (some ⟨w.heap.size, 0, none⟩) xs.length xs.length) ?_ (h _ _ (Nat.le_refl _) (by simp) (same_alloc _ _) hB)
  have key : ∀ (zs : Array Value), zs.size = xs.length * i.size → ∃ r, Instr.fill (fun j => some (j * i.size, i.size)) zs (((xs.map (ev ρ)).zipIdx 0).map fun p => (p.2, p.1)) = some r ∧ r = ((xs.map (ev ρ)).flatMap fun v => v.cells.toList).toArray := by
    intro zs hzs
    obtain ⟨r, hr, hrs, hrl⟩ := fill_enum i.size (xs.map (ev ρ)) 0 zs hvs' (by simp [hzs])
    refine ⟨r, hr, ?_⟩
    apply Array.ext'
    rw [hrl]
    have : zs.toList.length = xs.length * i.size := by simpa using hzs
    simp [← this]
  obtain ⟨r, hr, hre⟩ := key ((Array.range (xs.length * i.size)).map ((if xs.length * i.size = 0 then #[] else z.cells)[· % (if xs.length * i.size = 0 then (#[] : Array Value) else z.cells).size]!)) (size_range_map _ _)
  simp only [execOp, Instr.buildSlice, run_underlying ht, Go.sizeOf, typeInfo, run_program, hi, Sem.run_bind, Result.andThen_ok, Sem.run_pure, Sem.run_ite, if_neg hsm']
  by_cases h0 : xs.length * i.size = 0
  · simp only [h0, if_true, Sem.run_pure, Result.andThen_ok] at hr ⊢
    rw [hparts, hr]
    simp only [newRow, Sem.run_bind, run_newObj, Result.andThen_ok, Sem.run_pure, hre]
    rfl
  · simp only [h0, if_false, zeroValue, typeInfo, run_program, hi, hz, Sem.run_bind, Sem.run_pure, Result.andThen_ok] at hr ⊢
    rw [hparts, hr]
    simp only [newRow, Sem.run_bind, run_newObj, Result.andThen_ok, Sem.run_pure, hre]
    rfl

/-- T{f: x, ..}: the struct's cells, zero where nothing is said. -/
theorem R_build {t : TypeId} {ps : List (Nat × Operand)} {pv : List (Nat × Value)} {fs : Array Field} {pl : Array (Nat × Nat)} {i : TypeInfo} {z : Value} {cs : Array Value} (ht : P.underlying t = some (.struct fs)) (hi : P.info? t = some i) (hz : i.zero = some z)
    (hpl : ∀ w : World, (fs.mapM fun f => do pure (f.offset, ← Go.sizeOf f.type) : Sem (Array (Nat × Nat))).run P w = .ok pl w) (hp : ps.map (fun p => (p.1, ev ρ p.2)) = pv) (hf : Instr.fill (pl[·]?) z.cells pv = some cs) :
    Run P ρ ⟨dst, .build t ps.toArray, ty, pos, af, gd⟩ w (.agg cs) := by
  subst hp
  have e : ((ps.toArray.map fun (i, x) => (i, ev ρ x))).toList = ps.map (fun p => (p.1, ev ρ p.2)) := by simp
  simp only [Run, execOp, Instr.build, zeroValue, typeInfo, run_program, hi, hz, run_underlying ht, Sem.run_bind, Result.andThen_ok, Sem.run_pure, hpl, e, hf]

/-! ### append -/
/-- append(own, x...): the own row, longer. -/
theorem O_append {α : Type} {E : Enc α} {N : Nat → Prop} {t e : TypeId} {s x : Operand} {a a2 : Option Addr} {cap cap2 base : Nat} {l m : List α} {i : TypeInfo} {z : Value}
    (hs : ev ρ s = .slice a l.length cap) (hx : ev ρ x = .slice a2 m.length cap2) (ho : Ow E e base w a cap l) (hr : Rd E N w a2 m) (hnil : a2 = none → cap2 = 0)
    (hsp : ∀ p, a2 = some p → p.spot = none)
    (ht : P.underlying t = some (.slice e)) (hi : P.info? e = some i) (hz : i.zero = some z) (hsz : i.size = E.sz) (hzs : z.cells.size = E.sz) (hpos : 0 < E.sz)
    (hb : base ≤ w.heap.size) (h63 : l.length + m.length ≤ maxLen) (hby : (l.length + m.length) * i.bytes ≤ 140737488355328)
    (h : ∀ a' cap' w', Same (Off a) w w' → Ow E e base w' a' cap' (l ++ m) → K (updo ρ dst (.slice a' (l ++ m).length cap')) w') :
    OpW P ρ ⟨dst, .call ⟨.builtin .append, #[s, x], #[t, t]⟩, ty, pos, af, gd⟩ w K := by
  have hown : w.ownsRow base e E.sz (.slice a l.length cap) l.length (l.flatMap E.enc) := ho
  have hob : (Value.slice a l.length cap).ownBlock = a.map (·.block) := by cases a <;> rfl
  have fin : ∀ v' w', (Builtin.append_ #[t, t] ty #[.slice a l.length cap, .slice a2 m.length cap2]).run P w = .ok v' w' → w'.ownsRow base e E.sz v' (l.length + m.length) (l.flatMap E.enc ++ m.flatMap E.enc) →
      w.grownBy w' (Value.slice a l.length cap).ownBlock → OpW P ρ ⟨dst, .call ⟨.builtin .append, #[s, x], #[t, t]⟩, ty, pos, af, gd⟩ w K := by
    intro v' w' hr1 hr2 hr3
    have hshape : ∃ a' cap', v' = .slice a' (l ++ m).length cap' := by
      rcases hr2.2 with ⟨rfl, h0⟩ | ⟨g, c, cur, rfl, _⟩
      · exact ⟨none, 0, by rw [List.length_append, h0]⟩
      · exact ⟨_, _, by rw [List.length_append]⟩
    obtain ⟨a', cap', rfl⟩ := hshape
    refine opW_value (v := .slice a' (l ++ m).length cap') (w' := w') ?_ (h a' cap' w' ?_ ?_)
    · simp only [execOp, resolve, invoke, builtin, Sem.run_bind, Sem.run_pure, Result.andThen_ok, List.map_toArray, List.map_cons, List.map_nil, hs, hx, hr1]
    · rw [hob] at hr3
      exact Same.of_grown hr3
    · unfold Ow
      rw [List.flatMap_append, List.length_append]
      rw [List.length_append] at hr2
      exact hr2
  cases a2 with
  | none =>
    have hm : m = [] := by
      cases m with
      | nil => rfl
      | cons y m => exact absurd rfl (hr.some (i := 0) (by simp))
    subst hm
    have hc := hnil rfl
    subst hc
    have := run_append_owned_none (P := P) (w := w) base t ty e i E.sz ht hi (.slice a l.length cap) l.length (l.flatMap E.enc) hown
    refine fin _ w this ?_ ⟨rfl, rfl, rfl, Nat.le_refl _, fun _ _ _ => rfl⟩
    simpa using hown
  | some p =>
    obtain ⟨pb, po, psp⟩ := p
    have hp0 := hsp _ rfl
    simp only at hp0
    subst hp0
    obtain ⟨v', w', h1, h2, h3, _⟩ := run_append_own (P := P) w base t ty e i z E.sz i.bytes ht hi hz hsz rfl hzs hpos (.slice a l.length cap) l.length (l.flatMap E.enc) hown ⟨pb, po, none⟩ m.length cap2 (m.flatMap E.enc)
      (flatMap_len E m) (fun j u hu => by
        have hlt : j < m.length * E.sz := by have := (List.getElem?_eq_some_iff.1 hu).1; rwa [flatMap_len] at this
        have hk : j / E.sz < m.length := Nat.div_lt_of_lt_mul (by rw [Nat.mul_comm]; exact hlt)
        have hj : j = j / E.sz * E.sz + j % E.sz := by rw [Nat.mul_comm]; exact (Nat.div_add_mod j E.sz).symm
        have hmod : j % E.sz < E.sz := Nat.mod_lt _ hpos
        have hx := List.getElem?_eq_getElem hk
        rw [hj, flatMap_get E m _ _ _ hx hmod] at hu
        have := hr.at hx hu
        rw [add_plain]
        unfold ix at this
        simp only [Option.map_some, Option.getD_some] at this
        rw [← hj] at this
        exact this)
      (flatMap_one E m) h63 hby hb
    exact fin v' w' h1 h2 h3
end

/-! ### A region that draws its order -/
section
variable {P : Program} {n : Nat} {md : Region.Mode} {ops : Array Oper} {I : World → Prop} {K : Env → World → Prop} {ρ : Env} {w : World}

/-- 'wpAny', each world on the way one of a class. -/
def anyI (P : Program) (md : Region.Mode) (ops : Array Oper) (I : World → Prop) (Q : Exit → Act → World → Prop) : Nat → Array Bool → Act → World → Prop
  | 0, listed, a, w => Region.ready md ops listed = [] ∧ Q .normal a w
  | fuel + 1, listed, a, w =>
    (Region.ready md ops listed = [] → Q .normal a w) ∧
    ∀ i ∈ Region.ready md ops listed, wpOp P ops Q i (fun a' w' => I w' ∧ anyI P md ops I Q fuel (listed.setIfInBounds i true) a' w') a w

theorem anyI_any {Q : Exit → Act → World → Prop} : ∀ (fuel : Nat) (listed : Array Bool) (a : Act) (w : World), anyI P md ops I Q fuel listed a w → wpAny P md ops Q fuel listed a w
  | 0, _, _, _, h => h
  | fuel + 1, _, _, _, h => ⟨h.1, fun i hi => wpOp_mono (fun a w hh => anyI_any fuel _ a w hh.2) (h.2 i hi)⟩

/-- In every world of the class the operation is passed over, or hands back this value and leaves the world alone. -/
def YieldsI (P : Program) (ops : Array Oper) (I : World → Prop) (o : Oper) (v : Value) (a : Act) : Prop :=
  (Region.wanted o (yielded ops a.tmps) = true ∧ ∀ w, I w → (execOp a.eval o).run P w = .ok (.value v) w) ∨ (Region.wanted o (yielded ops a.tmps) = false ∧ v = undef)

theorem YieldsI.wpOp {i : Nat} {o : Oper} {v : Value} {a : Act} {K : Act → World → Prop} {Q : Exit → Act → World → Prop} (hi : ops[i]? = some o) (hw : I w) (hy : YieldsI P ops I o v a) (h : K (a.put o.dst v) w) : wpOp P ops Q i K a w := by
  unfold Go.wpOp
  simp only [hi]
  rcases hy with ⟨hwd, hv⟩ | ⟨hwd, rfl⟩
  · simp only [hwd, if_true, Oper.wp, hv w hw, Oper.upon]; exact .inl h
  · simp only [hwd, Bool.false_eq_true, if_false]; exact h

theorem YieldsI.other {oi oj : Oper} {v u : Value} {a : Act} (hsi : ∀ cs b, oi.op ≠ .select cs b) (h3 : ∀ d, oj.dst = some d → d ∉ oi.looksAt ops) (hy : YieldsI P ops I oi v a) : YieldsI P ops I oi v (a.put oj.dst u) := by
  unfold YieldsI at *
  rw [execOp_put oi hsi a oj.dst u h3, wanted_put oi a oj.dst u h3]
  exact hy

/-- Another operation, apart from this one, comes up first. -/
theorem wpOp_beside {j : Nat} {oi oj : Oper} {v : Value} {Q : Exit → Act → World → Prop} (hj : ops[j]? = some oj) (hap : oi.apart ops oj = true) (hsi : ∀ cs b, oi.op ≠ .select cs b) (hsj : ∀ cs b, oj.op ≠ .select cs b)
    (hnd : ∀ c, oj.op ≠ .defer c) (hQ : ∀ c a w, Q (.panic c) (a.put oi.dst v) w → Q (.panic c) a w) {K : Act → World → Prop} {a : Act} {w : World}
    (hy : YieldsI P ops I oi v a) (h : wpOp P ops Q j K (a.put oi.dst v) w) : wpOp P ops Q j (fun a' w' => YieldsI P ops I oi v a' ∧ K (a'.put oi.dst v) w') a w := by
  obtain ⟨h1, h2, h3⟩ := Oper.apart_spec hap
  have keep : ∀ u, YieldsI P ops I oi v (a.put oj.dst u) := fun u => hy.other hsi h3
  unfold Go.wpOp at *
  simp only [hj] at *
  rw [wanted_put oj a oi.dst v h1] at h
  by_cases hw : Region.wanted oj (yielded ops a.tmps) = true
  · rw [if_pos hw] at h ⊢
    rcases h with h | ⟨hasks, hlets⟩
    · refine .inl ?_
      unfold Oper.wp at *
      rw [execOp_put oj hsj a oi.dst v h1] at h
      generalize (execOp a.eval oj).run P w = r at *
      cases r with
      | halt x w' =>
        cases x <;> simp only [Oper.upon] at h ⊢
        exact hQ _ _ _ h
      | ok x w' =>
        cases x <;> simp only [Oper.upon] at h ⊢
        case value u => exact ⟨keep u, by rw [← Act.put_comm a v u h2]; exact h⟩
        case skip => exact ⟨keep undef, by rw [← Act.put_comm a v undef h2]; exact h⟩
        case defer d =>
          refine ⟨?_, ?_⟩
          · have hk := keep undef
            have e : ({ a with defers := d :: a.defers } : Act).put oj.dst undef = { (a.put oj.dst undef) with defers := d :: (a.put oj.dst undef).defers } := by cases oj.dst <;> rfl
            rw [e]
            exact hk
          · rw [← Act.put_comm _ v undef h2, ← Act.put_defers]
            exact h
        case enter f args =>
          refine Calls.mono h fun e w'' he => ?_
          cases e with
          | returned u => exact ⟨keep u, by rw [← Act.put_comm a v u h2]; exact he⟩
          | panicked c => exact hQ _ _ _ he
          | outgrown => exact he
        case row row args => exact Rows.mono h fun u w'' he => ⟨keep u, by rw [← Act.put_comm a v u h2]; exact he⟩
    · exact .inr ⟨by unfold Oper.asks at *; rw [execOp_put oj hsj a oi.dst v h1] at hasks; exact hasks, hlets⟩
  · rw [if_neg hw] at h ⊢
    exact ⟨keep undef, by rw [← Act.put_comm a v undef h2]; exact h⟩

/-- No select, no defer. -/
def plainOps (ops : Array Oper) : Bool := ops.all fun o => match o.op with | .select .. => false | .defer _ => false | _ => true
theorem plainOps_sel (h : plainOps ops = true) {j : Nat} {o : Oper} (ho : ops[j]? = some o) : (∀ cs b, o.op ≠ .select cs b) ∧ (∀ c, o.op ≠ .defer c) := by
  have := Array.all_eq_true_iff_forall_mem.1 h o (Array.mem_of_getElem? ho)
  constructor
  · intro cs b e; simp [e] at this
  · intro c e; simp [e] at this

/-- An operation that may come up now may be taken first, if in each world of the class it hands back one value, and all others wait for it or are apart from it. -/
theorem anyI_first {i : Nat} {oi : Oper} {v : Value} {Q : Exit → Act → World → Prop} (hi : ops[i]? = some oi) (hpl : plainOps ops = true) (hQ : ∀ c a w, Q (.panic c) (a.put oi.dst v) w → Q (.panic c) a w) :
    ∀ (fuel : Nat) (listed : Array Bool) (a : Act) (w : World), I w →
      (∀ j oj, ops[j]? = some oj → j ≠ i → listed.getD j true = false → (∀ e ∈ oj.after, Region.binds md e = true → e.on ≠ i) → oi.apart ops oj = true) →
      i ∈ Region.ready md ops listed → YieldsI P ops I oi v a →
      anyI P md ops I Q fuel (listed.setIfInBounds i true) (a.put oi.dst v) w → anyI P md ops I Q (fuel + 1) listed a w := by
  intro fuel
  induction fuel with
  | zero =>
    intro listed a w hw _ hr hy H
    refine ⟨fun h => (by rw [h] at hr; cases hr), fun j hj => ?_⟩
    by_cases hji : j = i
    · subst hji; exact hy.wpOp hi hw ⟨hw, H⟩
    · have := ready_mono hj hji
      rw [H.1] at this
      cases this
  | succ fuel ih =>
    intro listed a w hw hfree hr hy H
    refine ⟨fun h => (by rw [h] at hr; cases hr), fun j hj => ?_⟩
    by_cases hji : j = i
    · subst hji; exact hy.wpOp hi hw ⟨hw, H⟩
    · have h1 := H.2 j (ready_mono hj hji)
      obtain ⟨hjun, oj, hoj, hall⟩ := mem_ready.1 hj
      have hnot : ∀ e ∈ oj.after, Region.binds md e = true → e.on ≠ i := fun e he hb heq => by
        have h1 := hall e he hb
        have h0 := (mem_ready.1 hr).1
        rw [heq] at h1
        rcases Nat.lt_or_ge i listed.size with h' | h'
        · simp [h'] at h0 h1; rw [h0] at h1; cases h1
        · simp [Array.getElem?_eq_none h'] at h1
      have h2 := wpOp_beside hoj (hfree j oj hoj hji hjun hnot) (plainOps_sel hpl hi).1 (plainOps_sel hpl hoj).1 (plainOps_sel hpl hoj).2 hQ hy h1
      have hfree' : ∀ k ok, ops[k]? = some ok → k ≠ i → (listed.setIfInBounds j true).getD k true = false →
          (∀ e ∈ ok.after, Region.binds md e = true → e.on ≠ i) → oi.apart ops ok = true := fun k ok hk hki hun hno => by
        refine hfree k ok hk hki ?_ hno
        by_cases hjk : j = k
        · subst hjk; exact hjun
        · rw [getD_set_ne true hjk] at hun; exact hun
      refine wpOp_mono (fun a' w' h3 => ⟨h3.2.1, ih (listed.setIfInBounds j true) a' w' h3.2.1 hfree' (ready_mono hr (Ne.symm hji)) h3.1 ?_⟩) h2
      rw [Array.setIfInBounds_comm _ _ hji]
      exact h3.2.2

/-- A region that draws, over frames that are functions: what is left of it. -/
def anyL (P : Program) (n : Nat) (ops : Array Oper) (I : World → Prop) (K : Env → World → Prop) (fuel : Nat) (listed : Array Bool) (ρ : Env) (w : World) : Prop :=
  I w ∧ ∀ a, Rep n a ρ → anyI P .any ops I (fun e a w => ∃ ρ, Rep n a ρ ∧ e = .normal ∧ K ρ w) fuel listed a w

theorem W_draw {id : Nat} {l : List Oper} {Q : Post} (I : World → Prop) (hm : P.follows .mixedOrders = true) (h : anyL P n l.toArray I (Q .normal) l.length (Array.replicate l.length false) ρ w.drew) : WC P n (.region id l.toArray true) Q ρ w := by
  intro a ha
  refine wp_region_any hm ?_
  have h1 := anyI_any _ _ _ _ (h.2 a ha)
  simp only [List.size_toArray]
  have mono : ∀ (fuel : Nat) (listed : Array Bool) (a : Act) (w : World), wpAny P .any l.toArray (fun e a w => ∃ ρ, Rep n a ρ ∧ e = .normal ∧ Q .normal ρ w) fuel listed a w → wpAny P .any l.toArray (lift n Q) fuel listed a w := by
    intro fuel
    induction fuel with
    | zero => rintro listed a w ⟨h0, ρ, hr, _, hq⟩; exact ⟨h0, ρ, hr, hq⟩
    | succ fuel ih =>
      rintro listed a w ⟨h0, hall⟩
      refine ⟨fun hr => by obtain ⟨ρ, hr, _, hq⟩ := h0 hr; exact ⟨ρ, hr, hq⟩, fun i hi => ?_⟩
      have h2 := hall i hi
      unfold Go.wpOp at *
      split
      · rename_i ho; simp only [ho] at h2; exact ih _ _ _ h2
      · rename_i o ho
        simp only [ho] at h2
        split
        · rename_i hw
          rw [if_pos hw] at h2
          rcases h2 with h2 | ⟨_, a0, w0, ρ, _, he, _⟩
          · refine .inl ?_
            unfold Oper.wp at *
            generalize (execOp a.eval o).run P w = r at *
            cases r with
            | halt x w' =>
              cases x <;> simp only [Oper.upon] at h2 ⊢
              obtain ⟨ρ, _, he, _⟩ := h2; cases he
            | ok x w' =>
              cases x <;> simp only [Oper.upon] at h2 ⊢ <;> first
                | exact ih _ _ _ h2
                | (refine Calls.mono h2 fun e w'' he => ?_
                   cases e with
                   | returned u => exact ih _ _ _ he
                   | panicked c => obtain ⟨ρ, _, he, _⟩ := he; cases he
                   | outgrown => obtain ⟨a0, w0, ρ, _, he, _⟩ := he; cases he)
                | exact Rows.mono h2 fun u w'' he => ih _ _ _ he
          · cases he
        · rename_i hw
          rw [if_neg hw] at h2
          exact ih _ _ _ h2
  exact mono _ _ _ _ h1

theorem A_done {fuel : Nat} {listed : Array Bool} (hr : Region.ready .any ops listed = []) (hw : I w) (h : K ρ w) : anyL P n ops I K fuel listed ρ w := by
  refine ⟨hw, fun a ha => ?_⟩
  cases fuel with
  | zero => exact ⟨hr, ρ, ha, rfl, h⟩
  | succ f => exact ⟨fun _ => ⟨ρ, ha, rfl, h⟩, by rw [hr]; simp⟩

/-- All that is asked of the region's text to take operation i first. -/
def mayTake (n : Nat) (ops : Array Oper) (listed : Array Bool) (i : Nat) : Bool :=
  plainOps ops && Region.free .any ops listed i && (Region.ready .any ops listed).contains i && (match ops[i]? with | some o => dstIn n o | none => false)

theorem A_take {i d : Nat} {op : Op} {ty : TypeId} {pos : String} {af : Array Edge} {v : Value} {fuel : Nat} {listed : Array Bool} (hm : mayTake n ops listed i = true) (hi : ops[i]? = some ⟨some d, op, ty, pos, af, none⟩)
    (hr : ∀ w', I w' → Run P ρ ⟨some d, op, ty, pos, af, none⟩ w' v) (h : anyL P n ops I K fuel (listed.setIfInBounds i true) (upd ρ d v) w) : anyL P n ops I K (fuel + 1) listed ρ w := by
  simp only [mayTake, Bool.and_eq_true, hi] at hm
  obtain ⟨⟨⟨hpl, hf⟩, hrd⟩, hd⟩ := hm
  refine ⟨h.1, fun a ha => ?_⟩
  refine anyI_first hi hpl (by rintro c a w ⟨ρ, _, he, _⟩; cases he) fuel listed a w h.1 (Region.free_spec hi hf) (by simpa using hrd) (.inl ⟨by simp [Region.wanted], fun w' hw' => ?_⟩) (h.2 _ (ha.put (dstIn_spec hd d rfl)))
  rw [ha.eval]; exact hr w' hw'

/-- .. of a guarded one whose guard says yes, and no. -/
theorem A_takeYes {i j d e : Nat} {want : Bool} {op : Op} {ty : TypeId} {pos : String} {af : Array Edge} {v : Value} {fuel : Nat} {listed : Array Bool} (hm : mayTake n ops listed i = true) (hi : ops[i]? = some ⟨some d, op, ty, pos, af, some (j, want)⟩)
    (hj : dstOf ops j = some e) (hn : Nat.blt e n = true) (hv : ρ e = .bool want)
    (hr : ∀ w', I w' → Run P ρ ⟨some d, op, ty, pos, af, some (j, want)⟩ w' v) (h : anyL P n ops I K fuel (listed.setIfInBounds i true) (upd ρ d v) w) : anyL P n ops I K (fuel + 1) listed ρ w := by
  simp only [mayTake, Bool.and_eq_true, hi] at hm
  obtain ⟨⟨⟨hpl, hf⟩, hrd⟩, hd⟩ := hm
  refine ⟨h.1, fun a ha => ?_⟩
  refine anyI_first hi hpl (by rintro c a w ⟨ρ, _, he, _⟩; cases he) fuel listed a w h.1 (Region.free_spec hi hf) (by simpa using hrd) (.inl ⟨by simp [Region.wanted, yielded_of ha hj hn hv], fun w' hw' => ?_⟩) (h.2 _ (ha.put (dstIn_spec hd d rfl)))
  rw [ha.eval]; exact hr w' hw'
theorem A_takeNo {i j d e : Nat} {want : Bool} {op : Op} {ty : TypeId} {pos : String} {af : Array Edge} {fuel : Nat} {listed : Array Bool} (hm : mayTake n ops listed i = true) (hi : ops[i]? = some ⟨some d, op, ty, pos, af, some (j, want)⟩)
    (hj : dstOf ops j = some e) (hn : Nat.blt e n = true) (hv : ρ e = .bool (!want))
    (h : anyL P n ops I K fuel (listed.setIfInBounds i true) (upd ρ d undef) w) : anyL P n ops I K (fuel + 1) listed ρ w := by
  simp only [mayTake, Bool.and_eq_true, hi] at hm
  obtain ⟨⟨⟨hpl, hf⟩, hrd⟩, hd⟩ := hm
  refine ⟨h.1, fun a ha => ?_⟩
  refine anyI_first hi hpl (by rintro c a w ⟨ρ, _, he, _⟩; cases he) fuel listed a w h.1 (Region.free_spec hi hf) (by simpa using hrd) (.inr ⟨by simp [Region.wanted, yielded_of ha hj hn hv], rfl⟩) (h.2 _ (ha.put (dstIn_spec hd d rfl)))

/-- One operation alone may come up now, or several: each is gone through. -/
def allI (P : Program) (n : Nat) (ops : Array Oper) (I : World → Prop) (K : Env → World → Prop) (fuel : Nat) (listed : Array Bool) (ρ : Env) (w : World) : List Nat → Prop
  | [] => True
  | i :: rest => (match ops[i]? with
      | none => False
      | some o => dstIn n o = true ∧ ((o.guard = none ∧ OpW P ρ o w (fun ρ' w' => anyL P n ops I K fuel (listed.setIfInBounds i true) ρ' w')) ∨
          ∃ j e want, o.guard = some (j, want) ∧ dstOf ops j = some e ∧ Nat.blt e n = true ∧ ρ e = .bool want ∧ OpW P ρ o w (fun ρ' w' => anyL P n ops I K fuel (listed.setIfInBounds i true) ρ' w'))) ∧ allI P n ops I K fuel listed ρ w rest

theorem allI_mem {fuel : Nat} {listed : Array Bool} : ∀ {rs : List Nat}, allI P n ops I K fuel listed ρ w rs → ∀ i ∈ rs, allI P n ops I K fuel listed ρ w [i]
  | r :: rs, h, i, hi => by
    rcases List.mem_cons.1 hi with e | hi
    · subst e; exact ⟨h.1, trivial⟩
    · exact allI_mem h.2 i hi

theorem A_all {rs : List Nat} {fuel : Nat} {listed : Array Bool} (hr : Region.ready .any ops listed = rs) (hne : rs.isEmpty = false) (hw : I w) (h : allI P n ops I K fuel listed ρ w rs) : anyL P n ops I K (fuel + 1) listed ρ w := by
  refine ⟨hw, fun a ha => ⟨fun h0 => by rw [hr] at h0; simp [h0] at hne, fun i hi => ?_⟩⟩
  rw [hr] at hi
  have h1 := (allI_mem h i hi).1
  unfold Go.wpOp
  cases ho : ops[i]? with
  | none => simp only [ho] at h1
  | some o =>
    simp only [ho] at h1 ⊢
    obtain ⟨hd, h1⟩ := h1
    rcases h1 with ⟨hg, h1⟩ | ⟨j, e, want, hg, hj, hn, hv, h1⟩
    · rw [if_pos (by simp [Region.wanted, hg])]
      exact .inl (h1.wp ha (dstIn_spec hd) fun a ρ w hr hk => ⟨hk.1, hk.2 a hr⟩)
    · rw [if_pos (by simp [Region.wanted, hg, yielded_of ha hj hn hv])]
      exact .inl (h1.wp ha (dstIn_spec hd) fun a ρ w hr hk => ⟨hk.1, hk.2 a hr⟩)

theorem allI_nil {fuel : Nat} {listed : Array Bool} : allI P n ops I K fuel listed ρ w [] := trivial
theorem allI_cons {i : Nat} {o : Oper} {rest : List Nat} {fuel : Nat} {listed : Array Bool} (hi : ops[i]? = some o) (hd : dstIn n o = true) (hg : o.guard = none)
    (h : OpW P ρ o w (fun ρ' w' => anyL P n ops I K fuel (listed.setIfInBounds i true) ρ' w')) (hr : allI P n ops I K fuel listed ρ w rest) : allI P n ops I K fuel listed ρ w (i :: rest) :=
  ⟨by simp only [hi]; exact ⟨hd, .inl ⟨hg, h⟩⟩, hr⟩
theorem A_one {i : Nat} {o : Oper} {fuel : Nat} {listed : Array Bool} (hr : Region.ready .any ops listed = [i]) (hi : ops[i]? = some o) (hg : o.guard = none) (hd : dstIn n o = true) (hw : I w)
    (h : OpW P ρ o w (fun ρ' w' => anyL P n ops I K fuel (listed.setIfInBounds i true) ρ' w')) : anyL P n ops I K (fuel + 1) listed ρ w :=
  A_all hr rfl hw ⟨by simp only [hi]; exact ⟨hd, .inl ⟨hg, h⟩⟩, trivial⟩
theorem A_oneYes {i j e : Nat} {want : Bool} {o : Oper} {fuel : Nat} {listed : Array Bool} (hr : Region.ready .any ops listed = [i]) (hi : ops[i]? = some o) (hg : o.guard = some (j, want)) (hd : dstIn n o = true) (hw : I w)
    (hj : dstOf ops j = some e) (hn : Nat.blt e n = true) (hv : ρ e = .bool want)
    (h : OpW P ρ o w (fun ρ' w' => anyL P n ops I K fuel (listed.setIfInBounds i true) ρ' w')) : anyL P n ops I K (fuel + 1) listed ρ w :=
  A_all hr rfl hw ⟨by simp only [hi]; exact ⟨hd, .inr ⟨j, e, want, hg, hj, hn, hv, h⟩⟩, trivial⟩
end
end Gx
