/-
  The base of this seat's walks: frames as functions from slots to values, and rules that walk a function's code over them.
-/
import Derived.Calls
import Derived.Orders
import Derived.Tactics
import Derived.KernelRfl
namespace Gx
open Go

/-- A frame as a function: which value a slot holds. -/
abbrev Env := Nat → Value

def upd (ρ : Env) (d : Nat) (v : Value) : Env := fun t => bif Nat.beq t d then v else ρ t

theorem upd_same (ρ : Env) (d : Nat) (v : Value) : upd ρ d v d = v := by
  have : Nat.beq d d = true := Nat.beq_refl d
  simp [upd]

theorem upd_ne {ρ : Env} {d t : Nat} {v : Value} (h : t ≠ d) : upd ρ d v t = ρ t := by
  have : Nat.beq t d = false := by
    cases e : Nat.beq t d with
    | false => rfl
    | true => exact absurd (Nat.eq_of_beq_eq_true e) h
  simp [upd, this]

/-- What an operand stands for. -/
def ev (ρ : Env) : Operand → Value
  | .tmp t => ρ t
  | .const v => v
  | .global g => .pointer (some ⟨g, 0, none⟩)
  | .func f => .func (.func f) #[] #[]

/-- The frame's n slots hold what the function says; nothing is deferred. -/
structure Rep (n : Nat) (a : Act) (ρ : Env) : Prop where
  size : a.tmps.size = n
  defers : a.defers = []
  val : ∀ t, t < n → a.tmps[t]? = some (ρ t)
  out : ∀ t, n ≤ t → ρ t = undef

theorem Rep.getD {n : Nat} {a : Act} {ρ : Env} (h : Rep n a ρ) (t : Nat) : a.tmps.getD t undef = ρ t := by
  by_cases ht : t < n
  · have := h.val t ht
    simp [Array.getD_eq_getD_getElem?, this]
  · have h1 : a.tmps[t]? = none := by
      rw [Array.getElem?_eq_none]; have := h.size; omega
    simp [Array.getD_eq_getD_getElem?, h1, h.out t (by omega)]

theorem Rep.eval {n : Nat} {a : Act} {ρ : Env} (h : Rep n a ρ) : a.eval = ev ρ := by
  funext x
  cases x with
  | tmp t => exact h.getD t
  | const v => rfl
  | global g => rfl
  | func f => rfl

theorem Rep.put {n d : Nat} {a : Act} {ρ : Env} {v : Value} (h : Rep n a ρ) (hd : d < n) : Rep n (a.put (some d) v) (upd ρ d v) := by
  refine ⟨by simp [Act.put, h.size], h.defers, fun t ht => ?_, fun t ht => ?_⟩
  · by_cases e : t = d
    · subst e
      have : t < a.tmps.size := by rw [h.size]; exact ht
      rw [upd_same]
      simp [Act.put, this]
    · rw [upd_ne e]
      have hne : d ≠ t := fun x => e x.symm
      simp only [Act.put]
      rw [Array.getElem?_setIfInBounds_ne hne]
      exact h.val t ht
  · have e : t ≠ d := by omega
    rw [upd_ne e]
    exact h.out t ht

theorem put_none (a : Act) (v : Value) : a.put none v = a := rfl

/-- The frame behind an operation that writes slot 'd' (or none). -/
def updo (ρ : Env) : Option Nat → Value → Env
  | some d, v => upd ρ d v
  | none, _ => ρ

theorem Rep.puto {n : Nat} {d : Option Nat} {a : Act} {ρ : Env} {v : Value} (h : Rep n a ρ) (hd : ∀ k, d = some k → k < n) : Rep n (a.put d v) (updo ρ d v) := by
  cases d with
  | none => exact h
  | some k => exact h.put (hd k rfl)

/-- The frame at a call's begin. -/
def start (args : List Value) : Env := fun t => args.getD t undef

theorem rep_start (args : List Value) (n : Nat) (h : args.length ≤ n) :
    Rep n { tmps := args.toArray ++ Array.replicate (n - args.length) undef, defers := [] } (start args) := by
  refine ⟨by simp; omega, rfl, fun t ht => ?_, fun t ht => ?_⟩
  · unfold start
    by_cases e : t < args.length
    · rw [Array.getElem?_append_left (by simpa using e)]
      simp [List.getD_eq_getElem?_getD, e]
    · rw [Array.getElem?_append_right (by simpa using Nat.le_of_not_lt e)]
      rw [Array.getElem?_replicate, if_pos (by simp; omega)]
      simp [List.getD_eq_getElem?_getD, List.getElem?_eq_none (Nat.le_of_not_lt e)]
  · unfold start
    simp [List.getD_eq_getElem?_getD, List.getElem?_eq_none (show args.length ≤ t by omega)]

abbrev Post := Exit → Env → World → Prop

/-- The post of a code over frames that are functions. -/
def lift (n : Nat) (Q : Post) : Exit → Act → World → Prop := fun e a w => ∃ ρ, Rep n a ρ ∧ Q e ρ w

/-- From a frame 'ρ' and a world 'w' the code comes to an exit that 'Q' holds of. -/
def WC (P : Program) (n : Nat) (c : Code) (Q : Post) (ρ : Env) (w : World) : Prop :=
  ∀ a, Rep n a ρ → c.wp P (lift n Q) a w

section rules
variable {P : Program} {n : Nat} {Q : Post} {ρ : Env} {w : World}

theorem WC.mono {c : Code} {Q' : Post} (h : WC P n c Q ρ w) (hq : ∀ e ρ w, Q e ρ w → Q' e ρ w) : WC P n c Q' ρ w :=
  fun a ha => wp_mono (h a ha) fun e _ w' ⟨ρ', hr, hQ⟩ => ⟨ρ', hr, hq e ρ' w' hQ⟩

theorem W_skip (h : Q .normal ρ w) : WC P n .skip Q ρ w := fun _ ha => wp_skip ⟨ρ, ha, h⟩
theorem W_ret (h : Q .ret ρ w) : WC P n .ret Q ρ w := fun _ ha => wp_ret ⟨ρ, ha, h⟩
theorem W_exit {id : Nat} (h : Q (.exit id) ρ w) : WC P n (.exit id) Q ρ w := fun _ ha => wp_exit ⟨ρ, ha, h⟩

/-- What follows a code: on its normal end the next thing; on all others the post. -/
def thn (K : Env → World → Prop) (Q : Post) : Post
  | .normal, ρ, w => K ρ w
  | e, ρ, w => Q e ρ w

theorem W_seq {x y : Code} (h : ∀ K : Env → World → Prop, (∀ ρ w, WC P n y Q ρ w → K ρ w) → WC P n x (thn K Q) ρ w) : WC P n (.seq x y) Q ρ w := by
  intro a ha
  refine wp_seq (wp_mono (h (fun ρ w => WC P n y Q ρ w) (fun _ _ h => h) a ha) ?_)
  rintro e a' w' ⟨ρ', hr, hq⟩
  cases e with
  | normal => exact hq a' hr
  | exit id => exact ⟨ρ', hr, hq⟩
  | goto l => exact ⟨ρ', hr, hq⟩
  | ret => exact ⟨ρ', hr, hq⟩
  | panic c => exact ⟨ρ', hr, hq⟩
  | outgrown => exact ⟨ρ', hr, hq⟩

theorem T_normal {K : Env → World → Prop} (h : K ρ w) : thn K Q .normal ρ w := h
theorem T_ret {K : Env → World → Prop} (h : Q .ret ρ w) : thn K Q .ret ρ w := h
theorem T_exit {K : Env → World → Prop} {id : Nat} (h : Q (.exit id) ρ w) : thn K Q (.exit id) ρ w := h

theorem W_cond {c : Operand} {x y : Code} (b : Bool) (hc : ev ρ c = .bool b) (ht : b = true → WC P n x Q ρ w) (hf : b = false → WC P n y Q ρ w) : WC P n (.cond c x y) Q ρ w := by
  intro a ha
  refine wp_cond_split (t := b) (by rw [ha.eval]; exact hc) (fun e => ht e a ha) (fun e => hf e a ha)

/-- A block: an exit out of it is its normal end. -/
def blk (id : Nat) (Q : Post) : Post
  | .exit k, ρ, w => if k = id then Q .normal ρ w else Q (.exit k) ρ w
  | e, ρ, w => Q e ρ w

theorem W_block {id : Nat} {c : Code} (h : WC P n c (blk id Q) ρ w) : WC P n (.block id c) Q ρ w := by
  intro a ha
  refine wp_block (wp_mono (h a ha) ?_)
  rintro e a' w' ⟨ρ', hr, hq⟩
  cases e with
  | exit k =>
    simp only [Exit.inBlock]
    simp only [blk] at hq
    by_cases e : k = id
    · rw [if_pos e] at hq ⊢; exact ⟨ρ', hr, hq⟩
    · rw [if_neg e] at hq ⊢; exact ⟨ρ', hr, hq⟩
  | normal => exact ⟨ρ', hr, hq⟩
  | goto l => exact ⟨ρ', hr, hq⟩
  | ret => exact ⟨ρ', hr, hq⟩
  | panic c => exact ⟨ρ', hr, hq⟩
  | outgrown => exact ⟨ρ', hr, hq⟩

theorem B_hit {id : Nat} (h : Q .normal ρ w) : blk id Q (.exit id) ρ w := by simp only [blk, if_true]; exact h
theorem B_miss {id k : Nat} (hk : (k == id) = false) (h : Q (.exit k) ρ w) : blk id Q (.exit k) ρ w := by
  have : ¬ k = id := by simpa using hk
  simp only [blk, if_neg this]; exact h
theorem B_normal {id : Nat} (h : Q .normal ρ w) : blk id Q .normal ρ w := h
theorem B_ret {id : Nat} (h : Q .ret ρ w) : blk id Q .ret ρ w := h

/-- The frame 'ρ', but at the slots of M the frame 'j'. -/
def over (M : List Nat) (ρ j : Env) : Env := fun t => bif M.elem t then j t else ρ t

def upds : List (Nat × Value) → Env → Env
  | [], ρ => ρ
  | (d, v) :: l, ρ => upd (upds l ρ) d v

/-- The frame holds these values. -/
def Holds (ρ : Env) : List (Nat × Value) → Prop
  | [] => True
  | (d, v) :: l => ρ d = v ∧ Holds ρ l

theorem upds_self {ρ : Env} : ∀ {l : List (Nat × Value)}, Holds ρ l → upds l ρ = ρ
  | [], _ => rfl
  | (d, v) :: l, ⟨h, hl⟩ => by
    simp only [upds, upds_self hl]
    funext t
    by_cases e : t = d
    · subst e; rw [upd_same, h]
    · rw [upd_ne e]

theorem over_self (M : List Nat) (ρ : Env) : over M ρ ρ = ρ := by
  funext t; simp only [over]; cases M.elem t <;> rfl

/-- Two frames differ at the slots of M at most. -/
def Agree (M : List Nat) (ρ' ρ : Env) : Prop := ∀ t, M.elem t = false → ρ' t = ρ t

theorem Agree.refl (M : List Nat) (ρ : Env) : Agree M ρ ρ := fun _ _ => rfl
theorem Agree.upd {M : List Nat} {ρ' ρ : Env} {d : Nat} {v : Value} (hd : M.elem d = true) (h : Agree M ρ' ρ) : Agree M (upd ρ' d v) ρ := fun t ht => by
  have e : t ≠ d := fun e => by rw [e, hd] at ht; cases ht
  rw [upd_ne e]; exact h t ht
theorem Agree.over {M : List Nat} {ρ j : Env} : Agree M (over M ρ j) ρ := fun t ht => by simp only [Gx.over, ht]; rfl
theorem Agree.over' {M M' : List Nat} {ρ ρ' j : Env} (hM : ∀ t, M'.elem t = true → M.elem t = true) (h : Agree M ρ' ρ) : Agree M (Gx.over M' ρ' j) ρ := fun t ht => by
  have : M'.elem t = false := by
    cases e : M'.elem t with
    | false => rfl
    | true => rw [hM t e] at ht; cases ht
  simp only [Gx.over, this]; exact h t ht
theorem Agree.upds {M : List Nat} {ρ' ρ : Env} : ∀ {l : List (Nat × Value)}, (l.all fun p => M.elem p.1) = true → Agree M ρ' ρ → Agree M (upds l ρ') ρ
  | [], _, h => h
  | (d, v) :: l, hl, h => by
    simp only [List.all_cons, Bool.and_eq_true] at hl
    exact (Agree.upds hl.2 h).upd hl.1

theorem Agree.eq {M : List Nat} {ρ' ρ : Env} (h : Agree M ρ' ρ) : Gx.over M ρ ρ' = ρ' := by
  funext t
  simp only [Gx.over]
  cases e : M.elem t with
  | true => rfl
  | false => exact (h t e).symm

/-- Where ways meet, and at a loop's head: the frame is 'ρ' but for the slots of M; of these, what 'vals' tells of a state 'g'. -/
def At {G : Type} (M : List Nat) (vals : G → List (Nat × Value)) (J : G → World → Prop) (ρ0 : Env) (ρ : Env) (w : World) : Prop :=
  ∃ g j, ρ = upds (vals g) (over M ρ0 j) ∧ J g w

theorem At.mk {G : Type} {M : List Nat} {vals : G → List (Nat × Value)} {J : G → World → Prop} {ρ0 ρ : Env} {w : World} (g : G)
    (hA : Agree M ρ ρ0) (hv : Holds ρ (vals g)) (hJ : J g w) : At M vals J ρ0 ρ w :=
  ⟨g, ρ, by rw [hA.eq, upds_self hv], hJ⟩

/-- A loop, with a state of type G at each head, and a measure of the state. -/
theorem wp_loopG {G : Type} {c : Code} {Q : Exit → Act → World → Prop} {a : Act} (I : G → Act → World → Prop) (μ : G → Nat) (g0 : G) (h0 : I g0 a w)
    (round : ∀ g a w, I g a w → c.wp P (Exit.then (fun a' w' => ∃ g', I g' a' w' ∧ μ g' < μ g) Q) a w) : (Code.loop c).wp P Q a w := by
  intro b k cs
  have key : ∀ m g a w, μ g = m → I g a w →
      ∃ e a' w', Q e a' w' ∧ Arrives P (lone (b.at a (.code c :: .inLoop c :: k)) cs w) b k cs e a' w' := by
    intro m
    induction m using Nat.strongRecOn with
    | _ m ih =>
      intro g a w hm hI
      obtain ⟨e, a₁, w₁, hq, harr⟩ := round g a w hI b (.inLoop c :: k) cs
      have out : ∀ {e}, e ≠ .normal → Q e a₁ w₁ → Arrives P (lone (b.at a (.code c :: .inLoop c :: k)) cs w) b (.inLoop c :: k) cs e a₁ w₁ →
          ∃ e a' w', Q e a' w' ∧ Arrives P (lone (b.at a (.code c :: .inLoop c :: k)) cs w) b k cs e a' w' :=
        fun {e} he hq harr => ⟨e, a₁, w₁, hq, .pass (x := .inLoop c) rfl (fun _ _ => .inl he) harr⟩
      cases e with
      | normal =>
        obtain ⟨g', hI₁, hlt⟩ := hq
        obtain ⟨e₂, a₂, w₂, hq₂, harr₂⟩ := ih (μ g') (hm ▸ hlt) g' a₁ w₁ rfl hI₁
        exact ⟨e₂, a₂, w₂, hq₂, .of_steps (Steps.trans harr (.one step_inLoop)) harr₂⟩
      | exit id => exact out (by simp) hq harr
      | goto l => exact out (by simp) hq harr
      | ret => exact out (by simp) hq harr
      | panic ch => exact out (by simp) hq harr
      | outgrown => exact out (by simp) hq harr
  obtain ⟨e, a', w', hq, harr⟩ := key _ g0 a w rfl h0
  exact ⟨e, a', w', hq, .of_steps (.one step_loop) harr⟩

/-- A loop: a state of type G at each head. -/
theorem W_loop {G : Type} {c : Code} (M : List Nat) (vals : G → List (Nat × Value)) (J : G → World → Prop) (μ : G → Nat) (g0 : G)
    (hv : Holds ρ (vals g0)) (h0 : J g0 w)
    (round : ∀ g j w, J g w → WC P n c (thn (At M vals (fun g' w' => J g' w' ∧ μ g' < μ g) ρ) Q) (upds (vals g) (over M ρ j)) w) : WC P n (.loop c) Q ρ w := by
  intro a ha
  refine wp_loopG (fun g a w => ∃ j, Rep n a (upds (vals g) (over M ρ j)) ∧ J g w) μ g0 ⟨ρ, by rw [over_self, upds_self hv]; exact ha, h0⟩ ?_
  rintro g a w ⟨j, hr, hJ⟩
  refine wp_mono (round g j w hJ a hr) ?_
  rintro e a' w' ⟨ρ', hr', hq⟩
  cases e with
  | normal => obtain ⟨g', j', rfl, hJ', hlt⟩ := hq; exact ⟨g', ⟨j', hr', hJ'⟩, hlt⟩
  | exit id => exact ⟨ρ', hr', hq⟩
  | goto l => exact ⟨ρ', hr', hq⟩
  | ret => exact ⟨ρ', hr', hq⟩
  | panic c => exact ⟨ρ', hr', hq⟩
  | outgrown => exact ⟨ρ', hr', hq⟩

/-- Ways that meet: what holds where they meet, then what follows, once. -/
theorem W_meet {G : Type} {x y : Code} (M : List Nat) (vals : G → List (Nat × Value)) (J : G → World → Prop)
    (hx : WC P n x (thn (At M vals J ρ) Q) ρ w)
    (hy : ∀ g j w, J g w → WC P n y Q (upds (vals g) (over M ρ j)) w) : WC P n (.seq x y) Q ρ w := by
  refine W_seq fun K hK => hx.mono ?_
  intro e ρ' w' h
  cases e with
  | normal => obtain ⟨g, j, rfl, hJ⟩ := h; exact hK _ _ (hy g j w' hJ)
  | exit id => exact h
  | goto l => exact h
  | ret => exact h
  | panic c => exact h
  | outgrown => exact h

/-! ### One operation -/

/-- The operation hands back 'v' and leaves the world alone. -/
def Run (P : Program) (ρ : Env) (o : Oper) (w : World) (v : Value) : Prop := (execOp (ev ρ) o).run P w = .ok (.value v) w

/-- The operation comes to a frame and a world that K holds of. -/
def OpW (P : Program) (ρ : Env) (o : Oper) (w : World) (K : Env → World → Prop) : Prop :=
  match (execOp (ev ρ) o).run P w with
  | .ok (.value v) w' => K (updo ρ o.dst v) w'
  | .ok .skip w' => K (updo ρ o.dst undef) w'
  | .ok (.enter f args) w' => Calls P f args w' (fun e w'' => ∃ v, e = .returned v ∧ K (updo ρ o.dst v) w'')
  | _ => False

theorem OpW.mono {o : Oper} {K K' : Env → World → Prop} (h : OpW P ρ o w K) (hk : ∀ ρ w, K ρ w → K' ρ w) : OpW P ρ o w K' := by
  unfold OpW at *
  generalize (execOp (ev ρ) o).run P w = r at *
  cases r with
  | halt x w' => exact h
  | ok x w' =>
    cases x with
    | value v => exact hk _ _ h
    | skip => exact hk _ _ h
    | enter f args => exact Calls.mono h fun e w' ⟨v, he, hv⟩ => ⟨v, he, hk _ _ hv⟩
    | _ => exact h

theorem OpW_run {d : Nat} {o : Oper} {v : Value} {K : Env → World → Prop} (hd : o.dst = some d) (hr : Run P ρ o w v) (h : K (upd ρ d v) w) : OpW P ρ o w K := by
  unfold OpW
  unfold Run at hr
  rw [hr]
  simp only [hd, updo]
  exact h

/-- To the base's own words. -/
theorem OpW.wp {o : Oper} {K : Env → World → Prop} {a : Act} {K' : Act → World → Prop} {Q' : Exit → Act → World → Prop} (ha : Rep n a ρ) (hd : ∀ k, o.dst = some k → k < n)
    (hK : ∀ a ρ w, Rep n a ρ → K ρ w → K' a w) (h : OpW P ρ o w K) : o.wp P a w K' Q' := by
  unfold OpW at h
  unfold Oper.wp
  rw [ha.eval]
  generalize (execOp (ev ρ) o).run P w = r at *
  cases r with
  | halt x w' => exact h.elim
  | ok x w' =>
    cases x with
    | value v => exact hK _ _ _ (ha.puto hd) h
    | skip => exact hK _ _ _ (ha.puto hd) h
    | enter f args => exact Calls.mono h fun e w' ⟨v, he, hv⟩ => by subst he; exact hK _ _ _ (ha.puto hd) hv
    | _ => exact h.elim

/-- The operations of a region, one behind the other. -/
def wpL (P : Program) (n : Nat) (ops : Array Oper) (K : Env → World → Prop) (l : List Oper) (ρ : Env) (w : World) : Prop :=
  ∀ a, Rep n a ρ → wpList P ops (fun e a w => ∃ ρ, Rep n a ρ ∧ e = .normal ∧ K ρ w) l a w

theorem wpList_monoQ {ops : Array Oper} {Q Q' : Exit → Act → World → Prop} (h : ∀ e a w, Q e a w → Q' e a w) : ∀ (l : List Oper) (a : Act) (w : World), wpList P ops Q l a w → wpList P ops Q' l a w
  | [], a, w, hq => h _ _ _ hq
  | o :: rest, a, w, hq => by
    unfold wpList at *
    split at hq
    · rename_i hw
      rw [if_pos hw]
      rcases hq with hq | ⟨hq, a0, w0, hl⟩
      · refine .inl ?_
        unfold Oper.wp at *
        generalize (execOp a.eval o).run P w = r at *
        cases r with
        | ok x w' =>
          cases x <;> simp only [Oper.upon] at hq ⊢ <;> first
            | exact wpList_monoQ h _ _ _ hq
            | (refine hq.mono fun e w'' he => ?_
               cases e with
               | returned v => exact wpList_monoQ h _ _ _ he
               | panicked c => exact h _ _ _ he
               | outgrown => obtain ⟨a0, w0, hl⟩ := he; exact ⟨a0, w0, h _ _ _ hl⟩)
            | exact Rows.mono hq fun v w'' he => wpList_monoQ h _ _ _ he
        | halt x w' => cases x <;> simp only [Oper.upon] at hq ⊢ <;> exact h _ _ _ hq
      · exact .inr ⟨hq, a0, w0, h _ _ _ hl⟩
    · rename_i hw
      rw [if_neg hw]
      exact wpList_monoQ h _ _ _ hq

theorem W_region {id : Nat} {l : List Oper} (h : wpL P n l.toArray (Q .normal) l ρ w) : WC P n (.region id l.toArray false) Q ρ w := by
  intro a ha
  refine wp_region_list ?_
  have h1 : l.toArray.toList = l := by simp
  rw [h1]
  refine wpList_monoQ ?_ _ _ _ (h a ha)
  rintro e a' w' ⟨ρ', hr, rfl, hq⟩
  exact ⟨ρ', hr, hq⟩

theorem L_nil {ops : Array Oper} {K : Env → World → Prop} (h : K ρ w) : wpL P n ops K [] ρ w := fun _ ha => ⟨ρ, ha, rfl, h⟩

/-- The slot that an operation writes lies in the frame. -/
def dstIn (n : Nat) (o : Oper) : Bool := match o.dst with | some d => decide (d < n) | none => true
theorem dstIn_spec {o : Oper} (h : dstIn n o = true) (k : Nat) (hk : o.dst = some k) : k < n := by
  unfold dstIn at h; rw [hk] at h; simpa using h

theorem L_op {ops : Array Oper} {K : Env → World → Prop} {o : Oper} {rest : List Oper} (hg : o.guard = none) (hd : dstIn n o = true)
    (h : OpW P ρ o w (fun ρ w => wpL P n ops K rest ρ w)) : wpL P n ops K (o :: rest) ρ w := by
  intro a ha
  unfold wpList
  rw [if_pos (by simp [Region.wanted, hg])]
  exact .inl (h.wp ha (dstIn_spec hd) fun a ρ w hr hk => hk a hr)

theorem L_run {ops : Array Oper} {K : Env → World → Prop} {d : Nat} {op : Op} {ty : TypeId} {pos : String} {af : Array Edge} {rest : List Oper} {v : Value}
    (hr : Run P ρ ⟨some d, op, ty, pos, af, none⟩ w v) (hd : Nat.blt d n = true) (h : wpL P n ops K rest (upd ρ d v) w) : wpL P n ops K (⟨some d, op, ty, pos, af, none⟩ :: rest) ρ w :=
  L_op rfl (by simp only [dstIn]; simpa using hd) (OpW_run rfl hr h)

/-- What a guard looks at: the slot that operation j writes. -/
def dstOf (ops : Array Oper) (j : Nat) : Option Nat := (ops[j]?).bind (·.dst)

theorem yielded_of {ops : Array Oper} {j d : Nat} {b : Bool} {a : Act} (ha : Rep n a ρ) (hd : dstOf ops j = some d) (hn : Nat.blt d n = true) (hv : ρ d = .bool b) : yielded ops a.tmps j = some b := by
  unfold yielded
  unfold dstOf at hd
  have h1 := ha.val d (by simpa using hn)
  simp only [hd, Option.bind_some, h1, hv]

theorem L_yes {ops : Array Oper} {K : Env → World → Prop} {o : Oper} {rest : List Oper} {j d : Nat} {want : Bool} (hg : o.guard = some (j, want)) (hd : dstIn n o = true)
    (hj : dstOf ops j = some d) (hn : Nat.blt d n = true) (hv : ρ d = .bool want)
    (h : OpW P ρ o w (fun ρ w => wpL P n ops K rest ρ w)) : wpL P n ops K (o :: rest) ρ w := by
  intro a ha
  unfold wpList
  rw [if_pos (by simp [Region.wanted, hg, yielded_of ha hj hn hv])]
  exact .inl (h.wp ha (dstIn_spec hd) fun a ρ w hr hk => hk a hr)

theorem L_yesrun {ops : Array Oper} {K : Env → World → Prop} {d : Nat} {op : Op} {ty : TypeId} {pos : String} {af : Array Edge} {rest : List Oper} {v : Value} {j e : Nat} {want : Bool}
    (hj : dstOf ops j = some e) (hn : Nat.blt e n = true) (hv : ρ e = .bool want)
    (hr : Run P ρ ⟨some d, op, ty, pos, af, some (j, want)⟩ w v) (hd : Nat.blt d n = true) (h : wpL P n ops K rest (upd ρ d v) w) : wpL P n ops K (⟨some d, op, ty, pos, af, some (j, want)⟩ :: rest) ρ w :=
  L_yes rfl (by simp only [dstIn]; simpa using hd) hj hn hv (OpW_run rfl hr h)

theorem L_no {ops : Array Oper} {K : Env → World → Prop} {d : Nat} {op : Op} {ty : TypeId} {pos : String} {af : Array Edge} {rest : List Oper} {j e : Nat} {want : Bool}
    (hj : dstOf ops j = some e) (hn : Nat.blt e n = true) (hv : ρ e = .bool (!want)) (hd : Nat.blt d n = true)
    (h : wpL P n ops K rest (upd ρ d undef) w) : wpL P n ops K (⟨some d, op, ty, pos, af, some (j, want)⟩ :: rest) ρ w := by
  intro a ha
  unfold wpList
  rw [if_neg (by simp [Region.wanted, yielded_of ha hj hn hv])]
  exact h _ (ha.put (by simpa using hd))

/-- .. where what the guard looks at was itself passed over. -/
theorem L_nou {ops : Array Oper} {K : Env → World → Prop} {d : Nat} {op : Op} {ty : TypeId} {pos : String} {af : Array Edge} {rest : List Oper} {j e : Nat} {want : Bool}
    (hj : dstOf ops j = some e) (hn : Nat.blt e n = true) (hv : ρ e = undef) (hd : Nat.blt d n = true)
    (h : wpL P n ops K rest (upd ρ d undef) w) : wpL P n ops K (⟨some d, op, ty, pos, af, some (j, want)⟩ :: rest) ρ w := by
  intro a ha
  unfold wpList
  have hy : yielded ops a.tmps j = none := by
    unfold yielded
    unfold dstOf at hj
    have h1 := ha.val e (by simpa using hn)
    simp only [hj, Option.bind_some, h1, hv]
    rfl
  rw [if_neg (by simp [Region.wanted, hy])]
  exact h _ (ha.put (by simpa using hd))

end rules
end Gx
