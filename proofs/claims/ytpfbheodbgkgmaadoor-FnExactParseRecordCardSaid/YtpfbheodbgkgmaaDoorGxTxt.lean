/-
  Plain facts on decimal numerals as lists of bytes: what they hold, how long they are, that they tell their number; the texts of pairs and records.
-/
import Derived.Lib.ItoaNum
set_option linter.unusedSimpArgs false
set_option linter.unusedVariables false
namespace Gx
open Go Go.Lib

def dig (x : Int) : UInt8 := UInt8.ofNat (48 + x.toNat)
theorem ofNat_toNat {k : Nat} (h : k < 256) : (UInt8.ofNat k).toNat = k := by simp; omega
theorem dig_nat {x : Int} (h0 : 0 ≤ x) (h1 : x ≤ 9) : ((dig x).toNat : Int) = 48 + x := by unfold dig; rw [ofNat_toNat (by omega)]; omega
def isDig (b : UInt8) : Bool := decide (48 ≤ b.toNat) && decide (b.toNat ≤ 57)
theorem isDig_ofNat {k : Nat} (h : k < 10) : isDig (UInt8.ofNat (48 + k)) = true := by unfold isDig; rw [ofNat_toNat (by omega)]; simp; omega

theorem dec_big {u : Nat} (h : ¬ u < 10) : decDigits u = decDigits (u / 10) ++ [UInt8.ofNat (48 + u % 10)] := by rw [decDigits, dif_neg h]

/-- the digits, none for 0 -/
def dd (u : Nat) : List UInt8 := if u = 0 then [] else decDigits u
theorem dd_step {u : Nat} (h : u ≠ 0) : dd u = dd (u / 10) ++ [UInt8.ofNat (48 + u % 10)] := by
  unfold dd
  rw [if_neg h]
  by_cases h1 : u < 10
  · rw [if_pos (by omega), decDigits_one h1, Nat.mod_eq_of_lt h1]; rfl
  · rw [if_neg (by omega), dec_big h1]
theorem dd_pos {u : Nat} (h : u ≠ 0) : dd u = decDigits u := if_neg h
theorem dec_ne (u : Nat) : decDigits u ≠ [] := by
  have h1 := decDigits_length u
  have h2 := nDigits_pos u
  intro e; rw [e, List.length_nil] at h1; omega
theorem nDigits_le : ∀ (k u : Nat), u < 10 ^ (k + 1) → nDigits u ≤ k + 1
  | 0, u, h => by rw [nDigits_small (by simpa using h)]; omega
  | k + 1, u, h => by
    by_cases h1 : u < 10
    · rw [nDigits_small h1]; omega
    · rw [nDigits_big h1]
      have := nDigits_le k (u / 10) (by rw [Nat.pow_succ] at h; omega)
      omega
theorem dec_len {u k : Nat} (h : u < 10 ^ (k + 1)) : (decDigits u).length ≤ k + 1 := by rw [decDigits_length]; exact nDigits_le k u h
theorem dec_digits (u : Nat) : ∀ b ∈ decDigits u, isDig b = true := by
  induction u using Nat.strongRecOn with
  | _ u ih =>
    by_cases h : u < 10
    · rw [decDigits_one h]; intro b hb; rw [List.mem_singleton] at hb; rw [hb]; exact isDig_ofNat h
    · rw [dec_big h]
      intro b hb
      rw [List.mem_append] at hb
      rcases hb with hb | hb
      · exact ih (u / 10) (by omega) b hb
      · rw [List.mem_singleton] at hb; rw [hb]; exact isDig_ofNat (by omega)

/-- what digits say -/
def val (l : List UInt8) : Nat := l.foldl (fun n b => 10 * n + (b.toNat - 48)) 0
theorem val_snoc (l : List UInt8) (b : UInt8) : val (l ++ [b]) = 10 * val l + (b.toNat - 48) := by simp [val, List.foldl_append]
theorem val_dec (u : Nat) : val (decDigits u) = u := by
  induction u using Nat.strongRecOn with
  | _ u ih =>
    by_cases h : u < 10
    · rw [decDigits_one h]; simp only [val, List.foldl_cons, List.foldl_nil]; rw [ofNat_toNat (by omega)]; omega
    · rw [dec_big h, val_snoc, ih (u / 10) (by omega), ofNat_toNat (by omega)]; omega
theorem dec_inj {u v : Nat} (h : decDigits u = decDigits v) : u = v := by rw [← val_dec u, h, val_dec]
theorem val_lt : ∀ (k : Nat) (l : List UInt8), l.length = k → (∀ b ∈ l, isDig b = true) → val l < 10 ^ k
  | 0, l, hl, _ => by
    have : l = [] := List.eq_nil_of_length_eq_zero hl
    subst this; simp [val]
  | k + 1, l, hl, hd => by
    have hne : l ≠ [] := by intro e; subst e; simp at hl
    have e := List.dropLast_concat_getLast hne
    rw [← e, val_snoc]
    have h1 := val_lt k l.dropLast (by simp; omega) (fun b hb => hd b (List.dropLast_subset l hb))
    have h2 := hd (l.getLast hne) (List.getLast_mem hne)
    unfold isDig at h2
    simp at h2
    rw [Nat.pow_succ]; omega
theorem val_lt10 {l : List UInt8} {i : Nat} (hl : l.length ≤ 10) (hd : ∀ b ∈ l.take i, isDig b = true) : val (l.take i) < 10000000000 := by
  have h := val_lt _ (l.take i) rfl hd
  have h2 : 10 ^ (l.take i).length ≤ 10 ^ 10 := Nat.pow_le_pow_right (by decide) (by simp; omega)
  have h3 : 10 ^ 10 = 10000000000 := by decide
  omega

theorem take_snoc {l : List UInt8} {i : Nat} (h : i < l.length) : l.take (i + 1) = l.take i ++ [l.getD i 0] := by
  rw [List.take_add_one, List.getElem?_eq_getElem h]; simp [List.getD, h]
theorem getD_l {l m : List UInt8} {i : Nat} (h : i < l.length) : (l ++ m).getD i 0 = l.getD i 0 := by simp [List.getD, List.getElem?_append_left h]
theorem getD_r {l m : List UInt8} {i : Nat} (h : l.length ≤ i) : (l ++ m).getD i 0 = m.getD (i - l.length) 0 := by simp [List.getD, List.getElem?_append_right h]
theorem getD_mem {l : List UInt8} {i : Nat} (h : i < l.length) : l.getD i 0 ∈ l := by
  have : l.getD i 0 = l[i] := by simp [List.getD, h]
  rw [this]; exact List.getElem_mem h

theorem tmod10 (m : Int) : -9 ≤ Int.tmod m 10 ∧ Int.tmod m 10 ≤ 9 ∧ (Int.tmod m 10).natAbs = m.natAbs % 10 := by
  have h : (Int.tmod m 10).natAbs = m.natAbs % 10 := by rw [Int.natAbs_tmod]; rfl
  omega
theorem tdiv10 (m : Int) : (-922337203685477581 ≤ Int.tdiv m 10 ∨ 9223372036854775808 < m.natAbs) ∧ (Int.tdiv m 10).natAbs = m.natAbs / 10 := by
  have h : (Int.tdiv m 10).natAbs = m.natAbs / 10 := by rw [Int.natAbs_tdiv]; rfl
  omega
/-- one more digit of a numeral -/
theorem fmt_step {m x : Int} {n : Nat} {s : List UInt8} (h0 : ¬ m = 0) (ht : -9 ≤ Int.tmod m 10 ∧ Int.tmod m 10 ≤ 9 ∧ (Int.tmod m 10).natAbs = m.natAbs % 10)
    (hj : dd m.natAbs ++ s = decDigits n) (hx : x = (Int.tmod m 10).natAbs) {q : Int} (hq : q.natAbs = m.natAbs / 10) : dd q.natAbs ++ ([dig x] ++ s) = decDigits n := by
  rw [← hj, hq, dd_step (u := m.natAbs) (by omega), List.append_assoc]
  congr 3
  unfold dig
  rw [hx, ht.2.2]
  congr 1
theorem fmt_done {m : Int} {n : Nat} {s : List UInt8} (h0 : m = 0) (hj : dd m.natAbs ++ s = decDigits n) : s = decDigits n := by
  subst h0; exact hj

/-! ### itoa -/
theorem itoa_nat (u : Nat) : itoa (u : Int) = decDigits u := by unfold itoa; rw [if_neg (by omega)]; rfl
theorem itoa_pos {n : Int} (h : 0 ≤ n) : itoa n = decDigits n.toNat := by unfold itoa; rw [if_neg (by omega)]
theorem itoa_neg {n : Int} (h : n < 0) : itoa n = 45 :: decDigits n.natAbs := by unfold itoa; rw [if_pos h]
theorem itoa_zero : itoa 0 = [48] := by rw [itoa_pos (by omega)]; exact decDigits_one (by decide)
theorem not_dig_45 : isDig 45 = false := by decide
theorem not_dig_43 : isDig 43 = false := by decide
theorem head_dig {u : Nat} {c : UInt8} {r : List UInt8} (h : decDigits u = c :: r) : isDig c = true := dec_digits u c (by rw [h]; simp)
theorem itoa_inj {a b : Int} (h : itoa a = itoa b) : a = b := by
  by_cases ha : a < 0 <;> by_cases hb : b < 0
  · rw [itoa_neg ha, itoa_neg hb] at h
    have := dec_inj (List.cons.inj h).2
    omega
  · rw [itoa_neg ha, itoa_pos (by omega)] at h
    have := head_dig h.symm
    rw [not_dig_45] at this; cases this
  · rw [itoa_pos (by omega), itoa_neg hb] at h
    have := head_dig h
    rw [not_dig_45] at this; cases this
  · rw [itoa_pos (by omega), itoa_pos (by omega)] at h
    have := dec_inj h
    omega
theorem itoa_len {n : Int} (h0 : -9223372036854775808 ≤ n) (h1 : n ≤ 9223372036854775807) : (itoa n).length ≤ 20 := by
  by_cases h : n < 0
  · rw [itoa_neg h]
    have := dec_len (u := n.natAbs) (k := 18) (by omega)
    simp; omega
  · rw [itoa_pos (by omega)]
    have := dec_len (u := n.toNat) (k := 18) (by omega)
    omega
theorem itoa_len10 {n : Int} (h0 : 0 ≤ n) (h1 : n ≤ 1000000000) : (itoa n).length ≤ 10 := by
  rw [itoa_pos h0]
  exact dec_len (u := n.toNat) (k := 9) (by omega)

/-! ### A whole number read -/
/-- What ParseUint tells of a text. -/
def PU (l : List UInt8) (r : Int) (ok : Bool) : Prop :=
  (ok = true → 0 ≤ r ∧ r ≤ 1000000000 ∧ l = itoa r) ∧ (ok = false → r = 0 ∧ ∀ k : Int, 0 ≤ k → k ≤ 1000000000 → l ≠ itoa k)
theorem PU_len {l : List UInt8} (h : 10 < l.length) : PU l 0 false :=
  ⟨(fun h => nomatch h), fun _ => ⟨rfl, fun k h0 h1 e => by have := itoa_len10 h0 h1; rw [← e] at this; omega⟩⟩
theorem PU_nil {l : List UInt8} (h : l.length = 0) : PU l 0 false :=
  ⟨(fun h => nomatch h), fun _ => ⟨rfl, fun k h0 h1 e => by
    rw [itoa_pos h0] at e
    exact dec_ne _ (by rw [← e]; exact List.eq_nil_of_length_eq_zero h)⟩⟩
theorem PU_dig {l : List UInt8} {i : Nat} (hi : i < l.length) (h : isDig (l.getD i 0) = false) : PU l 0 false :=
  ⟨(fun h => nomatch h), fun _ => ⟨rfl, fun k h0 h1 e => by
    rw [itoa_pos h0] at e
    have := dec_digits k.toNat (l.getD i 0) (by rw [← e]; exact getD_mem hi)
    rw [h] at this; cases this⟩⟩
theorem PU_bad {l : List UInt8} {n : Int} (hn : n = (val l : Int)) (h : 1000000000 < n ∨ itoa n ≠ l) : PU l 0 false :=
  ⟨(fun h => nomatch h), fun _ => ⟨rfl, fun k h0 h1 e => by
    have hk : (val l : Int) = k := by rw [e, itoa_pos h0, val_dec]; omega
    rcases h with h | h
    · omega
    · exact h (by rw [hn, hk, e])⟩⟩
theorem PU_good {l : List UInt8} {n : Int} (hn : n = (val l : Int)) (h1 : ¬ 1000000000 < n) (h2 : itoa n = l) : PU l n true :=
  ⟨fun _ => ⟨by omega, by omega, h2.symm⟩, fun h => nomatch h⟩
theorem PU.le {l : List UInt8} {r : Int} {ok : Bool} (h : PU l r ok) : 0 ≤ r ∧ r ≤ 1000000000 := by
  cases ok
  · have := (h.2 rfl).1; omega
  · have := h.1 rfl; omega
theorem PU.of {r : Int} {k : Int} {ok : Bool} (h : PU (itoa k) r ok) (h0 : 0 ≤ k) (h1 : k ≤ 1000000000) : ok = true ∧ r = k := by
  cases ok
  · exact absurd rfl ((h.2 rfl).2 k h0 h1)
  · exact ⟨rfl, (itoa_inj (h.1 rfl).2.2).symm⟩

theorem not_dig_lo {b : UInt8} (h : (b.toNat : Int) < 48) : isDig b = false := by unfold isDig; simp; omega
theorem not_dig_hi {b : UInt8} (h : 57 < (b.toNat : Int)) : isDig b = false := by unfold isDig; simp; omega
theorem dig_of {b : UInt8} (h : ¬ (b.toNat : Int) < 48) (h2 : ¬ 57 < (b.toNat : Int)) : isDig b = true := by unfold isDig; simp; omega
theorem dig_le {b : UInt8} (h : isDig b = true) : 48 ≤ b.toNat ∧ b.toNat ≤ 57 := by unfold isDig at h; simpa using h
theorem pu_step {l : List UInt8} {i : Nat} {n n' : Int} (hi : i < l.length) (h2 : n = (val (l.take i) : Int)) (h3 : ∀ b ∈ l.take i, isDig b = true) (hd : isDig (l.getD i 0) = true)
    (hn : n' = 10 * n + (((l.getD i 0).toNat : Int) - 48)) : n' = (val (l.take (i + 1)) : Int) ∧ ∀ b ∈ l.take (i + 1), isDig b = true := by
  have hb := dig_le hd
  rw [take_snoc hi, val_snoc]
  refine ⟨by omega, fun b hm => ?_⟩
  rw [List.mem_append] at hm
  rcases hm with hm | hm
  · exact h3 b hm
  · rw [List.mem_singleton] at hm; rw [hm]; exact hd
theorem val_all {l : List UInt8} {i : Nat} {n : Int} (h : n = (val (l.take i) : Int)) (hi : l.length ≤ i) : n = (val l : Int) := by rw [List.take_of_length_le hi] at h; exact h

/-- What the reading of a number behind its sign tells (l10Number). -/
def LN (s : List UInt8) (r : Int) (ok : Bool) : Prop :=
  (-1000000000 ≤ r ∧ r ≤ 1000000000) ∧ ∀ (c : UInt8) (k : Int), 0 ≤ k → k ≤ 1000000000 → s = c :: itoa k → ok = true ∧ r = if c = 45 then -k else k
theorem LN_short {s : List UInt8} (h : s.length < 2) : LN s 0 false := ⟨by omega, fun c k h0 h1 e => by
  have h2 := dec_ne k.toNat
  rw [e, itoa_pos h0] at h
  cases hd : decDigits k.toNat with
  | nil => exact absurd hd h2
  | cons a r => rw [hd] at h; simp at h; omega⟩
theorem LN_minus {s : List UInt8} {n : Int} {ok : Bool} (h : PU (s.drop 1) n ok) (hc : ((s.getD 0 0).toNat : Int) = 45) : LN s (-n) ok := ⟨by have := h.le; omega, fun c k h0 h1 e => by
  subst e
  have h2 := PU.of (k := k) (by simpa using h) h0 h1
  have hc' : c.toNat = 45 := by simp at hc; omega
  have : c = 45 := UInt8.toNat_inj.1 hc'
  rw [if_pos this]; exact ⟨h2.1, by omega⟩⟩
theorem LN_plus {s : List UInt8} {n : Int} {ok : Bool} (h : PU (s.drop 1) n ok) (hc : ¬ ((s.getD 0 0).toNat : Int) = 45) : LN s n ok := ⟨by have := h.le; omega, fun c k h0 h1 e => by
  subst e
  have h2 := PU.of (k := k) (by simpa using h) h0 h1
  have hc' : ¬ c.toNat = 45 := by simp at hc; omega
  have : ¬ c = 45 := fun e => hc' (by rw [e]; rfl)
  rw [if_neg this]; exact h2⟩

/-- What the reading of a number with '-' tells (parseInt). -/
def PI (l : List UInt8) (r : Int) (ok : Bool) : Prop :=
  (ok = true → -1000000000 ≤ r ∧ r ≤ 1000000000 ∧ l = itoa r) ∧ (ok = false → r = 0 ∧ ∀ k : Int, -1000000000 ≤ k → k ≤ 1000000000 → l ≠ itoa k)
theorem PI.le {l : List UInt8} {r : Int} {ok : Bool} (h : PI l r ok) : -1000000000 ≤ r ∧ r ≤ 1000000000 := by
  cases ok
  · have := (h.2 rfl).1; omega
  · have := h.1 rfl; omega
theorem PI.of {r : Int} {k : Int} {ok : Bool} (h : PI (itoa k) r ok) (h0 : -1000000000 ≤ k) (h1 : k ≤ 1000000000) : ok = true ∧ r = k := by
  cases ok
  · exact absurd rfl ((h.2 rfl).2 k h0 h1)
  · exact ⟨rfl, (itoa_inj (h.1 rfl).2.2).symm⟩

/-! ### The text of a pair -/
def sg (a : Int) : List UInt8 := if a < 0 then itoa a else 43 :: itoa a
def fp (a b : Int) : List UInt8 := sg a ++ sg b ++ [105]
def inQ (a : Int) : Prop := -1000000000 ≤ a ∧ a ≤ 1000000000
def sgc (a : Int) : UInt8 := if a < 0 then 45 else 43
theorem sg_eq (a : Int) : sg a = sgc a :: decDigits a.natAbs := by
  unfold sg sgc
  by_cases h : a < 0
  · rw [if_pos h, if_pos h, itoa_neg h]
  · rw [if_neg h, if_neg h, itoa_pos (by omega), show a.toNat = a.natAbs by omega]
theorem sgc_or (a : Int) : sgc a = 45 ∨ sgc a = 43 := by unfold sgc; split <;> simp
theorem sgc_dig (a : Int) : isDig (sgc a) = false := by rcases sgc_or a with h | h <;> rw [h] <;> decide
theorem sg_inj {a b : Int} (h : sg a = sg b) : a = b := by
  rw [sg_eq, sg_eq] at h
  have h1 := (List.cons.inj h).1
  have h2 := dec_inj (List.cons.inj h).2
  unfold sgc at h1
  split at h1 <;> split at h1
  · omega
  · exact absurd h1 (by decide)
  · exact absurd h1 (by decide)
  · omega
/-- digits, then what is no digit: told apart -/
theorem split_dig : ∀ (x x' : List UInt8) {c c' : UInt8} {r r' : List UInt8}, (∀ b ∈ x, isDig b = true) → (∀ b ∈ x', isDig b = true) → isDig c = false → isDig c' = false → x ++ c :: r = x' ++ c' :: r' → x = x' ∧ c = c' ∧ r = r'
  | [], [], c, c', r, r', _, _, _, _, h => by simpa using h
  | [], b :: x', c, c', r, r', _, h2, h3, _, h => by
    simp at h
    have := h2 b (by simp)
    rw [← h.1, h3] at this; cases this
  | b :: x, [], c, c', r, r', h1, _, _, h4, h => by
    simp at h
    have := h1 b (by simp)
    rw [h.1, h4] at this; cases this
  | b :: x, b' :: x', c, c', r, r', h1, h2, h3, h4, h => by
    simp only [List.cons_append, List.cons.injEq] at h
    obtain ⟨e1, e2, e3⟩ := split_dig x x' (fun y hy => h1 y (by simp [hy])) (fun y hy => h2 y (by simp [hy])) h3 h4 h.2
    exact ⟨by rw [h.1, e1], e2, e3⟩
theorem fp_eq (a b : Int) : fp a b = sgc a :: (decDigits a.natAbs ++ sgc b :: (decDigits b.natAbs ++ [105])) := by
  unfold fp; rw [sg_eq, sg_eq]; simp
theorem fp_inj {a b x y : Int} (h : fp a b = fp x y) : a = x ∧ b = y := by
  rw [fp_eq, fp_eq] at h
  obtain ⟨e0, h⟩ := List.cons.inj h
  obtain ⟨e1, e2, h⟩ := split_dig _ _ (dec_digits _) (dec_digits _) (sgc_dig b) (sgc_dig y) h
  obtain ⟨e3, _, _⟩ := split_dig _ _ (dec_digits _) (dec_digits _) (by decide) (by decide) h
  constructor
  · exact sg_inj (by rw [sg_eq, sg_eq, e0, e1])
  · exact sg_inj (by rw [sg_eq, sg_eq, e2, e3])
theorem sg_len {a : Int} (h : inQ a) : (sg a).length ≤ 11 := by
  rw [sg_eq]
  have := dec_len (u := a.natAbs) (k := 9) (by unfold inQ at h; omega)
  simp; omega
theorem sg_len2 (a : Int) : 2 ≤ (sg a).length := by
  rw [sg_eq]
  have := nDigits_pos a.natAbs
  rw [List.length_cons, decDigits_length]; omega

theorem inQ_of {a : Int} (h : (decide (-1000000000 ≤ a) && decide (a ≤ 1000000000)) = true) : inQ a := by simpa [inQ] using h
theorem not_inQ {a : Int} (h : (decide (-1000000000 ≤ a) && decide (a ≤ 1000000000)) = false) : ¬ inQ a := by
  intro h'; unfold inQ at h'; simp at h; omega
/-- What FormatPair gives. -/
def FPR (a b : Int) (t : List UInt8) : Prop := (inQ a → inQ b → t = fp a b) ∧ (¬ (inQ a ∧ inQ b) → t = [])
theorem FPR.good {a b : Int} {t s : List UInt8} (h : FPR a b t) (e : t = s) (hl : 5 ≤ s.length) : inQ a ∧ inQ b ∧ fp a b = s := by
  by_cases hq : inQ a ∧ inQ b
  · exact ⟨hq.1, hq.2, by rw [← e]; exact (h.1 hq.1 hq.2).symm⟩
  · have := h.2 hq
    rw [← e, this] at hl; simp at hl

def isSgn (b : UInt8) : Prop := (b.toNat : Int) = 43 ∨ (b.toNat : Int) = 45
theorem sgc_sgn (a : Int) : isSgn (sgc a) := by rcases sgc_or a with h | h <;> rw [h] <;> unfold isSgn <;> decide
theorem dig_not_sgn {b : UInt8} (h : isDig b = true) : ¬ isSgn b := by have := dig_le h; unfold isSgn; omega
theorem fp_split (x y : Int) : fp x y = sg x ++ (sg y ++ [105]) := by unfold fp; rw [List.append_assoc]
theorem fp_len (x y : Int) : (fp x y).length = (sg x).length + (sg y).length + 1 := by rw [fp_split]; simp; omega
theorem fp_lo {x y : Int} {j : Nat} (h1 : 1 ≤ j) (h2 : j < (sg x).length) : ¬ isSgn ((fp x y).getD j 0) := by
  have e : (fp x y).getD j 0 = (sg x).getD j 0 := by rw [fp_split, getD_l h2]
  rw [e]
  obtain ⟨j', rfl⟩ : ∃ j', j = j' + 1 := ⟨j - 1, by omega⟩
  rw [sg_eq, List.getD_cons_succ]
  rw [sg_eq, List.length_cons] at h2
  exact dig_not_sgn (dec_digits x.natAbs _ (getD_mem (by omega)))
theorem fp_mid (x y : Int) : isSgn ((fp x y).getD (sg x).length 0) := by
  have e : (fp x y).getD (sg x).length 0 = sgc y := by
    rw [fp_split, getD_r (Nat.le_refl _), Nat.sub_self, sg_eq y]; rfl
  rw [e]; exact sgc_sgn y
theorem fp_hi {x y : Int} {j : Nat} (h1 : (sg x).length < j) (h2 : j < (fp x y).length) : ¬ isSgn ((fp x y).getD j 0) := by
  have e : (fp x y).getD j 0 = (sg y ++ [105]).getD (j - (sg x).length) 0 := by rw [fp_split, getD_r (by omega)]
  rw [e]
  obtain ⟨j', hj⟩ : ∃ j', j - (sg x).length = j' + 1 := ⟨j - (sg x).length - 1, by omega⟩
  rw [hj, sg_eq y, List.cons_append, List.getD_cons_succ]
  rw [fp_len, sg_eq y, List.length_cons] at h2
  by_cases h3 : j' < (decDigits y.natAbs).length
  · rw [getD_l h3]
    exact dig_not_sgn (dec_digits y.natAbs _ (getD_mem h3))
  · rw [getD_r (by omega), show j' - (decDigits y.natAbs).length = 0 by omega]
    unfold isSgn; decide
theorem fp_cut (x y : Int) : (fp x y).take (sg x).length = sg x ∧ ((fp x y).take ((fp x y).length - 1)).drop (sg x).length = sg y := by
  constructor
  · rw [fp_split, List.take_left]
  · have e : (fp x y).length - 1 = (sg x ++ sg y).length := by rw [fp_len, List.length_append]; omega
    rw [e]
    unfold fp
    rw [List.take_left, List.drop_left]
/-- the first sign behind the beginning -/
theorem scan_fp {x y : Int} {s : List UInt8} {i : Nat} (e : fp x y = s) (h1 : 1 ≤ i) (hi : i ≤ s.length) (h2 : ∀ j, 1 ≤ j → j < i → ¬ isSgn (s.getD j 0)) (h3 : i < s.length → isSgn (s.getD i 0)) :
    i < s.length ∧ s.take i = sg x ∧ (s.take (s.length - 1)).drop i = sg y := by
  subst e
  have hl := fp_len x y
  have hs := sg_len2 x
  have hi' : i = (sg x).length := by
    rcases Nat.lt_trichotomy i (sg x).length with h | h | h
    · exact absurd (h3 (by omega)) (fp_lo h1 h)
    · exact h
    · exact absurd (fp_mid x y) (h2 _ (by omega) h)
  subst hi'
  exact ⟨by omega, fp_cut x y⟩
/-- the last sign -/
theorem last_fp {x y : Int} {s : List UInt8} {k : Int} (e : fp x y = s) (h0 : -1 ≤ k) (h1 : k < s.length) (h2 : 0 ≤ k → isSgn (s.getD k.toNat 0)) (h3 : ∀ j : Nat, k < (j : Int) → j < s.length → ¬ isSgn (s.getD j 0)) :
    2 ≤ k ∧ s.take k.toNat = sg x ∧ (s.take (s.length - 1)).drop k.toNat = sg y := by
  subst e
  have hl := fp_len x y
  have hs := sg_len2 x
  have hk : k = ((sg x).length : Int) := by
    rcases Int.lt_trichotomy k ((sg x).length : Int) with h | h | h
    · exact absurd (fp_mid x y) (h3 _ h (by omega))
    · exact h
    · exact absurd (h2 (by omega)) (fp_hi (by omega) (by omega))
  subst hk
  exact ⟨by omega, by rw [Int.toNat_natCast]; exact fp_cut x y⟩
theorem sgn_ascii {b : UInt8} (h : isSgn b) : b.toNat < 128 := by unfold isSgn at h; omega
theorem dig_ascii {b : UInt8} (h : isDig b = true) : b.toNat < 128 := by have := dig_le h; omega
theorem sg_ascii (x : Int) : ∀ b ∈ sg x, b.toNat < 128 := by
  intro b hb
  rw [sg_eq, List.mem_cons] at hb
  rcases hb with rfl | hb
  · exact sgn_ascii (sgc_sgn x)
  · exact dig_ascii (dec_digits _ b hb)
theorem fp_ascii {x y : Int} {s : List UInt8} (e : fp x y = s) : ∀ b ∈ s, b.toNat < 128 := by
  subst e
  intro b hb
  unfold fp at hb
  rw [List.mem_append, List.mem_append] at hb
  rcases hb with (hb | hb) | hb
  · exact sg_ascii x b hb
  · exact sg_ascii y b hb
  · rw [List.mem_singleton] at hb; rw [hb]; decide
theorem LN_sg {x r : Int} {s : List UInt8} {ok : Bool} (h : LN s r ok) (e : s = sg x) (hx : inQ x) : ok = true ∧ r = x := by
  unfold inQ at hx
  have := h.2 (sgc x) (x.natAbs : Int) (by omega) (by omega) (by rw [e, sg_eq, itoa_nat])
  refine ⟨this.1, ?_⟩
  rw [this.2]
  unfold sgc
  by_cases hn : x < 0
  · rw [if_pos hn, if_pos rfl]; omega
  · rw [if_neg hn, if_neg (by decide)]; omega
theorem fp_len5 (x y : Int) : 5 ≤ (fp x y).length := by rw [fp_len]; have := sg_len2 x; have := sg_len2 y; omega
theorem fp_len30 {x y : Int} (hx : inQ x) (hy : inQ y) : (fp x y).length ≤ 30 := by rw [fp_len]; have := sg_len hx; have := sg_len hy; omega

/-- What ParsePair tells of a text. -/
def PP (s : List UInt8) (a b : Int) (ok : Bool) : Prop :=
  (ok = true → inQ a ∧ inQ b ∧ fp a b = s) ∧ (ok = false → a = 0 ∧ b = 0 ∧ ∀ x y, inQ x → inQ y → fp x y ≠ s)
theorem PP.unique {s : List UInt8} {a b a' b' : Int} {ok ok' : Bool} (h : PP s a b ok) (h' : PP s a' b' ok') : a = a' ∧ b = b' ∧ ok = ok' := by
  cases ok <;> cases ok'
  · have := h.2 rfl; have := h'.2 rfl; exact ⟨by omega, by omega, rfl⟩
  · have e := h'.1 rfl; exact absurd e.2.2 ((h.2 rfl).2.2 _ _ e.1 e.2.1)
  · have e := h.1 rfl; exact absurd e.2.2 ((h'.2 rfl).2.2 _ _ e.1 e.2.1)
  · have e := h.1 rfl; have e' := h'.1 rfl
    have := fp_inj (e.2.2.trans e'.2.2.symm)
    exact ⟨this.1, this.2, rfl⟩
theorem FPR.len {a b : Int} {t : List UInt8} (h : FPR a b t) : t.length ≤ 30 := by
  by_cases hq : inQ a ∧ inQ b
  · rw [h.1 hq.1 hq.2]; exact fp_len30 hq.1 hq.2
  · rw [h.2 hq]; simp
theorem pair_law {a b x y : Int} {t : List UInt8} {ok : Bool} (h : FPR a b t) (h' : PP t x y ok) :
    (inQ a ∧ inQ b → ok = true ∧ x = a ∧ y = b ∧ t ≠ []) ∧ (¬ (inQ a ∧ inQ b) → ok = false ∧ t = []) := by
  refine ⟨fun hq => ?_, fun hq => ?_⟩
  · have e := h.1 hq.1 hq.2
    have hl := fp_len5 a b
    have hu := h'.unique (a' := a) (b' := b) (ok' := true) ⟨fun _ => ⟨hq.1, hq.2, e.symm⟩, fun h => nomatch h⟩
    exact ⟨hu.2.2, hu.1, hu.2.1, fun e2 => by rw [← e, e2] at hl; simp at hl⟩
  · have e := h.2 hq
    refine ⟨?_, e⟩
    cases ok
    · rfl
    · have := (h'.1 rfl)
      have hl := fp_len5 x y
      rw [this.2.2, e] at hl; simp at hl
theorem PP_short {s : List UInt8} (h : s.length < 5) : PP s 0 0 false := ⟨(fun h => nomatch h), fun _ => ⟨rfl, rfl, fun x y _ _ e => by have := fp_len5 x y; rw [e] at this; omega⟩⟩
theorem PP_long {s : List UInt8} (h : 30 < s.length) : PP s 0 0 false := ⟨(fun h => nomatch h), fun _ => ⟨rfl, rfl, fun x y hx hy e => by have := fp_len30 hx hy; rw [e] at this; omega⟩⟩
theorem PP_good {s t : List UInt8} {a b : Int} (h : FPR a b t) (e : t = s) (hl : 5 ≤ s.length) : PP s a b true := ⟨fun _ => h.good e hl, fun h => nomatch h⟩
/-- .. where no pair's text is this text -/
theorem PP_no {s : List UInt8} (h : ∀ x y, inQ x → inQ y → fp x y = s → False) : PP s 0 0 false := ⟨(fun h => nomatch h), fun _ => ⟨rfl, rfl, fun x y hx hy e => h x y hx hy e⟩⟩
theorem isPre_take {s p : List UInt8} (h : p.length ≤ s.length) : p.isPrefixOf s = decide (s.take p.length = p) := by
  rw [Bool.eq_iff_iff, List.isPrefixOf_iff_prefix, decide_eq_true_eq, List.prefix_iff_eq_take]
  exact ⟨fun e => e.symm, fun e => e.symm⟩
theorem isPre_len {s p : List UInt8} (h : p.isPrefixOf s = true) : p.length ≤ s.length := by
  rw [List.isPrefixOf_iff_prefix] at h; exact h.length_le
theorem isPre_short {s p : List UInt8} (h : ¬ p.length ≤ s.length) : p.isPrefixOf s = false := by
  cases e : p.isPrefixOf s with
  | false => rfl
  | true => exact absurd (isPre_len e) h
/-- strings.TrimPrefix -/
def tp (s p : List UInt8) : List UInt8 := if p.isPrefixOf s then s.drop p.length else s
theorem tp_sg (x : Int) : tp (sg x) [43] = itoa x := by
  unfold tp sg
  by_cases h : x < 0
  · rw [if_pos h, itoa_neg h]; simp [List.isPrefixOf]
  · rw [if_neg h]; simp [List.isPrefixOf]
theorem PI_minus {s : List UInt8} {n : Int} {ok : Bool} (hs : ([45] : List UInt8).isPrefixOf s = true) (h : PU (s.drop 1) n ok) (hb : ok = false ∨ itoa (-1 * n) ≠ s) : PI s 0 false :=
  ⟨(fun h => nomatch h), fun _ => ⟨rfl, fun k h0 h1 e => by
    subst e
    by_cases hk : k < 0
    · rw [itoa_neg hk] at h
      have hd : decDigits k.natAbs = itoa (k.natAbs : Int) := (itoa_nat _).symm
      rw [List.drop_one, List.tail_cons, hd] at h
      have := h.of (by omega) (by omega)
      rcases hb with hb | hb
      · rw [this.1] at hb; cases hb
      · exact hb (by rw [this.2]; congr 1; omega)
    · rw [itoa_pos (by omega)] at hs
      cases hd : decDigits k.toNat with
      | nil => exact dec_ne _ hd
      | cons c r =>
        rw [hd] at hs
        have := head_dig hd
        have hc : (45 : UInt8) = c := by simpa [List.isPrefixOf] using hs
        rw [← hc] at this; cases this⟩⟩
theorem PI_plus {s : List UInt8} {n : Int} {ok : Bool} (hs : ([45] : List UInt8).isPrefixOf s = false) (h : PU s n ok) (hb : ok = false ∨ itoa (1 * n) ≠ s) : PI s 0 false :=
  ⟨(fun h => nomatch h), fun _ => ⟨rfl, fun k h0 h1 e => by
    subst e
    by_cases hk : k < 0
    · rw [itoa_neg hk] at hs; simp [List.isPrefixOf] at hs
    · have := h.of (by omega) (by omega)
      rcases hb with hb | hb
      · rw [this.1] at hb; cases hb
      · exact hb (by rw [this.2, Int.one_mul])⟩⟩
theorem PI_good {s : List UInt8} {n : Int} (h0 : -1000000000 ≤ n) (h1 : n ≤ 1000000000) (e : itoa n = s) : PI s n true := ⟨fun _ => ⟨h0, h1, e.symm⟩, fun h => nomatch h⟩
end Gx
