/-
  Plain facts on the text of a record: four numerals with a blank between; how it is cut at its blanks; that it tells its numbers.
-/
import Derived.Test.YtpfbheodbgkgmaaDoorGxTxt
import Derived.Test.YtpfbheodbgkgmaaDoorGxStr
import Derived.Lib.SplitLaws
import Derived.Lib.CountLaws
import Derived.Lib.IndexBytes
set_option linter.unusedSimpArgs false
set_option linter.unusedVariables false
namespace Gx
open Go Go.Lib

/-! ### Cutting at blanks -/
def cutw : List UInt8 → List UInt8 → List (List UInt8) → List (List UInt8)
  | [], cur, out => if cur = [] then out else out ++ [cur]
  | b :: r, cur, out => if b = 32 then cutw r [] (if cur = [] then out else out ++ [cur]) else cutw r (cur ++ [b]) out
theorem cutw_go : ∀ (x r cur : List UInt8) (out : List (List UInt8)), 32 ∉ x → cur ++ x ≠ [] → cutw (x ++ 32 :: r) cur out = cutw r [] (out ++ [cur ++ x])
  | [], r, cur, out, _, hn => by
    simp only [List.append_nil] at hn
    simp [cutw, hn]
  | b :: x, r, cur, out, hx, hn => by
    have hb : ¬ b = 32 := fun e => hx (by simp [e])
    rw [List.cons_append, cutw, if_neg hb, cutw_go x r (cur ++ [b]) out (fun h => hx (by simp [h])) (by simp)]
    simp
theorem cutw_last : ∀ (x cur : List UInt8) (out : List (List UInt8)), 32 ∉ x → cur ++ x ≠ [] → cutw x cur out = out ++ [cur ++ x]
  | [], cur, out, _, hn => by
    simp only [List.append_nil] at hn
    simp [cutw, hn]
  | b :: x, cur, out, hx, hn => by
    have hb : ¬ b = 32 := fun e => hx (by simp [e])
    rw [cutw, if_neg hb, cutw_last x (cur ++ [b]) out (fun h => hx (by simp [h])) (by simp)]
    simp
theorem cutw_len : ∀ (l cur : List UInt8) (out : List (List UInt8)), out.length ≤ (cutw l cur out).length
  | [], cur, out => by simp only [cutw]; split <;> simp
  | b :: r, cur, out => by
    simp only [cutw]
    split
    · refine Nat.le_trans ?_ (cutw_len r [] _)
      split <;> simp
    · exact cutw_len r _ out

/-- where the cutting stands -/
def CW (s : List UInt8) (bg i : Nat) (out : List (List UInt8)) : Prop :=
  (i ≤ s.length ∧ cutw (s.drop i) ((s.take i).drop bg) out = cutw s [] []) ∨ (i = s.length + 1 ∧ out = cutw s [] [])
theorem cw0 (s : List UInt8) : CW s 0 0 [] := .inl ⟨Nat.zero_le _, by simp⟩
theorem drop_cons {s : List UInt8} {i : Nat} (h : i < s.length) : s.drop i = s.getD i 0 :: s.drop (i + 1) := by
  rw [List.drop_eq_getElem_cons h]; congr 1; simp [List.getD, h]
theorem cw_cont {s : List UInt8} {bg i : Nat} {out : List (List UInt8)} (h : CW s bg i out) (hi : i < s.length) (hb : bg ≤ i) (hn : ¬ ((s.getD i 0).toNat : Int) = 32) : CW s bg (i + 1) out := by
  rcases h with ⟨_, h⟩ | ⟨h, _⟩
  · have hne : ¬ s.getD i 0 = 32 := fun e => hn (by rw [e]; rfl)
    rw [drop_cons hi, cutw, if_neg hne] at h
    refine .inl ⟨by omega, ?_⟩
    rw [take_snoc hi, List.drop_append_of_le_length (by rw [List.length_take]; omega)]
    exact h
  · omega
theorem cw_cut {s : List UInt8} {bg i : Nat} {out out' : List (List UInt8)} (h : CW s bg i out) (hi : i ≤ s.length) (hb : bg ≤ i) (hn : i < s.length → ((s.getD i 0).toNat : Int) = 32)
    (ho : (bg < i → out' = out ++ [(s.take i).drop bg]) ∧ (¬ bg < i → out' = out)) : CW s (i + 1) (i + 1) out' := by
  have hcur : out' = if (s.take i).drop bg = [] then out else out ++ [(s.take i).drop bg] := by
    by_cases hlt : bg < i
    · rw [ho.1 hlt, if_neg (by rw [List.drop_eq_nil_iff, List.length_take]; omega)]
    · rw [ho.2 hlt, if_pos (by rw [List.drop_eq_nil_iff, List.length_take]; omega)]
  rcases h with ⟨_, h⟩ | ⟨h, _⟩
  · by_cases hlt : i < s.length
    · have he : s.getD i 0 = 32 := UInt8.toNat_inj.1 (by have := hn hlt; show (s.getD i 0).toNat = 32; omega)
      rw [drop_cons hlt, cutw, if_pos he, ← hcur] at h
      refine .inl ⟨by omega, ?_⟩
      rw [show (s.take (i + 1)).drop (i + 1) = [] by rw [List.drop_eq_nil_iff, List.length_take]; omega]
      exact h
    · rw [List.drop_eq_nil_of_le (by omega), cutw, ← hcur] at h
      exact .inr ⟨by omega, h⟩
  · omega
theorem cw_end {s : List UInt8} {bg i : Nat} {out : List (List UInt8)} (h : CW s bg i out) (hi : ¬ i ≤ s.length) : out = cutw s [] [] := by
  rcases h with ⟨h, _⟩ | ⟨_, h⟩
  · exact absurd h hi
  · exact h
/-- What SplitFields tells. -/
def SF (s : List UInt8) (out : List (List UInt8)) (ok : Bool) : Prop :=
  (ok = true → out = cutw s [] []) ∧ (ok = false → 600 < s.length ∨ (∃ x ∈ s, x.toNat < 32 ∨ 126 < x.toNat) ∨ 24 < (cutw s [] []).length)

/-! ### strings.Split at a blank -/
def spl (s : List UInt8) : List (List UInt8) := (splitB (st [32]) 0 (countB (st s) (st [32])) (st s)).map (fun b => b.data.toList)
theorem ix_hit : ∀ (x r : List UInt8), 32 ∉ x → indexByte (x ++ 32 :: r) 32 = x.length
  | [], r, _ => by simp [indexByte]
  | b :: x, r, h => by
    have hb : ¬ b = 32 := fun e => h (by simp [e])
    have ih := ix_hit x r (fun hh => h (by simp [hh]))
    rw [List.cons_append, indexByte, if_neg (by simpa using hb), ih]
    have : ¬ ((x.length : Int) == -1) = true := by simp only [beq_iff_eq]; omega
    rw [if_neg this]; simp
theorem ix_miss : ∀ (x : List UInt8), 32 ∉ x → indexByte x 32 = -1
  | [], _ => rfl
  | b :: x, h => by
    have hb : ¬ b = 32 := fun e => h (by simp [e])
    have ih := ix_miss x (fun hh => h (by simp [hh]))
    rw [indexByte, if_neg (by simpa using hb), ih]; rfl
theorem indexB_st (s : List UInt8) : indexB (st s) (st [32]) = indexByte s 32 := index_one s 32
theorem spl_miss {x : List UInt8} (h : 32 ∉ x) : spl x = [x] := by
  have hi : indexB (st x) (st [32]) = -1 := by rw [indexB_st, ix_miss x h]
  unfold spl
  rw [splitB_miss _ _ _ _ hi]
  rfl
theorem spl_hit {x r : List UInt8} (h : 32 ∉ x) : spl (x ++ 32 :: r) = x :: spl r := by
  have hi : indexB (st (x ++ 32 :: r)) (st [32]) = (x.length : Int) := by rw [indexB_st, ix_hit x r h]
  have e2 : (st (x ++ 32 :: r)).extract (x.length + (st [32]).size) (st (x ++ 32 :: r)).size = st r := by
    rw [st_extract, st_size, st_size, List.take_length]
    have e : x.length + [(32 : UInt8)].length = (x ++ [(32 : UInt8)]).length := by simp
    rw [show x ++ 32 :: r = (x ++ [32]) ++ r by simp, e, List.drop_left]
  have e1 : (st (x ++ 32 :: r)).extract 0 (x.length + 0) = st x := by
    rw [st_extract, Nat.add_zero, List.drop_zero, List.take_left]
  unfold spl
  rw [countB_hit _ _ _ (by decide) hi, e2, Nat.add_comm, splitB_hit _ _ _ _ _ hi, e1, e2, List.map_cons]
  rfl
theorem spl_len (s : List UInt8) : (spl s).length = countB (st s) (st [32]) + 1 := by
  unfold spl
  rw [List.length_map, splitB_all _ (by decide) _ _ _ rfl]
theorem spl_cells (s : List UInt8) : (splitB (st [32]) 0 (countB (st s) (st [32])) (st s)).map Value.string = (spl s).flatMap stE.enc := by
  unfold spl
  generalize splitB (st [32]) 0 (countB (st s) (st [32])) (st s) = l
  induction l with
  | nil => rfl
  | cons a l ih => simp only [List.map_cons, List.flatMap_cons, ih]; simp [stE, st_eta]

/-! ### Records -/
def fr (a b c d : Int) : List UInt8 := itoa a ++ [32] ++ itoa b ++ [32] ++ itoa c ++ [32] ++ itoa d
def inR (a b c d : Int) : Prop := (0 ≤ a ∧ a ≤ 5) ∧ (0 ≤ b ∧ b ≤ 11) ∧ (-32767 ≤ c ∧ c ≤ 32767) ∧ (-32767 ≤ d ∧ d ≤ 32767)
theorem itoa_no32 (n : Int) : 32 ∉ itoa n := by
  intro h
  by_cases hn : n < 0
  · rw [itoa_neg hn, List.mem_cons] at h
    rcases h with h | h
    · exact absurd h (by decide)
    · exact absurd (dec_digits _ _ h) (by decide)
  · rw [itoa_pos (by omega)] at h
    exact absurd (dec_digits _ _ h) (by decide)
theorem itoa_ne (n : Int) : itoa n ≠ [] := by
  by_cases hn : n < 0
  · rw [itoa_neg hn]; simp
  · rw [itoa_pos (by omega)]; exact dec_ne _
theorem itoa_ascii (n : Int) : ∀ b ∈ itoa n, 32 ≤ b.toNat ∧ b.toNat ≤ 126 := by
  intro b hb
  by_cases hn : n < 0
  · rw [itoa_neg hn, List.mem_cons] at hb
    rcases hb with rfl | hb
    · decide
    · have := dig_le (dec_digits _ b hb); omega
  · rw [itoa_pos (by omega)] at hb
    have := dig_le (dec_digits _ b hb); omega
theorem fr_eq (a b c d : Int) : fr a b c d = itoa a ++ 32 :: (itoa b ++ 32 :: (itoa c ++ 32 :: itoa d)) := by unfold fr; simp
theorem cutw_fr (a b c d : Int) : cutw (fr a b c d) [] [] = [itoa a, itoa b, itoa c, itoa d] := by
  rw [fr_eq, cutw_go _ _ _ _ (itoa_no32 a) (by simpa using itoa_ne a), cutw_go _ _ _ _ (itoa_no32 b) (by simpa using itoa_ne b), cutw_go _ _ _ _ (itoa_no32 c) (by simpa using itoa_ne c),
    cutw_last _ _ _ (itoa_no32 d) (by simpa using itoa_ne d)]
  simp
theorem spl_fr (a b c d : Int) : spl (fr a b c d) = [itoa a, itoa b, itoa c, itoa d] := by
  rw [fr_eq, spl_hit (itoa_no32 a), spl_hit (itoa_no32 b), spl_hit (itoa_no32 c), spl_miss (itoa_no32 d)]
theorem fr_inj {a b c d x y z u : Int} (h : fr a b c d = fr x y z u) : a = x ∧ b = y ∧ c = z ∧ d = u := by
  have e := cutw_fr a b c d
  rw [h, cutw_fr] at e
  simp only [List.cons.injEq, and_true] at e
  exact ⟨(itoa_inj e.1).symm, (itoa_inj e.2.1).symm, (itoa_inj e.2.2.1).symm, (itoa_inj e.2.2.2).symm⟩
theorem fr_ascii {a b c d : Int} {s : List UInt8} (e : fr a b c d = s) : ∀ x ∈ s, 32 ≤ x.toNat ∧ x.toNat ≤ 126 := by
  subst e
  intro x hx
  rw [fr_eq] at hx
  simp only [List.mem_append, List.mem_cons] at hx
  rcases hx with hx | rfl | hx | rfl | hx | rfl | hx
  · exact itoa_ascii _ x hx
  · decide
  · exact itoa_ascii _ x hx
  · decide
  · exact itoa_ascii _ x hx
  · decide
  · exact itoa_ascii _ x hx
theorem itoa_len20 {n : Int} (h0 : -1000000000 ≤ n) (h1 : n ≤ 1000000000) : (itoa n).length ≤ 20 := itoa_len (by omega) (by omega)
theorem fr_len {a b c d : Int} (h : inR a b c d) : (fr a b c d).length ≤ 83 := by
  unfold inR at h
  rw [fr_eq]
  have h1 := itoa_len20 (n := a) (by omega) (by omega)
  have h2 := itoa_len20 (n := b) (by omega) (by omega)
  have h3 := itoa_len20 (n := c) (by omega) (by omega)
  have h4 := itoa_len20 (n := d) (by omega) (by omega)
  simp; omega
theorem fr_pos (a b c d : Int) : fr a b c d ≠ [] := by rw [fr_eq]; intro h; have := congrArg List.length h; simp at this
/-- What FormatRecord gives. -/
def FRR (a b c d : Int) (t : List UInt8) : Prop := (inR a b c d → t = fr a b c d) ∧ (¬ inR a b c d → t = [])
theorem inR_of {a b c d : Int} (h1 : (decide (0 ≤ a) && decide (a ≤ 5)) = true) (h2 : (decide (0 ≤ b) && decide (b ≤ 11)) = true) (h3 : (decide (-32767 ≤ c) && decide (c ≤ 32767)) = true) (h4 : (decide (-32767 ≤ d) && decide (d ≤ 32767)) = true) : inR a b c d := by
  simp only [Bool.and_eq_true, decide_eq_true_eq] at h1 h2 h3 h4
  exact ⟨h1, h2, h3, h4⟩
theorem inR_a {a b c d : Int} (h : inR a b c d) : ¬ (decide (0 ≤ a) && decide (a ≤ 5)) = false := by have := h.1; simp; omega
theorem inR_b {a b c d : Int} (h : inR a b c d) : ¬ (decide (0 ≤ b) && decide (b ≤ 11)) = false := by have := h.2.1; simp; omega
theorem inR_c {a b c d : Int} (h : inR a b c d) : ¬ (decide (-32767 ≤ c) && decide (c ≤ 32767)) = false := by have := h.2.2.1; simp; omega
theorem inR_d {a b c d : Int} (h : inR a b c d) : ¬ (decide (-32767 ≤ d) && decide (d ≤ 32767)) = false := by have := h.2.2.2; simp; omega
theorem inR_lens {a b c d : Int} (h : inR a b c d) : ((0 ≤ a ∧ a ≤ 5) ∧ (0 ≤ b ∧ b ≤ 11) ∧ (-32767 ≤ c ∧ c ≤ 32767) ∧ (-32767 ≤ d ∧ d ≤ 32767)) ∧ (itoa a).length ≤ 20 ∧ (itoa b).length ≤ 20 ∧ (itoa c).length ≤ 20 ∧ (itoa d).length ≤ 20 := by
  refine ⟨h, ?_⟩
  unfold inR at h
  exact ⟨itoa_len (by omega) (by omega), itoa_len (by omega) (by omega), itoa_len (by omega) (by omega), itoa_len (by omega) (by omega)⟩
/-- What ParseRecord tells. -/
def RP (s : List UInt8) (a b c d : Int) (ok : Bool) : Prop :=
  (ok = true → inR a b c d ∧ fr a b c d = s) ∧ (ok = false → (a = 0 ∧ b = 0 ∧ c = 0 ∧ d = 0) ∧ ∀ x y z u, inR x y z u → fr x y z u ≠ s)
theorem RP.unique {s : List UInt8} {a b c d a' b' c' d' : Int} {ok ok' : Bool} (h : RP s a b c d ok) (h' : RP s a' b' c' d' ok') : (a = a' ∧ b = b' ∧ c = c' ∧ d = d') ∧ ok = ok' := by
  cases ok <;> cases ok'
  · have := (h.2 rfl).1; have := (h'.2 rfl).1; exact ⟨by omega, rfl⟩
  · have e := h'.1 rfl; exact absurd e.2 ((h.2 rfl).2 _ _ _ _ e.1)
  · have e := h.1 rfl; exact absurd e.2 ((h'.2 rfl).2 _ _ _ _ e.1)
  · have e := h.1 rfl; have e' := h'.1 rfl
    exact ⟨fr_inj (e.2.trans e'.2.symm), rfl⟩
theorem RP_no {s : List UInt8} (h : ∀ x y z u, inR x y z u → fr x y z u = s → False) : RP s 0 0 0 0 false := ⟨(fun h => nomatch h), fun _ => ⟨⟨rfl, rfl, rfl, rfl⟩, fun x y z u hq e => h x y z u hq e⟩⟩
theorem RP_good {s t : List UInt8} {a b c d : Int} (h : FRR a b c d t) (e : t = s) (hs : s ≠ []) : RP s a b c d true := ⟨fun _ => by
  by_cases hq : inR a b c d
  · exact ⟨hq, by rw [← e]; exact (h.1 hq).symm⟩
  · exact absurd (by rw [← e]; exact h.2 hq) hs, fun h => nomatch h⟩

theorem sf_fr {s : List UInt8} {out : List (List UInt8)} {ok : Bool} {x y z u : Int} (h : SF s out ok) (hq : inR x y z u) (e : fr x y z u = s) : ok = true ∧ out = [itoa x, itoa y, itoa z, itoa u] := by
  have hc : cutw s [] [] = [itoa x, itoa y, itoa z, itoa u] := by rw [← e]; exact cutw_fr x y z u
  cases ok
  · rcases h.2 rfl with h1 | ⟨b, hb, h1⟩ | h1
    · have := fr_len hq; rw [e] at this; omega
    · have := fr_ascii e b hb; omega
    · rw [hc] at h1; simp at h1
  · exact ⟨rfl, (h.1 rfl).trans hc⟩

/-- What l09Int tells: numerals are read. -/
def LI (s : List UInt8) (r : Int) (ok : Bool) : Prop :=
  (-1000000000 ≤ r ∧ r ≤ 1000000000) ∧ ∀ k : Int, -1000000000 ≤ k → k ≤ 1000000000 → s = itoa k → ok = true ∧ r = k
theorem LI_minus {s : List UInt8} {n : Int} {ok : Bool} (h : PU (s.drop 1) n ok) (hc : ((s.getD 0 0).toNat : Int) = 45) : LI s (-n) ok := ⟨by have := h.le; omega, fun k h0 h1 e => by
  subst e
  by_cases hk : k < 0
  · rw [itoa_neg hk, List.drop_one, List.tail_cons, ← itoa_nat] at h
    have := h.of (by omega) (by omega)
    exact ⟨this.1, by omega⟩
  · rw [itoa_pos (by omega)] at hc
    cases hd : decDigits k.toNat with
    | nil => exact absurd hd (dec_ne _)
    | cons c r =>
      rw [hd] at hc
      have hc' : (c.toNat : Int) = 45 := hc
      have := dig_le (head_dig hd)
      omega⟩
theorem LI_plus {s : List UInt8} {n : Int} {ok : Bool} (h : PU s n ok) (hc : s.length ≤ 1 ∨ ¬ ((s.getD 0 0).toNat : Int) = 45) : LI s n ok := ⟨by have := h.le; omega, fun k h0 h1 e => by
  subst e
  by_cases hk : k < 0
  · rw [itoa_neg hk] at hc
    have := nDigits_pos k.natAbs
    rw [List.length_cons, decDigits_length] at hc
    rcases hc with hc | hc
    · omega
    · exact absurd rfl hc
  · have := h.of (by omega) (by omega)
    exact ⟨this.1, this.2⟩⟩
end Gx
