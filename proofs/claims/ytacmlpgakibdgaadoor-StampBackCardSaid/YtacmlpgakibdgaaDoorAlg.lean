/-
  Times and spans, plain: what is added, what lies between, spans together. No program.
-/
import Derived.Test.YtacmlpgakibdgaaDoorDig
namespace Go.Own.Alg
open Go.Own.Dig (okT okS)

/-- Seconds and billionths, brought into bounds. -/
def spanN (s n : Int) : Int × Int :=
  if 0 < s + n.tdiv 1000000000 ∧ n.tmod 1000000000 < 0 then (s + n.tdiv 1000000000 - 1, n.tmod 1000000000 + 1000000000)
  else if s + n.tdiv 1000000000 < 0 ∧ 0 < n.tmod 1000000000 then (s + n.tdiv 1000000000 + 1, n.tmod 1000000000 - 1000000000)
  else (s + n.tdiv 1000000000, n.tmod 1000000000)

/-- Which span it is. -/
structure IsSpan (v s n : Int) : Prop where
  val : s * 1000000000 + n = v
  lo : -1000000000 < n
  hi : n < 1000000000
  neg : ¬ (s < 0 ∧ 0 < n)
  pos : ¬ (0 < s ∧ n < 0)
theorem IsSpan.unique {v s n s' n' : Int} (a : IsSpan v s n) (b : IsSpan v s' n') : s = s' ∧ n = n' := by
  obtain ⟨a1, a2, a3, a4, a5⟩ := a
  obtain ⟨b1, b2, b3, b4, b5⟩ := b
  omega
theorem tdm (n : Int) : n.tdiv 1000000000 * 1000000000 + n.tmod 1000000000 = n ∧ -1000000000 < n.tmod 1000000000 ∧ n.tmod 1000000000 < 1000000000 ∧ (0 ≤ n → 0 ≤ n.tmod 1000000000) ∧ (n ≤ 0 → n.tmod 1000000000 ≤ 0) := by
  have h := Int.mul_tdiv_add_tmod n 1000000000
  have h2 := Int.tmod_lt_of_pos n (b := 1000000000) (by decide)
  have h3 := Int.lt_tmod_of_pos n (b := 1000000000) (by decide)
  refine ⟨by omega, by omega, h2, fun h0 => Int.tmod_nonneg _ h0, fun h0 => ?_⟩
  have := Int.tmod_nonneg (a := -n) 1000000000 (by omega)
  rw [Int.neg_tmod] at this
  omega
theorem spanN_is (s n : Int) : IsSpan (s * 1000000000 + n) (spanN s n).1 (spanN s n).2 := by
  obtain ⟨h1, h2, h3, h4, h5⟩ := tdm n
  unfold spanN
  generalize n.tdiv 1000000000 = q at *
  generalize n.tmod 1000000000 = r at *
  split
  · exact ⟨by simp only; omega, by simp only; omega, by simp only; omega, by simp only; omega, by simp only; omega⟩
  · split
    · exact ⟨by simp only; omega, by simp only; omega, by simp only; omega, by simp only; omega, by simp only; omega⟩
    · exact ⟨by simp only; omega, by simp only; omega, by simp only; omega, by simp only; omega, by simp only; omega⟩
theorem spanN_bd (s n : Int) : -1000000000 < (spanN s n).2 ∧ (spanN s n).2 < 1000000000 := ⟨(spanN_is s n).lo, (spanN_is s n).hi⟩
theorem spanN_eq {s n s' n' : Int} (h : s * 1000000000 + n = s' * 1000000000 + n') : spanN s n = spanN s' n' := by
  have a := spanN_is s n
  have b := spanN_is s' n'
  rw [← h] at b
  obtain ⟨e1, e2⟩ := a.unique b
  exact Prod.ext e1 e2
theorem okS_is {s n : Int} (h : okS s n = true) : IsSpan (s * 1000000000 + n) s n := by
  have hv := of_decide_eq_true h
  exact ⟨rfl, by omega, by omega, by omega, by omega⟩

/-- A time so much later. -/
def addN (s n a b : Int) : Int × Int :=
  if n + b < 0 then (s + a - 1, n + b + 1000000000) else if 1000000000 ≤ n + b then (s + a + 1, n + b - 1000000000) else (s + a, n + b)
def addT (s n a b : Int) : Option (Int × Int) :=
  if okT s n = true ∧ okS a b = true ∧ okT (addN s n a b).1 (addN s n a b).2 = true then some (addN s n a b) else none
def betweenT (s n s' n' : Int) : Option (Int × Int) := if okT s n = true ∧ okT s' n' = true then some (spanN (s' - s) (n' - n)) else none

theorem addN_val (s n a b : Int) : (addN s n a b).1 * 1000000000 + (addN s n a b).2 = (s + a) * 1000000000 + (n + b) := by
  unfold addN
  split
  · simp only; omega
  · split
    · simp only; omega
    · simp only
theorem addN_bd (s n a b : Int) (h1 : 0 ≤ n) (h2 : n < 1000000000) (h3 : -1000000000 < b) (h4 : b < 1000000000) : 0 ≤ (addN s n a b).2 ∧ (addN s n a b).2 < 1000000000 := by
  unfold addN
  split
  · simp only; omega
  · split
    · simp only; omega
    · simp only; omega

/-- What lies between is a span, and back. -/
theorem between_ok {s n s' n' : Int} (h : okT s n = true) (h' : okT s' n' = true) : okS (spanN (s' - s) (n' - n)).1 (spanN (s' - s) (n' - n)).2 = true := by
  have hv := of_decide_eq_true h
  have hv' := of_decide_eq_true h'
  obtain ⟨a1, a2, a3, a4, a5⟩ := spanN_is (s' - s) (n' - n)
  unfold okS
  simp only [decide_eq_true_eq]
  generalize (spanN (s' - s) (n' - n)).1 = p at *
  generalize (spanN (s' - s) (n' - n)).2 = q at *
  omega
theorem add_between {s n s' n' : Int} (h : okT s n = true) (h' : okT s' n' = true) : addT s n (spanN (s' - s) (n' - n)).1 (spanN (s' - s) (n' - n)).2 = some (s', n') := by
  have hv := of_decide_eq_true h
  have hv' := of_decide_eq_true h'
  have a := spanN_is (s' - s) (n' - n)
  have hb := addN_bd s n (spanN (s' - s) (n' - n)).1 (spanN (s' - s) (n' - n)).2 (by omega) (by omega) a.lo a.hi
  have hval := addN_val s n (spanN (s' - s) (n' - n)).1 (spanN (s' - s) (n' - n)).2
  have a1 := a.val
  have e : addN s n (spanN (s' - s) (n' - n)).1 (spanN (s' - s) (n' - n)).2 = (s', n') := by
    refine Prod.ext ?_ ?_
    · simp only; generalize addN s n (spanN (s' - s) (n' - n)).1 (spanN (s' - s) (n' - n)).2 = X at *; omega
    · simp only; generalize addN s n (spanN (s' - s) (n' - n)).1 (spanN (s' - s) (n' - n)).2 = X at *; omega
  unfold addT
  rw [e, if_pos ⟨h, between_ok h h', h'⟩]
theorem between_neg (s n s' n' : Int) : spanN (s - s') (n - n') = (-(spanN (s' - s) (n' - n)).1, -(spanN (s' - s) (n' - n)).2) := by
  have a := spanN_is (s - s') (n - n')
  obtain ⟨b1, b2, b3, b4, b5⟩ := spanN_is (s' - s) (n' - n)
  have c : IsSpan ((s - s') * 1000000000 + (n - n')) (-(spanN (s' - s) (n' - n)).1) (-(spanN (s' - s) (n' - n)).2) := by
    generalize (spanN (s' - s) (n' - n)).1 = p at *
    generalize (spanN (s' - s) (n' - n)).2 = q at *
    exact ⟨by omega, by omega, by omega, by omega, by omega⟩
  obtain ⟨e1, e2⟩ := a.unique c
  exact Prod.ext e1 e2

/-- Spans together. -/
def tot (l : List (Int × Int)) : Int × Int := l.foldl (fun a x => (a.1 + x.1, a.2 + x.2)) (0, 0)
def sumT (l : List (Int × Int)) : Option (Int × Int) :=
  if l.all (fun x => okS x.1 x.2) = true ∧ okS (spanN (tot l).1 (tot l).2).1 (spanN (tot l).1 (tot l).2).2 = true then some (spanN (tot l).1 (tot l).2) else none

theorem tot_snoc (l : List (Int × Int)) (x : Int × Int) : tot (l ++ [x]) = ((tot l).1 + x.1, (tot l).2 + x.2) := by simp [tot, List.foldl_append]
theorem tot_bd : ∀ (k : Nat) (l : List (Int × Int)), l.length = k → l.all (fun x => okS x.1 x.2) = true → -(315576000000 * k : Int) ≤ (tot l).1 ∧ (tot l).1 ≤ 315576000000 * k ∧ -(1000000000 * k : Int) ≤ (tot l).2 ∧ (tot l).2 ≤ 1000000000 * k := by
  intro k
  induction k with
  | zero => intro l hl _; obtain rfl := List.eq_nil_of_length_eq_zero hl; simp [tot]
  | succ k ih =>
    intro l hl ha
    rcases List.eq_nil_or_concat l with rfl | ⟨r, x, rfl⟩
    · simp at hl
    · rw [List.concat_eq_append] at *
      rw [tot_snoc]
      simp only [List.all_append, Bool.and_eq_true, List.all_cons, List.all_nil, Bool.and_true] at ha
      have hi := ih r (by simpa using hl) ha.1
      have hx := of_decide_eq_true ha.2
      simp only
      push_cast
      omega

theorem sum_turn (x y z : Int × Int) : sumT [x, y, z] = sumT [z, x, y] := by
  have e : spanN (tot [x, y, z]).1 (tot [x, y, z]).2 = spanN (tot [z, x, y]).1 (tot [z, x, y]).2 := spanN_eq (by simp [tot]; omega)
  unfold sumT
  rw [e]
  have e2 : [x, y, z].all (fun x => okS x.1 x.2) = [z, x, y].all (fun x => okS x.1 x.2) := by
    simp only [List.all_cons, List.all_nil, Bool.and_true]
    cases okS x.1 x.2 <;> cases okS y.1 y.2 <;> cases okS z.1 z.2 <;> rfl
  rw [e2]
theorem okS_neg {s n : Int} (h : okS s n = true) : okS (-s) (-n) = true := by
  have hv := of_decide_eq_true h
  unfold okS
  simp only [decide_eq_true_eq]
  omega
theorem sum_neg {s n : Int} (h : okS s n = true) : sumT [(s, n), (-s, -n)] = some (0, 0) := by
  have e : tot [(s, n), (-s, -n)] = (0, 0) := by simp [tot]; omega
  unfold sumT
  rw [e]
  have e2 : spanN 0 0 = (0, 0) := by decide
  simp only [e2, List.all_cons, List.all_nil, h, okS_neg h, Bool.and_true]
  rw [if_pos (by decide)]

end Go.Own.Alg
