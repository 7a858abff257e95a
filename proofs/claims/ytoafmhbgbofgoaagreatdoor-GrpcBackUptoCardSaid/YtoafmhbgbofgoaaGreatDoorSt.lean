/-
  What is written of a status is plain, where its text neither begins nor ends with a blank: plain.
-/
import Derived.Test.YtoafmhbgbofgoaaGreatDoorOt
namespace Go.Own.Gb
open Go Go.Own.Hd
theorem gr_vis : ∀ k < 16, visC (Grpc.gr k) = true ∧ Grpc.gr k ≠ 32 := by decide +kernel
theorem pcB_vis (c : UInt8) : (Grpc.pcB c).all visC = true := by
  unfold Grpc.pcB
  split
  · rename_i h
    have h := of_decide_eq_true h
    simp only [List.all_cons, List.all_nil, Bool.and_true]
    exact decide_eq_true ⟨h.1, h.2.1⟩
  · have := c.toNat_lt
    simp only [List.all_cons, List.all_nil, Bool.and_true, Bool.and_eq_true]
    exact ⟨by decide, (gr_vis _ (by omega)).1, (gr_vis _ (by omega)).1⟩
theorem pct_vis : ∀ l : List UInt8, visB (Grpc.pct l) = true
  | [] => rfl
  | c :: r => by
    unfold visB
    rw [Grpc.pct, List.all_append, pcB_vis]
    exact pct_vis r
theorem pcB_ends (c : UInt8) (hc : c ≠ 32) : ∃ a m b, Grpc.pcB c = a :: m ∧ a ≠ 32 ∧ (Grpc.pcB c).getLast? = some b ∧ b ≠ 32 := by
  unfold Grpc.pcB
  split
  · exact ⟨c, [], c, rfl, hc, rfl, hc⟩
  · have := c.toNat_lt
    exact ⟨37, _, Grpc.gr (c.toNat % 16), rfl, by decide, rfl, (gr_vis _ (by omega)).2⟩
theorem getD_last (l : List UInt8) (b : UInt8) (h : l.getLast? = some b) : l.getD (l.length - 1) 0 = b := by
  rw [List.getLast?_eq_getElem?] at h
  rw [List.getD, h]; rfl
theorem pct_value (l : List UInt8) (h : l ≠ [] → l.getD 0 0 ≠ 32 ∧ l.getD (l.length - 1) 0 ≠ 32) : valueB (Grpc.pct l) = true := by
  refine vis_value _ (pct_vis l) fun hne => ?_
  have hl : l ≠ [] := fun e => hne (by rw [e]; rfl)
  obtain ⟨h1, h2⟩ := h hl
  constructor
  · rcases l with _ | ⟨c, r⟩
    · exact absurd rfl hl
    · obtain ⟨a, m, b, e, ha, _, _⟩ := pcB_ends c h1
      rw [Grpc.pct, e]
      exact ha
  · obtain ⟨r, c, rfl⟩ : ∃ r c, l = r ++ [c] := ⟨l.dropLast, l.getLast hl, (List.dropLast_concat_getLast hl).symm⟩
    have hc : c ≠ 32 := by
      have e := getD_last (r ++ [c]) c (by simp)
      rw [e] at h2
      exact h2
    obtain ⟨a, m, b, e, _, hb, hb2⟩ := pcB_ends c hc
    have e2 : Grpc.pct (r ++ [c]) = Grpc.pct r ++ Grpc.pcB c := by rw [Grpc.pct_append, Grpc.pct, Grpc.pct, List.append_nil]
    rw [e2, getD_last _ b (by rw [List.getLast?_append, hb]; rfl)]
    exact hb2
theorem digs_vis : ∀ c ∈ digs, visC c = true ∧ c ≠ 32 := by decide
theorem dec_value (k : Nat) : valueB (Lib.decDigits k) = true := by
  refine vis_value _ (List.all_eq_true.2 fun c hc => (digs_vis c (dec_mem k c hc)).1) fun hne => ?_
  have hl := List.length_pos_iff.2 hne
  have hk : ∀ j, j < (Lib.decDigits k).length → (Lib.decDigits k).getD j 0 ≠ 32 := fun j hj => by
    have e : (Lib.decDigits k).getD j 0 = (Lib.decDigits k)[j] := by simp [List.getD, hj]
    rw [e]
    exact (digs_vis _ (dec_mem k _ (List.getElem_mem hj))).2
  exact ⟨hk 0 hl, hk _ (by omega)⟩
theorem plain_of {h : HdrV} {n : List UInt8} (hn : tx h.name = n) (hb : n ∉ bars) (hm : nameB n = true) (hv : valueB (tx h.value) = true) : plainB h = true := by
  have hne : ∀ b ∈ bars, tx h.name ≠ b := fun b hb2 e => hb (by rw [← hn, e]; exact hb2)
  unfold plainB
  rw [if_neg, if_neg (hne te (by decide)), hn, hm, hv]
  · rfl
  · rintro (e | e | e | e | e)
    · exact hne _ (by decide) e
    · exact hne _ (by decide) e
    · exact hne _ (by decide) e
    · exact hne _ (by decide) e
    · exact hne _ (by decide) e
theorem sta_plain (k : Nat) (t : ByteArray) (R : List HdrV) (hg : R.all goodB = true) (h : t.data.toList ≠ [] → t.data.toList.getD 0 0 ≠ 32 ∧ t.data.toList.getD (t.data.toList.length - 1) 0 ≠ 32) : (staL k t R).all plainB = true := by
  unfold staL
  rw [List.all_append, List.all_append, wired_plain R hg, Bool.and_true, Bool.and_eq_true]
  constructor
  · rw [List.all_cons, List.all_nil, Bool.and_true]
    exact plain_of (n := stS) rfl (by decide) (by decide +kernel) (dec_value k)
  · unfold msL
    split
    · rfl
    · rw [List.all_cons, List.all_nil, Bool.and_true]
      exact plain_of (n := msS) rfl (by decide) (by decide +kernel) (pct_value _ h)
end Go.Own.Gb
