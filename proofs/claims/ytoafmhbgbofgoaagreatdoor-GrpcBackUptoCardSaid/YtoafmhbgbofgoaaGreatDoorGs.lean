/-
  Metadata as it goes over the wire, and back: plain.
-/
import Derived.Test.YtoafmhbgbofgoaaGreatDoorUb
import Derived.Test.YtoafmhbgbofgoaaGreatDoorJb
namespace Go.Own.Gb
open Go Go.Own.Hd Go.Own.B64
/-- A header of metadata as it is written. -/
def wr1 (h : HdrV) : HdrV := if binB (tx h.name) then ⟨h.name, ⟨(b64 (tx h.value)).toArray⟩, h.never⟩ else h
def goodB (h : HdrV) : Bool := metaB (tx h.name) (tx h.value)
/-- The metadata of a list. -/
inductive Rdl : List HdrV → List HdrV → Prop
  | nil : Rdl [] []
  | skip (x : HdrV) (l m : List HdrV) : namedB (tx x.name) = false → Rdl l m → Rdl (x :: l) m
  | keep (x : HdrV) (l m : List HdrV) : goodB x = true → Rdl l m → Rdl (wr1 x :: l) (x :: m)
theorem wr1_name (h : HdrV) : (wr1 h).name = h.name := by unfold wr1; split <;> rfl
theorem wr1_never (h : HdrV) : (wr1 h).never = h.never := by unfold wr1; split <;> rfl
theorem rdl_map : ∀ l : List HdrV, l.all goodB = true → Rdl (l.map wr1) l
  | [], _ => .nil
  | x :: l, h => by
    rw [List.all_cons, Bool.and_eq_true] at h
    exact .keep x _ _ h.1 (rdl_map l h.2)
theorem rdl_pre : ∀ (p l m : List HdrV), (∀ x ∈ p, namedB (tx x.name) = false) → Rdl l m → Rdl (p ++ l) m
  | [], _, _, _, h => h
  | x :: p, l, m, hp, h => .skip x _ _ (hp x List.mem_cons_self) (rdl_pre p l m (fun y hy => hp y (List.mem_cons_of_mem _ hy)) h)
theorem good_named {h : HdrV} (hg : goodB h = true) : namedB (tx h.name) = true := by
  unfold goodB metaB at hg
  rw [Bool.and_eq_true] at hg
  exact hg.1
theorem vis_value (l : List UInt8) (hv : visB l = true) (h1 : l ≠ [] → l.getD 0 0 ≠ 32 ∧ l.getD (l.length - 1) 0 ≠ 32) : valueB l = true := by
  have hc : ∀ k, k < l.length → visC (l.getD k 0) = true := fun k hk => by
    have e : l.getD k 0 = l[k] := by simp [List.getD, hk]
    rw [e]
    exact List.all_eq_true.1 hv _ (List.getElem_mem hk)
  have hb : ∀ k, k < l.length → l.getD k 0 ≠ 32 → blankB (l.getD k 0) = false := fun k hk hn => by
    have hv := of_decide_eq_true (hc k hk)
    unfold blankB
    rw [Bool.or_eq_false_iff, beq_eq_false_iff_ne, beq_eq_false_iff_ne]
    refine ⟨hn, fun e => ?_⟩
    rw [e] at hv
    exact absurd hv.1 (by decide)
  have ha : Lib.containsAny l [0, 13, 10] = false := by
    unfold Lib.containsAny
    rw [Lib.indexAny_none]
    · rfl
    · intro j b hj hb
      have hv := of_decide_eq_true (List.all_eq_true.1 hv b (List.mem_of_getElem? hb))
      simp only [List.contains_cons, List.contains_nil, Bool.or_false, Bool.or_eq_false_iff, beq_eq_false_iff_ne]
      refine ⟨fun e => ?_, fun e => ?_, fun e => ?_⟩ <;> rw [e] at hv <;> exact absurd hv.1 (by decide)
  unfold valueB
  rw [ha]
  rcases he : l.isEmpty with _ | _
  · have hne : l ≠ [] := fun e => by rw [e] at he; cases he
    have hl := List.length_pos_iff.2 hne
    obtain ⟨h2, h3⟩ := h1 hne
    rw [hb 0 hl h2, hb (l.length - 1) (by omega) h3]
    rfl
  · rfl
theorem ltrs_vis : ∀ c ∈ ltrs, visC c = true ∧ c ≠ 32 := by decide
theorem ltrs_value (l : List UInt8) (h : ∀ c ∈ l, c ∈ ltrs) : valueB l = true := by
  refine vis_value l (List.all_eq_true.2 fun c hc => (ltrs_vis c (h c hc)).1) fun hne => ?_
  have hl := List.length_pos_iff.2 hne
  have hk : ∀ k, k < l.length → l.getD k 0 ≠ 32 := fun k hk => by
    have e : l.getD k 0 = l[k] := by simp [List.getD, hk]
    rw [e]
    exact (ltrs_vis _ (h _ (List.getElem_mem hk))).2
  exact ⟨hk 0 hl, hk _ (by omega)⟩
theorem named_plain {h : HdrV} (hn : namedB (tx h.name) = true) (hv : valueB (tx h.value) = true) : plainB h = true := by
  unfold namedB at hn
  simp only [Bool.and_eq_true, Bool.not_eq_true'] at hn
  obtain ⟨h1, h2, _⟩ := hn
  have hne : ∀ b ∈ bars, tx h.name ≠ b := fun b hb e => by
    rw [e, List.contains_iff_mem.2 hb] at h1
    cases h1
  unfold plainB
  rw [if_neg, if_neg (hne te (by decide)), h2, hv]
  · rfl
  · rintro (e | e | e | e | e)
    · exact hne _ (by decide) e
    · exact hne _ (by decide) e
    · exact hne _ (by decide) e
    · exact hne _ (by decide) e
    · exact hne _ (by decide) e
theorem wr1_plain {h : HdrV} (hg : goodB h = true) : plainB (wr1 h) = true := by
  have hn := good_named hg
  refine named_plain (by rw [wr1_name]; exact hn) ?_
  unfold wr1
  rcases hb : binB (tx h.name) with _ | _
  · rw [if_neg (by decide)]
    unfold goodB metaB at hg
    rw [hb] at hg
    simp only [Bool.and_eq_true, Bool.false_or] at hg
    exact hg.2.2
  · rw [if_pos rfl]
    exact ltrs_value _ (b64_mem _)
theorem wired_plain (l : List HdrV) (h : l.all goodB = true) : (l.map wr1).all plainB = true := by
  rw [List.all_eq_true] at h ⊢
  intro x hx
  obtain ⟨y, hy, rfl⟩ := List.mem_map.1 hx
  exact wr1_plain (h y hy)
def stS : List UInt8 := [103, 114, 112, 99, 45, 115, 116, 97, 116, 117, 115]
def msS : List UInt8 := [103, 114, 112, 99, 45, 109, 101, 115, 115, 97, 103, 101]
def tmS : List UInt8 := [103, 114, 112, 99, 45, 116, 105, 109, 101, 111, 117, 116]
def apS : List UInt8 := [97, 112, 112, 108, 105, 99, 97, 116, 105, 111, 110, 47, 103, 114, 112, 99]
theorem not_named : ∀ n ∈ [stS, msS, tmS, te, ctS], namedB n = false := by decide +kernel
/-- The first value of a name. -/
def getV (nm : List UInt8) : List HdrV → Option ByteArray
  | [] => none
  | x :: l => if tx x.name = nm then some x.value else getV nm l
theorem get_app (nm : List UInt8) : ∀ p l : List HdrV, (∀ x ∈ p, tx x.name ≠ nm) → getV nm (p ++ l) = getV nm l
  | [], _, _ => rfl
  | x :: p, l, h => by
    rw [List.cons_append, getV, if_neg (h x List.mem_cons_self)]
    exact get_app nm p l fun y hy => h y (List.mem_cons_of_mem _ hy)
theorem get_none (nm : List UInt8) (hn : namedB nm = false) : ∀ l : List HdrV, l.all goodB = true → getV nm (l.map wr1) = none
  | [], _ => rfl
  | x :: l, h => by
    rw [List.all_cons, Bool.and_eq_true] at h
    rw [List.map_cons, getV, if_neg (fun e => by rw [wr1_name] at e; have := good_named h.1; rw [e, hn] at this; cases this)]
    exact get_none nm hn l h.2
theorem all_succ_map (l : List HdrV) (d : HdrV) (k : Nat) (hk : k < l.length) : (l.take (k + 1)).map wr1 = (l.take k).map wr1 ++ [wr1 (l.getD k d)] := by
  rw [List.take_succ_eq_append_getElem hk, List.map_append]
  have : l.getD k d = l[k] := by simp [List.getD, hk]
  rw [this]; rfl
end Go.Own.Gb
