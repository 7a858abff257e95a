/-
  ChainOrder: tags and headers in order.
-/
import Derived.Test.YthokfopeddaiiaaGreatDoorSam
import Derived.Test.YthokfopeddaiiaaGreatDoorFst
namespace Go.Proofs.YthokfopeddaiiaaGreatDoor
open Go.RowKit Go.Own Go.Own.Fn Go.Shelf
attribute [local go_sem] Oper.semAt_some
theorem back_fnc (k : Nat) (hk : k ≤ 400) (w : World) : Fnc Tryz.prog noS (callL k) noB (.func (.func 18) #[] #[]) backF w := by
  refine ⟨18, #[], #[], rfl, enters_of Tryz.func18 (by kernel_rfl) rfl, fun w s xv x _ _ hxv => ?_⟩
  have HX := Lib.hid hxv
  obtain ⟨hv, bv, rfl, h1, h2, h3, _⟩ := hxv
  obtain ⟨A1, c1, rfl, _⟩ := h1.form
  obtain ⟨A2, c2, rfl⟩ := owSlc h2
  have HH := Lib.hid (And.intro h1 h3)
  show Calls Tryz.prog 18 #[.agg #[.string x.path, .slice A1 x.hs.length c1, .slice A2 x.body.length c2]] w _
  obtain ⟨n1, hn1⟩ : ∃ n, x.hs.length = n := ⟨_, rfl⟩
  have HN1 := Lib.hid hn1
  rw [hn1] at HH ⊢
  have HK := Lib.hid hk
  clear h1 h2 h3 hk hn1 HX
  go_enter Tryz.func18, Tryz.ntmps18
  go_wp2
  have b1 : Below w.heap.size w ((w.alloc (.cells #[.string x.path, .slice A1 n1 c1, .slice A2 x.body.length c2] 26)).alloc (.cells #[.int .i64 0, .string ⟨#[]⟩, .slice A1 n1 c1, .slice none 0 0] 39)) := ((Below.refl _ _).alloc (Nat.le_refl _) _).alloc (by simp) _
  have r3 := Blk.new (w.alloc (.cells #[.string x.path, .slice A1 n1 c1, .slice A2 x.body.length c2] 26)) 39 #[.int .i64 0, .string ⟨#[]⟩, .slice A1 n1 c1, .slice none 0 0]
  rw [show (w.alloc (.cells #[.string x.path, .slice A1 n1 c1, .slice A2 x.body.length c2] 26)).heap.size = w.heap.size + 1 by simp] at r3
  refine bodyPost_ret (res18 _ _ (w.heap.size + 1) _ _ _ _ rfl r3) rfl ⟨_, rfl, ⟨_, _, rfl, HH.out.1.below b1, ⟨rfl, .inl ⟨rfl, rfl⟩⟩, ?_, by simp [backF]⟩, trivial, grown_of_below b1 _⟩
  show x.hs.length + k ≤ 1000
  have := HH.out.2; have := HK.out; have := HN1.out
  omega
/-- The rule of a sign. -/
def ordR (tags : Bool) (c : UInt8) : RuleV := ⟨⟨#[]⟩, ⟨#[104]⟩, ⟨#[c]⟩, if tags then 6 else 1, 0, 0⟩
def ordH (c : UInt8) : HdrV := ⟨⟨#[104]⟩, ⟨#[c]⟩, false⟩
def ordW (tags : Bool) (cs : List UInt8) : List HdrV := if tags then (cs.map ordH).reverse else cs.map ordH
theorem ord_add (cs : List UInt8) : ∀ p (x : CallV), (wrapS (ruleAs p (cs.map (ordR false))) backF x ()).1 = ⟨0, ⟨#[]⟩, x.hs ++ cs.map ordH, []⟩ := by
  induction cs with
  | nil => intro p x; simp [ruleAs, wrapS, backF]
  | cons c cs ih =>
    intro p x
    have := ih (p + 1) (addC (ordR false c) x)
    simp [ruleAs, wrapS, ruleA, ordR, addC, ordH] at this ⊢
    exact this
theorem ord_tag (cs : List UInt8) : ∀ p (x : CallV), (wrapS (ruleAs p (cs.map (ordR true))) backF x ()).1 = ⟨0, ⟨#[]⟩, x.hs ++ (cs.map ordH).reverse, []⟩ := by
  induction cs with
  | nil => intro p x; simp [ruleAs, wrapS, backF]
  | cons c cs ih =>
    intro p x
    have := ih (p + 1) x
    simp [ruleAs, wrapS, ruleA, ordR, addA, ordH] at this ⊢
    rw [this]
    simp
theorem ord_all (tags : Bool) (cs : List UInt8) (x : CallV) (hx : x.hs = []) : (wrapS (ruleAs 0 (cs.map (ordR tags))) backF x ()).1 = ⟨0, ⟨#[]⟩, ordW tags cs, []⟩ := by
  cases tags
  · rw [ord_add, hx]; simp [ordW]
  · rw [ord_tag, hx]; simp [ordW]
theorem ord_fit (tags : Bool) (c : UInt8) (h1 : 33 ≤ c.toNat) (h2 : c.toNat ≤ 126) : RuleFit (ordR tags c) := by
  have hm : MetaOk (ordR tags c) := fun W he => meta_one ⟨#[104]⟩ (.inr rfl) c h1 h2 W he
  cases tags
  · exact .inl ⟨rfl, hm⟩
  · exact .inr (.inl ⟨rfl, hm⟩)
/-- The signs. -/
def signs36 : List UInt8 := [48, 49, 50, 51, 52, 53, 54, 55, 56, 57, 97, 98, 99, 100, 101, 102, 103, 104, 105, 106, 107, 108, 109, 110, 111, 112, 113, 114, 115, 116, 117, 118, 119, 120, 121, 122]
theorem signs_ok : ∀ c ∈ signs36, 33 ≤ c.toNat ∧ c.toNat ≤ 126 := by decide
end Go.Proofs.YthokfopeddaiiaaGreatDoor
