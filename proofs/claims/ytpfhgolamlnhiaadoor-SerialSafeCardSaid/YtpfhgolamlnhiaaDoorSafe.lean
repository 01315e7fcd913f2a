/- What escaping writes: nothing that is not allowed, and & only at a reference's beginning. Plain lists. -/
import Derived.Test.YtpfhgolamlnhiaaDoorEsc
set_option linter.unusedVariables false
namespace Sv
/-- The references. -/
def refs : List (List UInt8) := [[38, 97, 109, 112, 59], [38, 108, 116, 59], [38, 103, 116, 59], [38, 110, 98, 115, 112, 59], [38, 35, 49, 51, 59], [38, 113, 117, 111, 116, 59]]
/-- What may not be. -/
def bad (attr : Bool) (c : UInt8) : Bool := c == 13 || (if attr then c == 34 else c == 60 || c == 62)
def Safe (attr : Bool) (l : List UInt8) : Prop := ∀ i c t, l.drop i = c :: t → bad attr c = false ∧ (c = 38 → ∃ p ∈ refs, p <+: c :: t)
theorem safe_nil (attr : Bool) : Safe attr [] := fun i c t h => by simp at h
theorem safe_cons {attr : Bool} {c : UInt8} {l : List UInt8} (h : Safe attr l) (hb : bad attr c = false) (hr : c = 38 → ∃ p ∈ refs, p <+: c :: l) : Safe attr (c :: l) := by
  intro i d t hd
  cases i with
  | zero => simp at hd; obtain ⟨rfl, rfl⟩ := hd; exact ⟨hb, hr⟩
  | succ i => exact h i d t (by simpa using hd)
theorem safe_plain {attr : Bool} {c : UInt8} {l : List UInt8} (h : Safe attr l) (hb : bad attr c = false) (hr : c ≠ 38) : Safe attr (c :: l) := safe_cons h hb (fun e => absurd e hr)
theorem safe_ref {attr : Bool} {l : List UInt8} (h : Safe attr l) : ∀ p ∈ refs, Safe attr (p ++ l) := by
  intro p hp
  have key : ∀ q : List UInt8, (∀ c ∈ q, bad attr c = false ∧ c ≠ 38) → Safe attr (q ++ l) := by
    intro q
    induction q with
    | nil => intro _; exact h
    | cons c q ih => intro hq; exact safe_plain (ih fun d hd => hq d (List.mem_cons_of_mem _ hd)) (hq c (List.mem_cons_self ..)).1 (hq c (List.mem_cons_self ..)).2
  have h38 : bad attr 38 = false := by cases attr <;> rfl
  have one : ∀ q : List UInt8, (38 :: q) ∈ refs → (∀ c ∈ q, bad attr c = false ∧ c ≠ 38) → Safe attr ((38 :: q) ++ l) := by
    intro q hm hq
    exact safe_cons (key q hq) h38 (fun _ => ⟨_, hm, by simp⟩)
  have all : ∀ p ∈ refs, ∀ c ∈ p.tail, bad attr c = false ∧ c ≠ 38 := by cases attr <;> decide
  have heads : ∀ p ∈ refs, p = 38 :: p.tail := by decide
  have e := heads p hp
  rw [e]
  exact one _ (by rw [← e]; exact hp) (all p hp)
theorem safe_esc1 {attr : Bool} {l : List UInt8} (h : Safe attr l) (c : UInt8) : Safe attr (esc1 attr c ++ l) := by
  unfold esc1
  split
  · exact safe_ref h _ (by decide)
  split
  · exact safe_ref h _ (by decide)
  split
  · exact safe_ref h _ (by decide)
  split
  · exact safe_ref h _ (by decide)
  split
  · exact safe_ref h _ (by decide)
  · refine safe_plain h ?_ ‹_›
    cases attr <;> simp_all [bad]
theorem safe_esc (attr : Bool) : ∀ n (l : List UInt8), l.length ≤ n → Safe attr (esc attr l)
  | 0, l, h => by
    obtain rfl : l = [] := List.length_eq_zero_iff.1 (by omega)
    simpa [esc] using safe_nil attr
  | n + 1, [], h => by simpa [esc] using safe_nil attr
  | n + 1, [c], h => by
    have := safe_esc1 (safe_nil attr) c
    simpa [esc] using this
  | n + 1, c :: d :: u, h => by
    unfold esc
    split
    · exact safe_ref (safe_esc attr n u (by simp at h; omega)) _ (by decide)
    · exact safe_esc1 (safe_esc attr n (d :: u) (by simp at h ⊢; omega)) c
end Sv
