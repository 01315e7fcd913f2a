/- What is escaped is read back: plain lists. -/
import Derived.Test.YtpfhgolamlnhiaaDoorChar
import Derived.Test.YtpfhgolamlnhiaaDoorEsc2
set_option linter.unusedVariables false
set_option linter.unusedSimpArgs false
namespace Go.Proofs.YtpfhgolamlnhiaaDoor
open Go.RowKit

theorem at_mk (l : List UInt8) (i : Nat) : Sv.at' ⟨l.toArray⟩ i = (l[i]!).toNat := by
  unfold Sv.at'
  show (l.toArray[i]!).toNat = _
  simp
theorem an59 : an 59 = false := by decide +kernel
theorem mk_size (l : List UInt8) : (⟨l.toArray⟩ : ByteArray).size = l.length := by simp [ByteArray.size]
theorem mk_extract (l : List UInt8) (i j : Nat) : (⟨l.toArray⟩ : ByteArray).extract i j = ⟨((l.take j).drop i).toArray⟩ := by
  apply ByteArray.ext
  apply Array.toList_inj.1
  simp [ByteArray.data_extract, Array.toList_extract, List.extract, List.drop_take]

theorem end_word (w u : List UInt8) (hal : ∀ i, i < w.length → an (w[i]!).toNat = true) : ∀ (d j f : Nat), w.length - j = d → j ≤ w.length → d < f → endLoop ⟨(38 :: (w ++ 59 :: u)).toArray⟩ f (j + 1) = w.length + 1 := by
  intro d
  induction d with
  | zero =>
    intro j f h1 h2 h3
    obtain ⟨f, rfl⟩ : ∃ m, f = m + 1 := ⟨f - 1, by omega⟩
    obtain rfl : j = w.length := by omega
    have e : (38 :: (w ++ 59 :: u))[w.length + 1]! = 59 := by simp
    rw [endLoop, at_mk, e, if_neg (by rw [show (59 : UInt8).toNat = 59 from rfl, an59]; simp)]
  | succ d ih =>
    intro j f h1 h2 h3
    obtain ⟨f, rfl⟩ : ∃ m, f = m + 1 := ⟨f - 1, by omega⟩
    have hj : j < w.length := by omega
    have e : (38 :: (w ++ 59 :: u))[j + 1]! = w[j]! := by
      simp [List.getElem?_append_left hj]
    rw [endLoop, at_mk, e, if_pos ⟨by rw [mk_size]; simp; omega, hal j hj⟩]
    exact ih (j + 1) f (by omega) (by omega) (by omega)

theorem find_word (attr : Bool) (w u : List UInt8) (hal : ∀ i, i < w.length → an (w[i]!).toNat = true) (h1 : 1 ≤ w.length) (h35 : w[0]! ≠ 35) (hh : bsHit ⟨w.toArray⟩ = true) :
    findP ⟨(38 :: (w ++ 59 :: u)).toArray⟩ attr = ((nmAt (bs ⟨w.toArray⟩)).r, (w.length : Int) + 2, true) := by
  unfold findP
  have e0 : Sv.at' ⟨(38 :: (w ++ 59 :: u)).toArray⟩ 0 = 38 := by rw [at_mk]; rfl
  have hsz : (⟨(38 :: (w ++ 59 :: u)).toArray⟩ : ByteArray).size = w.length + u.length + 2 := by rw [mk_size]; simp; omega
  have hp : Lib.hasPrefix (⟨(38 :: (w ++ 59 :: u)).toArray⟩ : ByteArray).data.toList [38, 35] = false := by
    obtain ⟨c, w', rfl⟩ : ∃ c w', w = c :: w' := by
      cases w
      · simp at h1
      · exact ⟨_, _, rfl⟩
    have hc : (35 == c) = false := by
      rw [beq_eq_false_iff_ne]
      intro e
      exact h35 e.symm
    simp [Lib.hasPrefix, List.isPrefixOf, hc]
  rw [if_neg (by rw [e0, hsz]; omega), if_neg (by rw [hp]; decide), hsz, show (1 : Nat) = 0 + 1 from rfl, end_word w u hal w.length 0 _ (by omega) (by omega) (by omega), findLoop_eq _ _ _ (by omega), mk_extract]
  have ew : ((38 :: (w ++ 59 :: u)).take (w.length + 1)).drop 1 = w := by simp
  rw [ew, if_neg (by rw [hh]; decide)]
  have e59 : Sv.at' ⟨(38 :: (w ++ 59 :: u)).toArray⟩ (w.length + 1) = 59 := by rw [at_mk]; simp
  rw [if_pos ⟨by rw [hsz]; omega, e59⟩]
  rw [show (((w.length + 1 : Nat) : Int) + 1) = (w.length : Int) + 2 by omega]

theorem dg49 : dg 49 = 1 := by decide +kernel
theorem dg51 : dg 51 = 3 := by decide +kernel
theorem dg59 : dg 59 = 16 := by decide +kernel
theorem num13 (u : List UInt8) : numP ⟨(49 :: 51 :: 59 :: u).toArray⟩ = (13, 3, true) := by
  have hx : isX ⟨(49 :: 51 :: 59 :: u).toArray⟩ = false := by
    unfold isX
    rw [at_mk, show ((49 :: 51 :: 59 :: u)[0]!).toNat = 49 from rfl, show (Go.bits .or .u8 ((49 : Nat) : Int) 32 == 120) = false by decide]
    simp
  have hsz : (⟨(49 :: 51 :: 59 :: u).toArray⟩ : ByteArray).size = u.length + 3 := by rw [mk_size]; simp
  have hl : numLoop ⟨(49 :: 51 :: 59 :: u).toArray⟩ 10 (u.length + 3 + 1) 0 0 = (2, 13) := by
    rw [show u.length + 3 + 1 = (((u.length + 1) + 1) + 1) + 1 by omega]
    rw [numLoop, at_mk, show ((49 :: 51 :: 59 :: u)[0]!).toNat = 49 from rfl, dg49, if_pos ⟨by rw [hsz]; omega, by decide⟩]
    rw [numLoop, at_mk, show ((49 :: 51 :: 59 :: u)[0 + 1]!).toNat = 51 from rfl, dg51, if_pos ⟨by rw [hsz]; omega, by decide⟩]
    rw [numLoop, at_mk, show ((49 :: 51 :: 59 :: u)[0 + 1 + 1]!).toNat = 59 from rfl, dg59, if_neg (by rintro ⟨_, h⟩; exact absurd h (by decide))]
    rfl
  have e : numP ⟨(49 :: 51 :: 59 :: u).toArray⟩ = if (numLoop (restOf ⟨(49 :: 51 :: 59 :: u).toArray⟩) (baseOf ⟨(49 :: 51 :: 59 :: u).toArray⟩) ((restOf ⟨(49 :: 51 :: 59 :: u).toArray⟩).size + 1) 0 0).1 = 0 then (0, 0, false) else (numRune (numLoop (restOf ⟨(49 :: 51 :: 59 :: u).toArray⟩) (baseOf ⟨(49 :: 51 :: 59 :: u).toArray⟩) ((restOf ⟨(49 :: 51 :: 59 :: u).toArray⟩).size + 1) 0 0).2, ((⟨(49 :: 51 :: 59 :: u).toArray⟩ : ByteArray).size : Int) - (numRest (restOf ⟨(49 :: 51 :: 59 :: u).toArray⟩) (numLoop (restOf ⟨(49 :: 51 :: 59 :: u).toArray⟩) (baseOf ⟨(49 :: 51 :: 59 :: u).toArray⟩) ((restOf ⟨(49 :: 51 :: 59 :: u).toArray⟩).size + 1) 0 0).1).size, true) := rfl
  have hr : restOf ⟨(49 :: 51 :: 59 :: u).toArray⟩ = ⟨(49 :: 51 :: 59 :: u).toArray⟩ := by unfold restOf; rw [hx]; rfl
  have hb : baseOf ⟨(49 :: 51 :: 59 :: u).toArray⟩ = 10 := by unfold baseOf; rw [hx]; rfl
  rw [e, hr, hb, hsz, hl, if_neg (by decide)]
  have hn : (numRest ⟨(49 :: 51 :: 59 :: u).toArray⟩ 2).size = u.length := by
    unfold numRest
    rw [mk_size, hsz]
    have : List.take (u.length + 3 - 2) (List.drop 2 (⟨(49 :: 51 :: 59 :: u).toArray⟩ : ByteArray).data.toList) = 59 :: u := by
      show List.take (u.length + 3 - 2) (59 :: u) = _
      rw [show u.length + 3 - 2 = u.length + 1 by omega, List.take_succ_cons, List.take_length]
    rw [this]
    simp [Lib.trimPrefix, Lib.hasPrefix, List.isPrefixOf]
  rw [hn, show numRune 13 = 13 by decide +kernel, show ((u.length + 3 : Nat) : Int) - (u.length : Int) = 3 by omega]
theorem find_13 (attr : Bool) (u : List UInt8) : findP ⟨(38 :: 35 :: 49 :: 51 :: 59 :: u).toArray⟩ attr = (13, 5, true) := by
  have hsz : (⟨(38 :: 35 :: 49 :: 51 :: 59 :: u).toArray⟩ : ByteArray).size = u.length + 5 := by rw [mk_size]; simp
  have e0 : Sv.at' ⟨(38 :: 35 :: 49 :: 51 :: 59 :: u).toArray⟩ 0 = 38 := by rw [at_mk]; rfl
  unfold findP
  rw [if_neg (by rw [e0, hsz]; omega), if_pos (by simp [Lib.hasPrefix, List.isPrefixOf]), mk_extract, hsz]
  have : List.drop 2 (List.take (u.length + 5) (38 :: 35 :: 49 :: 51 :: 59 :: u)) = 49 :: 51 :: 59 :: u := by
    rw [List.take_of_length_le (by simp)]
    rfl
  rw [this, num13]
  rfl
end Go.Proofs.YtpfhgolamlnhiaaDoor
