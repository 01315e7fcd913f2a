/- A text cut by a comment is parsed as one text. -/
import Derived.Test.YtpfhgolamlnhiaaGreatDoorVal
import Derived.Test.YtpfhgolamlnhiaaGreatDoorParse
set_option linter.unusedVariables false
set_option linter.unusedSimpArgs false
namespace Go.Proofs.YtpfhgolamlnhiaaGreatDoor.Val
open Go.RowKit Go.Proofs.YtpfhgolamlnhiaaGreatDoor Go.Proofs.YtpfhgolamlnhiaaGreatDoorW.PrintWords Go.Proofs.YtpfhgolamlnhiaaGreatDoor.XT Go.Proofs.YtpfhgolamlnhiaaGreatDoor.XQ Go.Proofs.YtpfhgolamlnhiaaGreatDoor.XA Go.Proofs.YtpfhgolamlnhiaaGreatDoor.Ascii

theorem T_ext (l : List UInt8) (i e : Nat) : (T l).extract i e = T ((l.drop i).take (e - i)) := by
  rw [← T_of ((T l).extract i e)]
  congr 1
  rw [ByteArray.data_extract, Array.toList_extract]
  simp [List.extract, T_list]
theorem T_app (a b : List UInt8) : T a ++ T b = T (a ++ b) := by
  apply ByteArray.ext
  apply Array.ext'
  simp [T]
theorem no60_stop (l : List UInt8) (j : Nat) (c : UInt8) (h : l[j]? = some c) (hc : c ≠ 60) : stopsAt (T l) j = false := by
  unfold stopsAt
  rw [T_at l j c h, beq_eq_false_iff_ne.2 (fun e => hc (by rw [← UInt8.toNat_inj]; exact e))]
  rfl
theorem textGo_run (l : List UInt8) (j0 e : Nat) (he : e ≤ l.length) (hno : ∀ (j : Nat) c, l[j]? = some c → j0 ≤ j → j < e → c ≠ 60) (hend : e = l.length ∨ stopsAt (T l) e = true) : ∀ (f j : Nat), j0 ≤ j → j ≤ e → e - j < f → textGo (T l) f j = e
  | 0, j, h0, h1, h2 => by omega
  | f + 1, j, h0, h1, h2 => by
    unfold textGo
    rw [T_size]
    by_cases hj : j < e
    · have hl : j < l.length := by omega
      rw [if_pos hl, no60_stop l j l[j] (List.getElem?_eq_getElem hl) (hno j _ (List.getElem?_eq_getElem hl) h0 hj), if_neg (by decide)]
      exact textGo_run l j0 e he hno hend f (j + 1) (by omega) (by omega) (by omega)
    · obtain rfl : j = e := by omega
      rcases hend with hend | hend
      · rw [if_neg (by omega)]
      · by_cases hj2 : j < l.length
        · rw [if_pos hj2, if_pos hend]
        · rw [if_neg hj2]
/-- A run of plain text: from i up to e. -/
theorem text_run (k : Nat) (l : List UInt8) (i e : Nat) (hie : i < e) (he : e ≤ l.length) (hl : l.length ≤ 65536) (hno : ∀ (j : Nat) c, l[j]? = some c → i ≤ j → j < e → c ≠ 60 ∧ c ≠ 38) (hend : e = l.length ∨ stopsAt (T l) e = true) :
    stepK (k + 1) (T l) i = some (0, e, ⟨3, ⟨#[]⟩, [], false, T ((l.drop i).take (e - i))⟩) := by
  have hi : i < l.length := by omega
  have n0 : nextN ((T l).extract i (T l).size) = 0 := by
    rw [T_drop]
    unfold nextN
    split
    · rfl
    · have h0 : (l.drop i)[0]? = some l[i] := by rw [List.getElem?_drop]; exact List.getElem?_eq_getElem hi
      rw [T_at _ 0 _ h0, if_pos]
      intro h
      exact (hno i _ (List.getElem?_eq_getElem hi) (Nat.le_refl _) hie).1 (by rw [← UInt8.toNat_inj]; exact h)
  have te : textEnd (T l) i = e := by
    unfold textEnd
    exact textGo_run l i e he (fun j c h h1 h2 => (hno j c h h1 h2).1) hend _ _ (by omega) (by omega) (by rw [T_size]; omega)
  unfold stepK
  rw [n0, if_pos rfl]
  unfold textK
  rw [te, T_ext, dec_plain k _ false ?_ (by rw [T_size, List.length_take, List.length_drop]; omega)]
  · rfl
  · rw [T_list, noByte]
    · decide
    · intro hm
      obtain ⟨j, hj, h⟩ := List.mem_iff_getElem.1 hm
      rw [List.length_take, List.length_drop] at hj
      rw [List.getElem_take, List.getElem_drop] at h
      exact (hno (i + j) 38 (by rw [← h]; exact List.getElem?_eq_getElem (by omega)) (by omega) (by omega)).2 rfl
def cmt : List UInt8 := [60, 33, 45, 45, 120, 45, 45, 62]
theorem step_cmt (k : Nat) (a b : List UInt8) : stepK k (T (a ++ (cmt ++ b))) a.length = some (0, a.length + 8, ⟨4, ⟨#[]⟩, [], false, ⟨#[120]⟩⟩) := by
  have d0 : (T (a ++ (cmt ++ b))).extract a.length (T (a ++ (cmt ++ b))).size = T (cmt ++ b) := by rw [T_drop, List.drop_left]
  have d4 : (T (a ++ (cmt ++ b))).extract (a.length + 4) (T (a ++ (cmt ++ b))).size = T ([120, 45, 45, 62] ++ b) := by
    rw [T_drop, ← List.drop_drop, List.drop_left]; rfl
  have n3 : nextN (T (cmt ++ b)) = 3 := by
    unfold nextN
    rw [if_neg (by rw [T_size]; simp [cmt]), T_at (cmt ++ b) 0 60 rfl, if_neg (by decide), T_at (cmt ++ b) 1 33 rfl, if_neg (by decide), if_neg (by decide), T_list, if_pos (show Lib.hasPrefix (cmt ++ b) [60, 33, 45, 45] = true from rfl)]
  have cu : Lib.cut ([120, 45, 45, 62] ++ b) [45, 45, 62] = ([120], b, true) := by
    have hx : Lib.index ([120, 45, 45, 62] ++ b) [45, 45, 62] = 1 := rfl
    unfold Lib.cut
    rw [hx, if_pos (by decide)]
    rfl
  unfold stepK
  rw [d0, n3, if_neg (by decide), if_neg (by decide), if_neg (by decide), if_pos rfl]
  unfold commentK
  rw [d4, T_list]
  dsimp only
  rw [cu]
  rfl
theorem noZero {l : List UInt8} (h : V (T l) 0) : (0 : UInt8) ∉ l := by
  intro hm
  obtain ⟨j, hj, h2⟩ := List.mem_iff_getElem.1 hm
  exact h.nz j (Nat.zero_le _) (by rw [T_size]; exact hj) (T_at l j 0 (by rw [← h2]; exact List.getElem?_eq_getElem hj))
def tText (d : ByteArray) : TokD := ⟨3, ⟨#[]⟩, [], false, d⟩
def tCmt : TokD := ⟨4, ⟨#[]⟩, [], false, ⟨#[120]⟩⟩
def texts (l : List UInt8) : List TokD := if l = [] then [] else [tText (T l)]
theorem stop_cmt (a b : List UInt8) : stopsAt (T (a ++ (cmt ++ b))) a.length = true := by
  have g0 : (a ++ (cmt ++ b))[a.length]? = some 60 := by rw [List.getElem?_append_right (Nat.le_refl _), Nat.sub_self]; rfl
  have g1 : (a ++ (cmt ++ b))[a.length + 1]? = some 33 := by rw [List.getElem?_append_right (by omega), Nat.add_sub_cancel_left]; rfl
  unfold stopsAt
  rw [T_at _ _ _ g0, T_at _ _ _ g1, bne_iff_ne.2 (by rw [T_size, List.length_append, List.length_append]; show _ ≠ a.length + (8 + b.length); omega)]
  simp
theorem tokens_cmt (a b : List UInt8) (ha : a.length ≤ 1000) (hb : b.length ≤ 1000) (hz : (0 : UInt8) ∉ a ++ b) (hno : ∀ c ∈ a ++ b, c ≠ 60 ∧ c ≠ 38) :
    tokensK 3000 (T (a ++ (cmt ++ b))) = some (texts a ++ tCmt :: texts b, 0, 0) := by
  have hsz : (T (a ++ (cmt ++ b))).size = a.length + 8 + b.length := by rw [T_size, List.length_append, List.length_append]; show a.length + (8 + b.length) = _; omega
  have hlen : (a ++ (cmt ++ b)).length = a.length + 8 + b.length := by rw [← T_size]; exact hsz
  have hzb : Lib.indexByte (a ++ (cmt ++ b)) 0 = -1 := by
    refine noByte _ _ ?_
    intro hm
    rw [List.mem_append, List.mem_append] at hm
    rcases hm with hm | hm | hm
    · exact hz (List.mem_append_left _ hm)
    · exact absurd hm (by decide)
    · exact hz (List.mem_append_right _ hm)
  -- behind the comment
  have fin : ∀ (f : Nat) (acc : List TokD), 1 < f → acc.length < 100 → tokGo 3000 (T (a ++ (cmt ++ b))) f (a.length + 8) acc = some (acc ++ texts b, 0, 0) := by
    intro f acc hf hacc
    obtain ⟨f, rfl⟩ : ∃ g, f = g + 2 := ⟨f - 2, by omega⟩
    by_cases hbn : b = []
    · subst hbn
      rw [tokGo, if_neg (by rw [hsz]; simp), if_pos (by rw [hsz]; simp)]
      simp [texts]
    · have hbl : 0 < b.length := List.length_pos_iff.2 hbn
      have hs := text_run 2999 (a ++ (cmt ++ b)) (a.length + 8) (a.length + 8 + b.length) (by omega) (by omega) (by omega) (fun j c h h1 h2 => by
        rw [List.getElem?_append_right (by omega), List.getElem?_append_right (by show 8 ≤ _; omega)] at h
        exact hno c (List.mem_append_right _ (List.mem_of_getElem? h))) (.inl hlen.symm)
      have hd : ((a ++ (cmt ++ b)).drop (a.length + 8)).take (a.length + 8 + b.length - (a.length + 8)) = b := by
        rw [← List.drop_drop, List.drop_left, show a.length + 8 + b.length - (a.length + 8) = b.length by omega, show (cmt ++ b).drop 8 = b from rfl, List.take_length]
      rw [hd] at hs
      rw [tokGo, if_pos (by omega), if_pos (by omega), hs, Option.bind_some, if_pos rfl, if_pos (by dsimp only; omega), tokGo, if_neg (by dsimp only; omega), if_pos (by dsimp only; omega)]
      simp [texts, hbn, tText]
  unfold tokensK
  rw [if_neg (by omega), T_list, hzb, if_neg (by decide)]
  have mid : ∀ (f : Nat) (acc : List TokD), 2 < f → acc.length < 50 → tokGo 3000 (T (a ++ (cmt ++ b))) f a.length acc = some (acc ++ tCmt :: texts b, 0, 0) := by
    intro f acc hf hacc
    obtain ⟨f, rfl⟩ : ∃ g, f = g + 1 := ⟨f - 1, by omega⟩
    rw [tokGo, if_pos (by omega), if_pos (by omega), step_cmt, Option.bind_some, if_pos rfl, if_pos (by dsimp only; omega), fin f _ (by omega) (by simp; omega)]
    simp [tCmt]
  by_cases han : a = []
  · subst han
    have h := mid 3000 [] (by omega) (by decide)
    simpa [texts] using h
  · have hal : 0 < a.length := List.length_pos_iff.2 han
    have hs := text_run 2999 (a ++ (cmt ++ b)) 0 a.length hal (by omega) (by omega) (fun j c h h1 h2 => by
      rw [List.getElem?_append_left h2] at h
      exact hno c (List.mem_append_left _ (List.mem_of_getElem? h))) (.inr (stop_cmt a b))
    have hd : ((a ++ (cmt ++ b)).drop 0).take (a.length - 0) = a := by rw [List.drop_zero, Nat.sub_zero, List.take_left]
    rw [hd] at hs
    change stepK 3000 _ 0 = _ at hs
    show tokGo 3000 (T (a ++ (cmt ++ b))) (2999 + 1) 0 [] = _
    rw [tokGo, if_pos (by omega), if_pos (by simp), hs, Option.bind_some, if_pos rfl, if_pos (by dsimp only; omega)]
    rw [mid 2999 _ (by omega) (by simp)]
    simp [texts, han, tText]
def bText (d : ByteArray) : Bs := ⟨[⟨0, ⟨#[]⟩, [], ⟨#[]⟩, -1, [1]⟩, ⟨2, ⟨#[]⟩, [], d, 0, []⟩], [0]⟩
theorem text_first (l : List UInt8) (h : l ≠ []) : textB bs0 (T l) = some (0, bText (T l)) := by
  unfold textB
  rw [Lib.toList_data, T_list, if_neg (by simpa using h), if_pos (by decide), if_neg (by decide)]
  unfold addB
  rw [if_neg (by decide), if_pos (by decide)]
  rfl
theorem text_more (d : ByteArray) (hd : d.size ≤ 1000) (l : List UInt8) (h : l ≠ []) (hl : l.length ≤ 1000) : textB (bText d) (T l) = some (0, bText (d ++ T l)) := by
  have ht : topOk (bText d) := ⟨show 0 < 1 by decide, show (0 : Int) ≤ 0 by decide, show (0 : Int) < 2 by decide⟩
  have hk : rd (topN (bText d)).f5 (((topN (bText d)).f5.length : Int) - 1) = 1 := rfl
  have h1 : 0 < (topN (bText d)).f5.length := show 0 < 1 by decide
  have h2 : (0 : Int) ≤ 1 ∧ (1 : Int) < ((bText d).t.length : Int) := show (0 : Int) ≤ 1 ∧ (1 : Int) < 2 by decide
  have h3 : (rd_T38 (bText d).t 1).f0 = 2 := rfl
  have h4 : (rd_T38 (bText d).t 1).f3.size + (T l).size ≤ 4611686018427387904 := show d.size + (T l).size ≤ 4611686018427387904 by rw [T_size]; omega
  unfold textB
  rw [Lib.toList_data, T_list, if_neg (by simpa using h), if_pos ht, if_pos h1]
  dsimp only
  rw [hk, if_pos h2, if_pos h3, if_pos h4]
  rfl
theorem build_cmt (a b : List UInt8) (ha : a.length ≤ 1000) (hb : b.length ≤ 1000) (hn : a ++ b ≠ []) : buildK 3000 (texts a ++ tCmt :: texts b) = some ((bText (T (a ++ b))).t, 0, 0) := by
  have c1 : ∀ (x : Bs) (i : Int), tokB 3000 x i tCmt = some (0, x) := by
    intro x i
    unfold tokB
    rw [if_neg (by decide), if_neg (by decide), if_neg (by decide), if_neg (by rintro ⟨h, _⟩; exact absurd h (by decide))]
  have t1 : ∀ (x : Bs) (i : Int) (d : ByteArray), tokB 3000 x i (tText d) = textB x d := by
    intro x i d
    unfold tokB
    have e1 : ¬ (tText d).f0 = 1 := show ¬ (3 : Int) = 1 by decide
    have e2 : ¬ (tText d).f0 = 2 := show ¬ (3 : Int) = 2 by decide
    have e3 : (tText d).f0 = 3 := rfl
    rw [if_neg e1, if_neg e2, if_pos e3]
    rfl
  unfold buildK
  by_cases han : a = []
  · subst han
    have hbn : b ≠ [] := by simpa using hn
    rw [show texts ([] : List UInt8) = [] from rfl, show texts b = [tText (T b)] from if_neg hbn, List.nil_append, List.nil_append]
    rw [buildGo, c1, Option.bind_some, if_pos rfl, buildGo, t1, text_first b hbn, Option.bind_some, if_pos rfl, buildGo]
  · rw [show texts a = [tText (T a)] from if_neg han, List.singleton_append]
    rw [buildGo, t1, text_first a han, Option.bind_some, if_pos rfl, buildGo, c1, Option.bind_some, if_pos rfl]
    by_cases hbn : b = []
    · subst hbn
      rw [show texts ([] : List UInt8) = [] from rfl, buildGo, List.append_nil]
    · rw [show texts b = [tText (T b)] from if_neg hbn, buildGo, t1, text_more (T a) (by rw [T_size]; exact ha) b hbn hb, Option.bind_some, if_pos rfl, buildGo, T_app]
theorem V_cmt : V (T cmt) 0 := by
  refine V_low (T cmt) (fun i hi => ?_) _ 0 rfl (Nat.zero_le _)
  have h8 : i < 8 := hi
  rcases (by omega : i = 0 ∨ i = 1 ∨ i = 2 ∨ i = 3 ∨ i = 4 ∨ i = 5 ∨ i = 6 ∨ i = 7) with rfl | rfl | rfl | rfl | rfl | rfl | rfl | rfl <;> decide
/-- A text cut by a comment. -/
theorem parse_cmt (a b : ByteArray) (ha : V a 0) (hb : V b 0) (hla : a.size ≤ 1000) (hlb : b.size ≤ 1000) (hs : 0 < (a ++ b).size) (hno : ∀ c ∈ (a ++ b).data.toList, c ≠ 60 ∧ c ≠ 38 ∧ c ≠ 13) :
    parseK 3000 (bytesOf (T (a.data.toList ++ (cmt ++ b.data.toList)))) = some ((bText (a ++ b)).t, 0, 0) := by
  obtain ⟨⟨la⟩⟩ := a
  obtain ⟨⟨lb⟩⟩ := b
  change V (T la) 0 at ha
  change V (T lb) 0 at hb
  change (T la).size ≤ 1000 at hla
  change (T lb).size ≤ 1000 at hlb
  change 0 < (T la ++ T lb).size at hs
  change ∀ c ∈ (T la ++ T lb).data.toList, _ at hno
  show parseK 3000 (bytesOf (T (la ++ (cmt ++ lb)))) = some ((bText (T la ++ T lb)).t, 0, 0)
  rw [T_app] at hs hno ⊢
  rw [T_size] at hla hlb hs
  rw [T_list] at hno
  have hV : V (T (la ++ (cmt ++ lb))) 0 := by
    rw [← T_app, ← T_app]
    exact ha.app (V_cmt.app hb)
  have hz : (0 : UInt8) ∉ la ++ lb := by
    rw [List.mem_append]
    rintro (h | h)
    · exact noZero ha h
    · exact noZero hb h
  have hsz : (T (la ++ (cmt ++ lb))).size = la.length + 8 + lb.length := by rw [T_size, List.length_append, List.length_append]; show la.length + (8 + lb.length) = _; omega
  have h13 : ∀ i, i < (T (la ++ (cmt ++ lb))).size → Sv.at' (T (la ++ (cmt ++ lb))) i ≠ 13 := by
    intro i hi h
    rw [T_size] at hi
    rw [T_at _ i _ (List.getElem?_eq_getElem hi)] at h
    have hm : (la ++ (cmt ++ lb))[i] ∈ la ++ (cmt ++ lb) := List.getElem_mem hi
    have e : (la ++ (cmt ++ lb))[i] = 13 := by rw [← UInt8.toNat_inj]; exact h
    rw [e, List.mem_append, List.mem_append] at hm
    rcases hm with hm | hm | hm
    · exact (hno 13 (List.mem_append_left _ hm)).2.2 rfl
    · exact absurd hm (by decide)
    · exact (hno 13 (List.mem_append_right _ hm)).2.2 rfl
  unfold parseK
  rw [utf_V 3000 _ hV h13 (by omega) (by omega), Option.bind_some, if_neg (by simp), if_neg (by dsimp only; omega)]
  dsimp only
  rw [tokens_cmt la lb hla hlb hz (fun c hc => ⟨(hno c hc).1, (hno c hc).2.1⟩), Option.bind_some, if_neg (by simp), build_cmt la lb hla hlb (List.length_pos_iff.1 hs)]
end Go.Proofs.YtpfhgolamlnhiaaGreatDoor.Val
