/-
  The plain law of the lexer, third part: names, strings, operators, and the token at a place.
-/
import Derived.Test.YtflmpgepboldfaaDoorLy
namespace Go.Proofs.YtflmpgepboldfaaDoor.Lx
open Go.RowKit Go.Proofs.YtflmpgepboldfaaDoor.G Go.Proofs.YtflmpgepboldfaaDoorW.PrintWords Go.Proofs.YtflmpgepboldfaaDoorW.PrintLast

/-! ### names -/
def resv (t : ByteArray) : Bool := (lex_Reserved.f t).getD false
theorem lex_resv (t : ByteArray) : lex_Reserved.f t = some (resv t) := by
  unfold resv lex_Reserved.f
  repeat' split
  all_goals rfl
theorem ref_resv (t : ByteArray) : imageeditorref53_Reserved.f t = some (resv t) := lex_resv t
def nameErr (t : List UInt8) : Int := if t.length > 32 then 13 else 0
def nameKind (t : List UInt8) : Int := if resv ⟨t.toArray⟩ then 5 else 3
theorem lex_name_at (s : ByteArray) (hs : s.size ≤ 16384) (l : List UInt8) (i : Int) (h : AtL s i l) :
    ∃ j, AtL s j (l.dropWhile isN) ∧ lex_lexer_name.f s i = some (nameKind (l.takeWhile isN), ⟨(l.takeWhile isN).toArray⟩, 0, nameErr (l.takeWhile isN), s, j) := by
  obtain ⟨hr, hat⟩ := run_at lexN s l i h
  have hat' : AtL s (runE lexN s i) (l.dropWhile isN) := hat
  refine ⟨runE lexN s i, hat', ?_⟩
  have hpre : l.takeWhile isN <+: l := List.takeWhile_prefix _
  have hlen := hpre.length_le
  have htx : s.extract i.toNat (runE lexN s i).toNat = ⟨(l.takeWhile isN).toArray⟩ := by
    rw [hr]
    have := h.text _ hlen
    rw [← List.prefix_iff_eq_take.1 hpre] at this
    exact this
  unfold lex_lexer_name.f
  rw [if_pos ⟨h.1, h.2.1, by omega⟩, htx, lex_resv, Option.bind_some]
  have hz : (⟨(l.takeWhile isN).toArray⟩ : ByteArray).size = (l.takeWhile isN).length := by simp [size_data]
  rw [hz]
  rfl
theorem ref_name_at (s : ByteArray) (hs : s.size ≤ 16384) (i0 : Int) (l0 : List UInt8) (h0 : AtL s i0 l0) (l : List UInt8) : ∀ (n : Nat) (i : Int), l = l0.drop n → n ≤ l0.length → n = (l0.length - l.length) → l0.takeWhile isN = l0.take n ++ l.takeWhile isN → AtL s i l →
    ∃ k t a j, Ev (fun k => imageeditorref53_token.l0 k s i0 i) (k, t, a, j, nameErr (l0.takeWhile isN)) ∧ (nameErr (l0.takeWhile isN) = 0 → k = nameKind (l0.takeWhile isN) ∧ t = ⟨(l0.takeWhile isN).toArray⟩ ∧ a = i0 ∧ AtL s j (l.dropWhile isN)) := by
  have fin : ∀ (l : List UInt8) (n : Nat) (i : Int), l = l0.drop n → n ≤ l0.length → l0.takeWhile isN = l0.take n → AtL s i l →
      ∃ k t a j, Ev (fun k => imageeditorref53_token.j1 k s i0 i) (k, t, a, j, nameErr (l0.takeWhile isN)) ∧ (nameErr (l0.takeWhile isN) = 0 → k = nameKind (l0.takeWhile isN) ∧ t = ⟨(l0.takeWhile isN).toArray⟩ ∧ a = i0 ∧ AtL s j l) := by
    intro l n i e hn ht h
    have hi : i = i0 + n := by
      have := h.len; have := h0.len; rw [e, List.length_drop] at *; omega
    have hw : wrap64 (i - i0) = n := by rw [hi]; unfold wrap64; have := h0.len; have := h0.1; omega
    have hz : (l0.takeWhile isN).length = n := by rw [ht, List.length_take]; omega
    by_cases hbig : n > 32
    · refine ⟨0, ⟨#[]⟩, 0, i, Ev.step (fun k => ?_) (Ev.now _), fun he => ?_⟩
      · rw [imageeditorref53_token.j1, hw, if_pos (by omega)]
        unfold nameErr; rw [if_pos (by omega)]
      · unfold nameErr at he; rw [if_pos (by omega)] at he; omega
    · have hne : nameErr (l0.takeWhile isN) = 0 := by unfold nameErr; rw [if_neg (by omega)]
      have htx : s.extract i0.toNat i.toNat = ⟨(l0.takeWhile isN).toArray⟩ := by
        rw [hi, h0.text n hn, ht]
      refine ⟨nameKind (l0.takeWhile isN), ⟨(l0.takeWhile isN).toArray⟩, i0, i, Ev.step (fun k => ?_) (Ev.now _), fun _ => ⟨rfl, rfl, rfl, h⟩⟩
      rw [imageeditorref53_token.j1, hw, if_neg (by omega), if_pos h0.1, if_pos (by omega), if_pos h.2.1, htx, ref_resv, Option.bind_some, hne]
      unfold nameKind
      cases resv ⟨(l0.takeWhile isN).toArray⟩ <;> rfl
  induction l with
  | nil =>
    intro n i e hn _ ht h
    obtain ⟨k, t, a, j, h1, h2⟩ := fin [] n i e hn (by simpa using ht) h
    refine ⟨k, t, a, j, Ev.step (fun k => ?_) h1, by simpa using h2⟩
    rw [imageeditorref53_token.l0, if_neg (by have := h.fin; omega)]
  | cons c cs ih =>
    intro n i e hn hnl ht h
    have hlt := h.lt
    have hb := h.byte
    have hL : imageeditorref53_letter.f (bt s i) = some (isL c) := by rw [hb]; exact isLetter_f _
    have hD : imageeditorref53_digit.f (bt s i) = some (isD c) := by rw [hb]; exact isDigit_f _
    have hN : isN c = (isL c || isD c) := rfl
    have hw : wrap64 (i + 1) = i + 1 := wrap_small (by have := h.1; omega) (by omega)
    cases hc : isN c with
    | false =>
      rw [hc] at hN
      obtain ⟨k, t, a, j, h1, h2⟩ := fin (c :: cs) n i e hn (by simpa [List.takeWhile_cons, hc] using ht) h
      refine ⟨k, t, a, j, Ev.step (fun k => ?_) h1, by simpa [List.dropWhile_cons, hc] using h2⟩
      have h3 : isL c = false ∧ isD c = false := by simpa using hN.symm
      rw [imageeditorref53_token.l0, if_pos hlt, if_pos h.1, hL, h3.1, Option.bind_some, if_neg (by simp), hD, h3.2, Option.bind_some, if_neg (by simp)]
    | true =>
      rw [hc] at hN
      have hlen : n < l0.length := by
        have := congrArg List.length e; rw [List.length_cons, List.length_drop] at this; omega
      have e1 : l0[n]'hlen = c ∧ cs = l0.drop (n + 1) := by
        rw [List.drop_eq_getElem_cons hlen] at e
        exact ⟨(List.cons.inj e).1.symm, (List.cons.inj e).2⟩
      obtain ⟨k, t, a, j, h1, h2⟩ := ih (n + 1) (i + 1) e1.2 (by omega) (by rw [e1.2, List.length_drop]; omega)
        (by rw [ht, List.takeWhile_cons, hc, List.take_succ_eq_append_getElem hlen, e1.1]; simp) h.tail
      refine ⟨k, t, a, j, Ev.step (fun k => ?_) h1, by simpa [List.dropWhile_cons, hc] using h2⟩
      rw [imageeditorref53_token.l0, if_pos hlt, if_pos h.1, hL, Option.bind_some]
      cases hl : isL c with
      | true => rw [if_pos rfl, hw]
      | false =>
        rw [hl] at hN
        rw [if_neg (by simp), hD, show isD c = true by simpa using hN.symm, Option.bind_some, if_pos rfl, hw]

/-! ### strings -/
/-- the value of a string's rest behind the quotation mark, and what follows -/
def qtx : List UInt8 → List UInt8 → Option (List UInt8 × List UInt8)
  | [], _ => none
  | [c], b => if c = 34 then some (b, []) else none
  | c :: d :: ds, b =>
    if c = 34 then some (b, d :: ds)
    else if c.toNat < 32 ∨ 126 < c.toNat then none
    else if c = 92 then (if d = 92 ∨ d = 34 then qtx ds (b ++ [d]) else if d = 110 then qtx ds (b ++ [10]) else none)
    else qtx (d :: ds) (b ++ [c])
def strErr (v : List UInt8) : Int := if v.length > 256 then 3 else 0
def nums (v : List UInt8) : List Int := v.map fun c => (c.toNat : Int)
theorem nums_back (v : List UInt8) : (nums v).map (fun c => c.toNat.toUInt8) = v := by
  unfold nums
  rw [List.map_map]
  conv => rhs; rw [← List.map_id v]
  refine List.map_congr_left fun c _ => ?_
  show ((c.toNat : Int)).toNat.toUInt8 = c
  rw [Int.toNat_natCast]
  exact UInt8.ofNat_toNat
theorem strOfNums_nums (v : List UInt8) : strOfNums (nums v) = ⟨v.toArray⟩ := by
  unfold strOfNums
  have := nums_back v
  congr 1
  rw [show ((nums v).map fun n => UInt8.ofNat n.toNat) = v from this]
theorem nums_snoc (v : List UInt8) (c : UInt8) : nums (v ++ [c]) = nums v ++ [(c.toNat : Int)] := by simp [nums]
theorem nums_len (v : List UInt8) : (nums v).length = v.length := by simp [nums]
/-- what is told of the end of a string -/
def QOut (s : ByteArray) (o : Option (List UInt8 × List UInt8)) (k : Int) (t : ByteArray) (e j : Int) : Prop :=
  match o with
  | none => e = 18
  | some (v, r) => e = strErr v ∧ (e = 0 → k = 2 ∧ t = ⟨v.toArray⟩ ∧ AtL s j r)
theorem u8_lt (c : UInt8) : c.toNat < 256 := c.toNat_lt
theorem lex_quo_at (s : ByteArray) : ∀ (n : Nat) (l acc : List UInt8) (i : Int), l.length < n → AtL s i l →
    ∃ k t e j, quo0 s n i (nums acc) = some (k, t, 0, e, s, j) ∧ QOut s (qtx l acc) k t e j := by
  intro n
  induction n with
  | zero => intro l acc i hl; omega
  | succ n ih =>
    intro l acc i hl h
    cases l with
    | nil => exact ⟨0, ⟨#[]⟩, 18, i, by rw [quo0, if_neg (by have := h.fin; omega)], rfl⟩
    | cons c cs =>
      have hlt := h.lt
      have hb := h.byte
      simp only [List.length_cons] at hl
      by_cases c34 : c = 34
      · have e1 : bt s i = 34 := by rw [hb, c34]; rfl
        have hq : qtx (c :: cs) acc = some (acc, cs) := by cases cs <;> rw [qtx, if_pos c34]
        by_cases hbig : acc.length > 256
        · exact ⟨0, ⟨#[]⟩, 3, i + 1, by rw [quo0, if_pos hlt, if_pos e1, if_pos (by rw [nums_len]; exact hbig)], by rw [hq]; exact ⟨by unfold strErr; rw [if_pos hbig], fun h => by omega⟩⟩
        · exact ⟨2, ⟨acc.toArray⟩, 0, i + 1, by rw [quo0, if_pos hlt, if_pos e1, if_neg (by rw [nums_len]; exact hbig), nums_back], by rw [hq]; exact ⟨by unfold strErr; rw [if_neg hbig], fun _ => ⟨rfl, rfl, h.tail⟩⟩⟩
      · have e1 : ¬ bt s i = 34 := fun e => c34 (by rw [hb] at e; exact (u8_eq (n := 34) (by omega)).2 e)
        by_cases hr : c.toNat < 32 ∨ 126 < c.toNat
        · have hr' : bt s i < 32 ∨ bt s i > 126 := by rw [hb]; omega
          refine ⟨0, ⟨#[]⟩, 18, i, by rw [quo0, if_pos hlt, if_neg e1, if_pos hr'], ?_⟩
          cases cs with
          | nil => rw [qtx, if_neg c34]; rfl
          | cons d ds => rw [qtx, if_neg c34, if_pos hr]; rfl
        · have hr' : ¬ (bt s i < 32 ∨ bt s i > 126) := by rw [hb]; omega
          by_cases c92 : c = 92
          · have e2 : bt s i = 92 := by rw [hb, c92]; rfl
            cases cs with
            | nil => exact ⟨0, ⟨#[]⟩, 18, i + 1, by rw [quo0, if_pos hlt, if_neg e1, if_neg hr', if_pos e2, if_pos (by have := h.tail.fin; omega)], by rw [qtx, if_neg c34]; rfl⟩
            | cons d ds =>
              have h2 := h.tail
              have hb2 := h2.byte
              have hge : ¬ i + 1 ≥ (s.size : Int) := by have := h2.lt; omega
              simp only [List.length_cons] at hl
              have h3 : AtL s (i + 2) ds := by have := h2.tail; rwa [show i + 1 + 1 = i + 2 by omega] at this
              by_cases d1 : d = 92 ∨ d = 34
              · have e3 : bt s (i + 1) = 92 ∨ bt s (i + 1) = 34 := by rw [hb2]; rcases d1 with rfl | rfl; exact .inl rfl; exact .inr rfl
                obtain ⟨k, t, e, j, hk, ho⟩ := ih ds (acc ++ [d]) (i + 2) (by omega) h3
                refine ⟨k, t, e, j, ?_, by rw [qtx, if_neg c34, if_neg hr, if_pos c92, if_pos d1]; exact ho⟩
                rw [quo0, if_pos hlt, if_neg e1, if_neg hr', if_pos e2, if_neg hge, if_pos e3, hb2, ← nums_snoc]; exact hk
              · have e3 : ¬ (bt s (i + 1) = 92 ∨ bt s (i + 1) = 34) := fun e => d1 (by rw [hb2] at e; exact e.elim (fun e => .inl ((u8_eq (n := 92) (by omega)).2 e)) (fun e => .inr ((u8_eq (n := 34) (by omega)).2 e)))
                by_cases d2 : d = 110
                · have e4 : bt s (i + 1) = 110 := by rw [hb2, d2]; rfl
                  obtain ⟨k, t, e, j, hk, ho⟩ := ih ds (acc ++ [10]) (i + 2) (by omega) h3
                  refine ⟨k, t, e, j, ?_, by rw [qtx, if_neg c34, if_neg hr, if_pos c92, if_neg d1, if_pos d2]; exact ho⟩
                  rw [quo0, if_pos hlt, if_neg e1, if_neg hr', if_pos e2, if_neg hge, if_neg e3, if_pos e4]
                  rw [nums_snoc] at hk; exact hk
                · have e4 : ¬ bt s (i + 1) = 110 := fun e => d2 (by rw [hb2] at e; exact (u8_eq (n := 110) (by omega)).2 e)
                  exact ⟨0, ⟨#[]⟩, 18, i + 1, by rw [quo0, if_pos hlt, if_neg e1, if_neg hr', if_pos e2, if_neg hge, if_neg e3, if_neg e4], by rw [qtx, if_neg c34, if_neg hr, if_pos c92, if_neg d1, if_neg d2]; rfl⟩
          · have e2 : ¬ bt s i = 92 := fun e => c92 (by rw [hb] at e; exact (u8_eq (n := 92) (by omega)).2 e)
            obtain ⟨k, t, e, j, hk, ho⟩ := ih cs (acc ++ [c]) (i + 1) (by omega) h.tail
            refine ⟨k, t, e, j, ?_, ?_⟩
            · rw [quo0, if_pos hlt, if_neg e1, if_neg hr', if_neg e2, hb, ← nums_snoc]; exact hk
            · cases cs with
              | nil =>
                rw [qtx, if_neg c34]
                rw [qtx] at ho
                exact ho
              | cons d ds => rw [qtx, if_neg c34, if_neg hr, if_neg c92]; exact ho
theorem ref_text_at (s : ByteArray) (hs : s.size ≤ 16384) : ∀ (n : Nat) (l acc : List UInt8) (i : Int), l.length < n → acc.length + l.length ≤ s.size → AtL s i l →
    ∃ t e j, Ev (fun k => imageeditorref53_text.l0 k s i (nums acc)) (t, j, e) ∧ QOut s (qtx l acc) 2 t e j := by
  intro n
  induction n with
  | zero => intro l acc i hl; omega
  | succ n ih =>
    intro l acc i hl hacc h
    cases l with
    | nil =>
      refine ⟨⟨#[]⟩, 18, i, Ev.step (f := fun k => imageeditorref53_text.j1 k s i (nums acc) true) (fun k => ?_) (Ev.step (fun k => ?_) (Ev.now _)), rfl⟩
      · rw [imageeditorref53_text.l0, if_pos (by have := h.fin; omega)]
      · rw [imageeditorref53_text.j1, if_pos rfl]
    | cons c cs =>
      have hlt := h.lt
      have hb := h.byte
      have h0 := h.1
      have hge : ¬ i ≥ (s.size : Int) := by omega
      have hw : wrap64 (i + 1) = i + 1 := wrap_small (by omega) (by omega)
      simp only [List.length_cons] at hl hacc
      by_cases hr : c.toNat < 32 ∨ 126 < c.toNat
      · have c34 : ¬ c = 34 := by rintro rfl; revert hr; decide
        refine ⟨⟨#[]⟩, 18, i, Ev.step (f := fun k => imageeditorref53_text.j1 k s i (nums acc) true) (fun k => ?_) (Ev.step (fun k => ?_) (Ev.now _)), ?_⟩
        · rw [imageeditorref53_text.l0, if_neg hge, if_pos h0, if_pos hlt]
          by_cases h32 : bt s i < 32
          · rw [if_pos h32]
          · rw [if_neg h32, decide_eq_true (show bt s i > 126 by omega)]
        · rw [imageeditorref53_text.j1, if_pos rfl]
        · cases cs with
          | nil => rw [qtx, if_neg c34]; rfl
          | cons d ds => rw [qtx, if_neg c34, if_pos hr]; rfl
      · have e0 : ∀ r, Ev (fun k => imageeditorref53_text.j1 k s i (nums acc) false) r → Ev (fun k => imageeditorref53_text.l0 k s i (nums acc)) r := fun r hev => by
          refine Ev.step (fun k => ?_) hev
          rw [imageeditorref53_text.l0, if_neg hge, if_pos h0, if_pos hlt, if_neg (by omega), decide_eq_false (show ¬ bt s i > 126 by omega)]
        by_cases c34 : c = 34
        · have e1 : bt s i = 34 := by rw [hb, c34]; rfl
          have hq : qtx (c :: cs) acc = some (acc, cs) := by cases cs <;> rw [qtx, if_pos c34]
          by_cases hbig : acc.length > 256
          · refine ⟨⟨#[]⟩, 3, i + 1, e0 _ (Ev.step (fun k => ?_) (Ev.now _)), by rw [hq]; exact ⟨by unfold strErr; rw [if_pos hbig], fun h => by omega⟩⟩
            rw [imageeditorref53_text.j1, if_neg (by simp), if_pos h0, if_pos hlt, if_pos e1, if_pos (by rw [nums_len]; omega), hw]
          · refine ⟨⟨acc.toArray⟩, 0, i + 1, e0 _ (Ev.step (fun k => ?_) (Ev.now _)), by rw [hq]; exact ⟨by unfold strErr; rw [if_neg hbig], fun _ => ⟨rfl, rfl, h.tail⟩⟩⟩
            rw [imageeditorref53_text.j1, if_neg (by simp), if_pos h0, if_pos hlt, if_pos e1, if_neg (by rw [nums_len]; omega), hw, strOfNums_nums]
        · have e1 : ¬ bt s i = 34 := fun e => c34 (by rw [hb] at e; exact (u8_eq (n := 34) (by omega)).2 e)
          by_cases c92 : c = 92
          · have e2 : bt s i = 92 := by rw [hb, c92]; rfl
            cases cs with
            | nil =>
              refine ⟨⟨#[]⟩, 18, i + 1, e0 _ (Ev.step (fun k => ?_) (Ev.now _)), by rw [qtx, if_neg c34]; rfl⟩
              rw [imageeditorref53_text.j1, if_neg (by simp), if_pos h0, if_pos hlt, if_neg e1, if_pos e2, hw, if_pos (by have := h.tail.fin; omega)]
            | cons d ds =>
              have h2 := h.tail
              have hb2 := h2.byte
              have hlt2 := h2.lt
              have hge2 : ¬ i + 1 ≥ (s.size : Int) := by omega
              simp only [List.length_cons] at hl hacc
              have h3 := h2.tail
              have hw2 : wrap64 (i + 1 + 1) = i + 1 + 1 := wrap_small (by omega) (by omega)
              have hroom : (nums acc).length < 140737488355328 := by rw [nums_len]; omega
              by_cases d2 : d = 110
              · have e4 : bt s (i + 1) = 110 := by rw [hb2, d2]; rfl
                obtain ⟨t, e, j, hk, ho⟩ := ih ds (acc ++ [10]) (i + 1 + 1) (by omega) (by simp; omega) h3
                refine ⟨t, e, j, e0 _ (Ev.step (fun k => ?_) hk), by rw [qtx, if_neg c34, if_neg hr, if_pos c92, if_neg (by subst d2; decide), if_pos d2]; exact ho⟩
                rw [imageeditorref53_text.j1, if_neg (by simp), if_pos h0, if_pos hlt, if_neg e1, if_pos e2, hw, if_neg hge2, if_pos (by omega), if_pos hlt2, if_pos e4, if_pos hroom, hw2, nums_snoc]; rfl
              · have e4 : ¬ bt s (i + 1) = 110 := fun e => d2 (by rw [hb2] at e; exact (u8_eq (n := 110) (by omega)).2 e)
                by_cases d1 : d = 92 ∨ d = 34
                · obtain ⟨t, e, j, hk, ho⟩ := ih ds (acc ++ [d]) (i + 1 + 1) (by omega) (by simp; omega) h3
                  refine ⟨t, e, j, e0 _ (Ev.step (fun k => ?_) hk), by rw [qtx, if_neg c34, if_neg hr, if_pos c92, if_pos d1]; exact ho⟩
                  rw [imageeditorref53_text.j1, if_neg (by simp), if_pos h0, if_pos hlt, if_neg e1, if_pos e2, hw, if_neg hge2, if_pos (by omega), if_pos hlt2, if_neg e4]
                  by_cases e5 : bt s (i + 1) = 92
                  · rw [if_pos e5, if_pos hroom, hw2, nums_snoc, hb2]
                  · have e6 : bt s (i + 1) = 34 := by
                      rcases d1 with rfl | rfl
                      · exact absurd hb2 e5
                      · exact hb2
                    rw [if_neg e5, if_pos e6, if_pos hroom, hw2, nums_snoc, hb2]
                · have e5 : ¬ bt s (i + 1) = 92 := fun e => d1 (.inl (by rw [hb2] at e; exact (u8_eq (n := 92) (by omega)).2 e))
                  have e6 : ¬ bt s (i + 1) = 34 := fun e => d1 (.inr (by rw [hb2] at e; exact (u8_eq (n := 34) (by omega)).2 e))
                  refine ⟨⟨#[]⟩, 18, i + 1 + 1, e0 _ (Ev.step (fun k => ?_) (Ev.now _)), by rw [qtx, if_neg c34, if_neg hr, if_pos c92, if_neg d1, if_neg d2]; rfl⟩
                  rw [imageeditorref53_text.j1, if_neg (by simp), if_pos h0, if_pos hlt, if_neg e1, if_pos e2, hw, if_neg hge2, if_pos (by omega), if_pos hlt2, if_neg e4, if_neg e5, if_neg e6, hw2]
          · have e2 : ¬ bt s i = 92 := fun e => c92 (by rw [hb] at e; exact (u8_eq (n := 92) (by omega)).2 e)
            obtain ⟨t, e, j, hk, ho⟩ := ih cs (acc ++ [c]) (i + 1) (by omega) (by simp; omega) h.tail
            refine ⟨t, e, j, e0 _ (Ev.step (fun k => ?_) hk), ?_⟩
            · rw [imageeditorref53_text.j1, if_neg (by simp), if_pos h0, if_pos hlt, if_neg e1, if_neg e2, if_pos (by rw [nums_len]; omega), hw, nums_snoc, hb]
            · cases cs with
              | nil =>
                rw [qtx, if_neg c34]
                rw [qtx] at ho
                exact ho
              | cons d ds => rw [qtx, if_neg c34, if_neg hr, if_neg c92]; exact ho
end Go.Proofs.YtflmpgepboldfaaDoor.Lx
