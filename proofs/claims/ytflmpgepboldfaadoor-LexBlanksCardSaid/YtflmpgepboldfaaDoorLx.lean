/-
  The plain law of the lexer: what the program's and the reference's Lean functions compute, by one clean reading over lists of bytes. No program in sight. (Blanks and comments here.)
-/
import Derived.Test.YtflmpgepboldfaaDoorG6
import Derived.Lib.IndexBytes
import Derived.Lib.Strings
namespace Go.Proofs.YtflmpgepboldfaaDoor.Lx
open Go.RowKit Go.Proofs.YtflmpgepboldfaaDoor.G Go.Proofs.YtflmpgepboldfaaDoorW.PrintWords Go.Proofs.YtflmpgepboldfaaDoorW.PrintLast

theorem ba_ext {a b : ByteArray} (h : a.data.toList = b.data.toList) : a = b := by
  cases a; cases b; simp only at h; rw [Array.toList_inj.1 h]
theorem size_data (s : ByteArray) : s.size = s.data.toList.length := by simp

/-- the rest of s from i on is l -/
def AtL (s : ByteArray) (i : Int) (l : List UInt8) : Prop := 0 ≤ i ∧ i ≤ (s.size : Int) ∧ s.data.toList.drop i.toNat = l
theorem AtL.len {s : ByteArray} {i : Int} {l : List UInt8} (h : AtL s i l) : i + l.length = s.size := by
  obtain ⟨h0, h1, rfl⟩ := h
  rw [List.length_drop, ← size_data]; omega
theorem AtL.start (s : ByteArray) : AtL s 0 s.data.toList := ⟨by omega, by omega, rfl⟩
theorem AtL.drop {s : ByteArray} {i : Int} {l : List UInt8} (h : AtL s i l) (n : Nat) (hn : n ≤ l.length) : AtL s (i + n) (l.drop n) := by
  have hl := h.len
  obtain ⟨h0, h1, rfl⟩ := h
  refine ⟨by omega, by omega, ?_⟩
  rw [List.drop_drop, show (i + n).toNat = i.toNat + n by omega]
theorem AtL.lt {s : ByteArray} {i : Int} {c : UInt8} {cs : List UInt8} (h : AtL s i (c :: cs)) : i < (s.size : Int) := by
  have := h.len; simp at this; omega
theorem AtL.tail {s : ByteArray} {i : Int} {c : UInt8} {cs : List UInt8} (h : AtL s i (c :: cs)) : AtL s (i + 1) cs := h.drop 1 (by simp)
theorem AtL.byte {s : ByteArray} {i : Int} {c : UInt8} {cs : List UInt8} (h : AtL s i (c :: cs)) : bt s i = (c.toNat : Int) := by
  have hlt := h.lt
  obtain ⟨h0, h1, h2⟩ := h
  have hn : i.toNat < s.size := by omega
  rw [← bt_at s i hn]
  have hn' : i.toNat < s.data.toList.length := by rw [← size_data]; exact hn
  have e : s.data.toList[i.toNat]'hn' = c := by
    have := List.drop_eq_getElem_cons hn'
    rw [h2] at this
    exact (List.cons.inj this).1.symm
  have e2 : s[i.toNat]'hn = s.data.toList[i.toNat]'hn' := by simp; rfl
  rw [e2, e]
theorem AtL.fin {s : ByteArray} {i : Int} (h : AtL s i []) : i = (s.size : Int) := by have := h.len; simp at this; omega
theorem AtL.uniq {s : ByteArray} {i j : Int} {l : List UInt8} (h : AtL s i l) (k : AtL s j l) : i = j := by have := h.len; have := k.len; omega
theorem AtL.text {s : ByteArray} {i : Int} {l : List UInt8} (h : AtL s i l) (n : Nat) (hn : n ≤ l.length) : s.extract i.toNat (i + n).toNat = ⟨(l.take n).toArray⟩ := by
  obtain ⟨h0, h1, rfl⟩ := h
  apply ba_ext
  rw [Lib.extract_data, show (i + n).toNat - i.toNat = n by omega]
theorem AtL.rest {s : ByteArray} {i : Int} {l : List UInt8} (h : AtL s i l) : (s.extract i.toNat s.size).data.toList = l := by
  obtain ⟨h0, h1, rfl⟩ := h
  exact Lib.extract_to_end s _
theorem u8_eq {c : UInt8} {n : Nat} (hn : n < 256) : c = UInt8.ofNat n ↔ (c.toNat : Int) = n := by
  constructor
  · rintro rfl; simp [UInt8.toNat_ofNat']; omega
  · intro h; apply UInt8.toNat_inj.1; simp [UInt8.toNat_ofNat']; omega

def isBl (c : UInt8) : Bool := c == 32 || c == 9 || c == 10
/-- behind blanks and comments; the flag: within a comment -/
def skp : Bool → List UInt8 → List UInt8
  | _, [] => []
  | true, c :: cs => if c = 10 then skp false cs else skp true cs
  | false, c :: cs => if isBl c then skp false cs else if c = 35 then skp true cs else c :: cs
theorem skp_le : ∀ (l : List UInt8) (b : Bool), (skp b l).length ≤ l.length
  | [], b => by cases b <;> simp [skp]
  | c :: cs, true => by
    have h1 := skp_le cs true; have h2 := skp_le cs false
    unfold skp; split <;> simp <;> omega
  | c :: cs, false => by
    have h1 := skp_le cs true; have h2 := skp_le cs false
    unfold skp; split
    · simp; omega
    · split <;> simp <;> omega
theorem indexByte_ge : ∀ (l : List UInt8) (c : UInt8), -1 ≤ Lib.indexByte l c
  | [], _ => by simp [Lib.indexByte]
  | b :: l, c => by
    have := indexByte_ge l c
    simp only [Lib.indexByte]
    split
    · omega
    · split <;> omega
theorem skp_index : ∀ (l : List UInt8), (Lib.indexByte l 10 = -1 → skp true l = []) ∧ (∀ n : Nat, Lib.indexByte l 10 = n → n < l.length ∧ skp true l = skp false (l.drop n))
  | [] => by simp [Lib.indexByte, skp]
  | c :: cs => by
    obtain ⟨h1, h2⟩ := skp_index cs
    by_cases e : c = 10
    · subst e
      refine ⟨by simp [Lib.indexByte], fun n hn => ?_⟩
      have : n = 0 := by simp [Lib.indexByte] at hn; omega
      subst this
      simp [skp, isBl]
    · have hu : Lib.indexByte (c :: cs) 10 = if Lib.indexByte cs 10 == -1 then -1 else Lib.indexByte cs 10 + 1 := by
        rw [Lib.indexByte, if_neg (by simpa using e)]
      have hs : skp true (c :: cs) = skp true cs := by rw [skp, if_neg e]
      rw [hu, hs]
      by_cases m : Lib.indexByte cs 10 = -1
      · refine ⟨fun _ => h1 m, fun n hn => ?_⟩
        rw [if_pos (by simpa using m)] at hn
        omega
      · rw [if_neg (by simpa using m)]
        refine ⟨fun h => ?_, fun n hn => ?_⟩
        · exfalso
          have : Lib.indexByte cs 10 = -2 := by omega
          have hr := indexByte_ge cs 10
          omega
        · obtain ⟨m', rfl⟩ : ∃ m', n = m' + 1 := by
            have hr := indexByte_ge cs 10
            exact ⟨n - 1, by omega⟩
          obtain ⟨h3, h4⟩ := h2 m' (by omega)
          exact ⟨by simp; omega, by simpa using h4⟩
theorem wrap_small {x : Int} (h0 : 0 ≤ x) (h1 : x ≤ 1000000000000000) : wrap64 x = x := by unfold wrap64; omega

theorem lex_skip_ev (s : ByteArray) (hs : s.size ≤ 16384) : ∀ (n : Nat) (l : List UInt8) (i : Int), l.length ≤ n → AtL s i l → ∃ j, AtL s j (skp false l) ∧ Ev (fun k => lex_lexer_skip.l0 k s i) (s, j) := by
  intro n
  induction n with
  | zero =>
    intro l i hl h
    obtain rfl : l = [] := List.length_eq_zero_iff.1 (by omega)
    refine ⟨i, h, Ev.step (fun k => ?_) (Ev.now _)⟩
    rw [lex_lexer_skip.l0, if_neg (by have := h.fin; omega)]
  | succ n ih =>
    intro l i hl h
    cases l with
    | nil =>
      refine ⟨i, h, Ev.step (fun k => ?_) (Ev.now _)⟩
      rw [lex_lexer_skip.l0, if_neg (by have := h.fin; omega)]
    | cons c cs =>
      have hlt := h.lt
      have h0 := h.1
      have hb := h.byte
      simp only [List.length_cons] at hl
      have hw : wrap64 (i + 1) = i + 1 := wrap_small (by omega) (by omega)
      by_cases hbl : isBl c = true
      · obtain ⟨j, hj, hev⟩ := ih cs (i + 1) (by omega) h.tail
        refine ⟨j, by simpa [skp, hbl] using hj, ?_⟩
        have hstep : ∀ b x, b = true → Ev (fun k => lex_lexer_skip.j1 k x b s i) (s, j) := fun b x hx => by
          subst hx
          refine Ev.step (fun k => ?_) hev
          rw [lex_lexer_skip.j1, if_pos rfl, hw]
        by_cases e1 : bt s i = 32
        · refine Ev.step (fun k => ?_) (hstep _ (bt s i) rfl)
          rw [lex_lexer_skip.l0, if_pos hlt, if_pos h0, if_pos e1, e1]; rfl
        · by_cases e2 : bt s i = 9
          · refine Ev.step (fun k => ?_) (hstep _ (bt s i) rfl)
            rw [lex_lexer_skip.l0, if_pos hlt, if_pos h0, if_neg e1, if_pos e2, e2]; rfl
          · have e3 : bt s i = 10 := by
              simp only [isBl, Bool.or_eq_true, beq_iff_eq] at hbl
              rcases hbl with (rfl | rfl) | rfl
              · exact absurd hb e1
              · exact absurd hb e2
              · exact hb
            refine Ev.step (fun k => ?_) (hstep _ (bt s i) rfl)
            rw [lex_lexer_skip.l0, if_pos hlt, if_pos h0, if_neg e1, if_neg e2, e3]; rfl
      · have e1 : ¬ bt s i = 32 := fun e => hbl (by rw [hb] at e; have := (u8_eq (c := c) (n := 32) (by omega)).2 e; subst this; rfl)
        have e2 : ¬ bt s i = 9 := fun e => hbl (by rw [hb] at e; have := (u8_eq (c := c) (n := 9) (by omega)).2 e; subst this; rfl)
        have e3 : ¬ bt s i = 10 := fun e => hbl (by rw [hb] at e; have := (u8_eq (c := c) (n := 10) (by omega)).2 e; subst this; rfl)
        have hg : ∀ r, Ev (fun k => lex_lexer_skip.j1 k (bt s i) false s i) r → Ev (fun k => lex_lexer_skip.l0 k s i) r := fun r hr => by
          refine Ev.step (fun k => ?_) hr
          rw [lex_lexer_skip.l0, if_pos hlt, if_pos h0, if_neg e1, if_neg e2, show (bt s i == 10) = false from beq_eq_false_iff_ne.2 e3]
        by_cases e35 : c = 35
        · have e4 : bt s i = 35 := by rw [hb, e35]; rfl
          have hsk : skp false (c :: cs) = skp true cs := by rw [skp, if_neg hbl, if_pos e35]
          have hsk2 : skp true (c :: cs) = skp true cs := by subst e35; rw [skp, if_neg (by decide)]
          have hle : i ≤ (s.size : Int) := by omega
          obtain ⟨g1, g2⟩ := skp_index (c :: cs)
          have hix : strings_IndexByte.f (s.extract i.toNat s.size) 10 = some (Lib.indexByte (c :: cs) 10) := by
            unfold strings_IndexByte.f; rw [h.rest]; rfl
          by_cases hneg : Lib.indexByte (c :: cs) 10 < 0
          · have hm := indexByte_ge (c :: cs) 10
            have hnil := g1 (by omega)
            have hend : AtL s s.size [] := ⟨by omega, by omega, by rw [Int.toNat_natCast, size_data, List.drop_length]⟩
            refine ⟨s.size, by rw [hsk, ← hsk2, hnil]; exact hend, hg _ (Ev.step (fun k => ?_) (Ev.step (f := fun _ => some (s, (s.size : Int))) (g := fun k => lex_lexer_skip.l0 k s s.size) (fun k => ?_) (Ev.now _)))⟩
            · rw [lex_lexer_skip.j1, if_neg (by simp), if_pos e4, if_pos h0, if_pos hle, hix, Option.bind_some, if_pos hneg]
              rw [wrap_small (x := (s.size : Int) - i) (by omega) (by omega), wrap_small (x := i + ((s.size : Int) - i)) (by omega) (by omega), show i + ((s.size : Int) - i) = s.size by omega]
            · rw [lex_lexer_skip.l0, if_neg (Int.lt_irrefl _)]
          · obtain ⟨m, hm⟩ : ∃ m : Nat, Lib.indexByte (c :: cs) 10 = m := ⟨(Lib.indexByte (c :: cs) 10).toNat, by omega⟩
            obtain ⟨hml, hms⟩ := g2 m hm
            have hm0 : m ≠ 0 := by
              rintro rfl
              subst e35
              simp only [Lib.indexByte] at hm
              rw [if_neg (by decide)] at hm
              have := indexByte_ge cs 10
              split at hm
              · omega
              · rename_i hq; simp only [beq_iff_eq] at hq; omega
            have hd := h.drop m (by omega)
            obtain ⟨j, hj, hev⟩ := ih ((c :: cs).drop m) (i + m) (by rw [List.length_drop, List.length_cons]; omega) hd
            refine ⟨j, by rw [hsk, ← hsk2, hms]; exact hj, hg _ (Ev.step (fun k => ?_) hev)⟩
            rw [lex_lexer_skip.j1, if_neg (by simp), if_pos e4, if_pos h0, if_pos hle, hix, Option.bind_some, if_neg hneg, hm]
            rw [wrap_small (x := i + (m : Int)) (by omega) (by have := hd.2.1; omega)]
        · have e4 : ¬ bt s i = 35 := fun e => e35 (by rw [hb] at e; exact (u8_eq (c := c) (n := 35) (by omega)).2 e)
          refine ⟨i, by rw [skp, if_neg hbl, if_neg e35]; exact h, hg _ (Ev.step (fun k => ?_) (Ev.now _))⟩
          rw [lex_lexer_skip.j1, if_neg (by simp), if_neg e4]
theorem ref_skip_ev (s : ByteArray) (hs : s.size ≤ 16384) : ∀ (n : Nat) (l : List UInt8) (i : Int), l.length ≤ n → AtL s i l →
    (∃ j, AtL s j (skp false l) ∧ Ev (fun k => imageeditorref53_skip.l0 k s i) j) ∧ (∃ j, AtL s j (skp true l) ∧ Ev (fun k => imageeditorref53_skip.l1 k s i) j) := by
  intro n
  induction n with
  | zero =>
    intro l i hl h
    obtain rfl : l = [] := List.length_eq_zero_iff.1 (by omega)
    have hf := h.fin
    have h1 : Ev (fun k => imageeditorref53_skip.l0 k s i) i := Ev.step (f := fun k => imageeditorref53_skip.j1 k s i false) (fun k => by rw [imageeditorref53_skip.l0, if_neg (by omega)]) (Ev.step (fun k => by rw [imageeditorref53_skip.j1, if_neg (by simp)]) (Ev.now _))
    exact ⟨⟨i, h, h1⟩, ⟨i, h, Ev.step (fun k => by rw [imageeditorref53_skip.l1, if_neg (by omega)]) h1⟩⟩
  | succ n ih =>
    intro l i hl h
    cases l with
    | nil =>
      have hf := h.fin
      have h1 : Ev (fun k => imageeditorref53_skip.l0 k s i) i := Ev.step (f := fun k => imageeditorref53_skip.j1 k s i false) (fun k => by rw [imageeditorref53_skip.l0, if_neg (by omega)]) (Ev.step (fun k => by rw [imageeditorref53_skip.j1, if_neg (by simp)]) (Ev.now _))
      exact ⟨⟨i, h, h1⟩, ⟨i, h, Ev.step (fun k => by rw [imageeditorref53_skip.l1, if_neg (by omega)]) h1⟩⟩
    | cons c cs =>
      have hlt := h.lt
      have h0 := h.1
      have hb := h.byte
      simp only [List.length_cons] at hl
      have hw : wrap64 (i + 1) = i + 1 := wrap_small (by omega) (by omega)
      obtain ⟨⟨j0, hj0, hev0⟩, ⟨j1, hj1, hev1⟩⟩ := ih cs (i + 1) (by omega) h.tail
      have first : ∃ j, AtL s j (skp false (c :: cs)) ∧ Ev (fun k => imageeditorref53_skip.l0 k s i) j := by
        by_cases hbl : isBl c = true
        · refine ⟨j0, by simpa [skp, hbl] using hj0, ?_⟩
          have h35 : ¬ bt s i = 35 := fun e => by
            rw [hb] at e; have := (u8_eq (c := c) (n := 35) (by omega)).2 e; subst this; exact absurd hbl (by decide)
          have hstep : Ev (fun k => imageeditorref53_skip.j1 k s i true) j0 := Ev.step (fun k => by rw [imageeditorref53_skip.j1, if_pos rfl, if_pos h0, if_pos hlt, if_neg h35, hw]) hev0
          by_cases e1 : bt s i = 32
          · exact Ev.step (fun k => by rw [imageeditorref53_skip.l0, if_pos hlt, if_pos h0, if_pos e1]) hstep
          · by_cases e2 : bt s i = 9
            · exact Ev.step (fun k => by rw [imageeditorref53_skip.l0, if_pos hlt, if_pos h0, if_neg e1, if_pos e2]) hstep
            · have e3 : bt s i = 10 := by
                simp only [isBl, Bool.or_eq_true, beq_iff_eq] at hbl
                rcases hbl with (rfl | rfl) | rfl
                · exact absurd hb e1
                · exact absurd hb e2
                · exact hb
              exact Ev.step (fun k => by rw [imageeditorref53_skip.l0, if_pos hlt, if_pos h0, if_neg e1, if_neg e2, if_pos e3]) hstep
        · have e1 : ¬ bt s i = 32 := fun e => hbl (by rw [hb] at e; have := (u8_eq (c := c) (n := 32) (by omega)).2 e; subst this; rfl)
          have e2 : ¬ bt s i = 9 := fun e => hbl (by rw [hb] at e; have := (u8_eq (c := c) (n := 9) (by omega)).2 e; subst this; rfl)
          have e3 : ¬ bt s i = 10 := fun e => hbl (by rw [hb] at e; have := (u8_eq (c := c) (n := 10) (by omega)).2 e; subst this; rfl)
          by_cases e35 : c = 35
          · have e4 : bt s i = 35 := by rw [hb, e35]; rfl
            have e10 : ¬ bt s i = 10 := by omega
            refine ⟨j1, by rw [skp, if_neg hbl, if_pos e35]; exact hj1, ?_⟩
            refine Ev.step (f := fun k => imageeditorref53_skip.j1 k s i true) (fun k => by rw [imageeditorref53_skip.l0, if_pos hlt, if_pos h0, if_neg e1, if_neg e2, if_neg e3, e4]; rfl) ?_
            refine Ev.step (f := fun k => imageeditorref53_skip.l1 k s i) (fun k => by rw [imageeditorref53_skip.j1, if_pos rfl, if_pos h0, if_pos hlt, if_pos e4]) ?_
            exact Ev.step (fun k => by rw [imageeditorref53_skip.l1, if_pos hlt, if_pos h0, if_neg e10, hw]) hev1
          · have e4 : (bt s i == 35) = false := beq_eq_false_iff_ne.2 (fun e => e35 (by rw [hb] at e; exact (u8_eq (c := c) (n := 35) (by omega)).2 e))
            refine ⟨i, by rw [skp, if_neg hbl, if_neg e35]; exact h, ?_⟩
            refine Ev.step (f := fun k => imageeditorref53_skip.j1 k s i false) (fun k => by rw [imageeditorref53_skip.l0, if_pos hlt, if_pos h0, if_neg e1, if_neg e2, if_neg e3, e4]) ?_
            exact Ev.step (fun k => by rw [imageeditorref53_skip.j1, if_neg (by simp)]) (Ev.now _)
      refine ⟨first, ?_⟩
      by_cases e10 : c = 10
      · have e3 : bt s i = 10 := by rw [hb, e10]; rfl
        obtain ⟨j, hj, hev⟩ := first
        refine ⟨j, by subst e10; rw [skp, if_pos rfl]; rw [skp, if_pos (by decide)] at hj; exact hj, ?_⟩
        exact Ev.step (fun k => by rw [imageeditorref53_skip.l1, if_pos hlt, if_pos h0, if_pos e3]) hev
      · have e3 : ¬ bt s i = 10 := fun e => e10 (by rw [hb] at e; exact (u8_eq (c := c) (n := 10) (by omega)).2 e)
        refine ⟨j1, by rw [skp, if_neg e10]; exact hj1, ?_⟩
        exact Ev.step (fun k => by rw [imageeditorref53_skip.l1, if_pos hlt, if_pos h0, if_neg e3, hw]) hev1
end Go.Proofs.YtflmpgepboldfaaDoor.Lx
