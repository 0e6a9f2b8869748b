/-
  The plain law of places: the tokens of a rest stand at their places, in order, and the last one is the end. No program in sight.
-/
import Derived.Test.YtflmpgepboldfaaDoorLt
namespace Go.Proofs.YtflmpgepboldfaaDoor.Lx
open Go.RowKit Go.Proofs.YtflmpgepboldfaaDoor.G Go.Proofs.YtflmpgepboldfaaDoorW.PrintWords Go.Proofs.YtflmpgepboldfaaDoorW.PrintLast

/-- a token that is no end, and no string: its letters stand at its place -/
def Ok1 (s : ByteArray) (t : S30) : Prop := t.f0 ≠ 0 ∧ (t.f0 ≠ 2 → t.f1.size ≠ 0 ∧ t.f2 + t.f1.size ≤ s.size ∧ s.extract t.f2.toNat (t.f2 + t.f1.size).toNat = t.f1)
/-- tokens stand at their places, in order, from i on; the last is the end -/
def Ch (s : ByteArray) : Int → List S30 → Prop
  | _, [] => False
  | i, [t] => t = ⟨0, B [], s.size⟩ ∧ i ≤ s.size
  | i, t :: u :: r => i ≤ t.f2 ∧ Ok1 s t ∧ Ch s (t.f2 + 1) (u :: r)
theorem Ch.le {s : ByteArray} {i j : Int} (h : i ≤ j) : ∀ {l : List S30}, Ch s j l → Ch s i l
  | [], hc => hc
  | [_], hc => ⟨hc.1, by have := hc.2; omega⟩
  | _ :: _ :: _, hc => ⟨by have := hc.1; omega, hc.2⟩
theorem Ch.head {s : ByteArray} {i : Int} {t : S30} : ∀ {r : List S30}, Ch s i (t :: r) → i ≤ t.f2
  | [], hc => by rw [hc.1]; exact hc.2
  | _ :: _, hc => hc.1

theorem takeWhile_take (p : UInt8 → Bool) : ∀ (l : List UInt8), l.takeWhile p = l.take (l.takeWhile p).length
  | [] => rfl
  | c :: cs => by
    rw [List.takeWhile_cons]
    split
    · rw [List.length_cons, List.take_succ_cons, ← takeWhile_take p cs]
    · simp
theorem takeWhile_le (p : UInt8 → Bool) : ∀ (l : List UInt8), (l.takeWhile p).length ≤ l.length
  | [] => by simp
  | c :: cs => by
    rw [List.takeWhile_cons]
    split
    · have := takeWhile_le p cs; simp only [List.length_cons]; omega
    · simp
theorem prefix_take : ∀ (o l : List UInt8), o.isPrefixOf l = true → o = l.take o.length
  | [], l, _ => by simp
  | a :: o, [], h => by simp [List.isPrefixOf] at h
  | a :: o, b :: l, h => by
    rw [List.isPrefixOf, Bool.and_eq_true] at h
    rw [List.length_cons, List.take_succ_cons, ← prefix_take o l h.2, eq_of_beq h.1]
/-- what a token's kind and letters say -/
theorem tokL_text (c : UInt8) (cs : List UInt8) (h : (tokL (c :: cs)).1 = 0) :
    (tokL (c :: cs)).2.1 ≠ 0 ∧ ((tokL (c :: cs)).2.1 ≠ 2 → (tokL (c :: cs)).2.2.1 ≠ [] ∧ (tokL (c :: cs)).2.2.1.length ≤ (c :: cs).length ∧ (tokL (c :: cs)).2.2.1 = (c :: cs).take (tokL (c :: cs)).2.2.1.length) := by
  rw [tokL] at h ⊢
  by_cases h1 : isD c = true
  · rw [if_pos h1]
    exact ⟨by simp, fun _ => ⟨by dsimp only; rw [List.takeWhile_cons, if_pos h1]; simp, takeWhile_le _ _, takeWhile_take _ _⟩⟩
  · rw [if_neg h1] at h ⊢
    by_cases h2 : isL c = true
    · rw [if_pos h2]
      exact ⟨by dsimp only; unfold nameKind; split <;> simp, fun _ => ⟨by dsimp only; rw [List.takeWhile_cons, if_pos (isL_isN c h2)]; simp, takeWhile_le _ _, takeWhile_take _ _⟩⟩
    · rw [if_neg h2] at h ⊢
      by_cases h3 : c = 34
      · rw [if_pos h3] at h ⊢
        cases hq : qtx cs [] with
        | none => rw [hq] at h; simp at h
        | some vr => exact ⟨by simp, fun e => absurd rfl e⟩
      · rw [if_neg h3] at h ⊢
        by_cases h4 : opL (c :: cs) = []
        · rw [if_pos h4] at h; simp at h
        · rw [if_neg h4]
          exact ⟨by simp, fun _ => ⟨h4, opL_len _, prefix_take _ _ (opL_prefix _)⟩⟩

theorem toksL_err : ∀ (n : Nat) (N : Int) (l : List UInt8) (acc : List S30), (toksL n N l acc).2.2 ≠ 0 → (toksL n N l acc).1 = [] := by
  intro n
  induction n with
  | zero => intro N l acc h; rfl
  | succ n ih =>
    intro N l acc h
    rw [toksL] at h ⊢
    split at h
    · rename_i h1; rw [if_pos h1]
    · rename_i h1
      rw [if_neg h1]
      cases hsk : skp false l with
      | nil => rw [hsk] at h; simp at h
      | cons c cs =>
        rw [hsk] at h
        dsimp only at h ⊢
        split at h
        · rename_i h2; rw [if_pos h2]; exact ih _ _ _ h
        · rename_i h2; rw [if_neg h2]
theorem lexS_err (l : List UInt8) (h : (lexS l).2.2 ≠ 0) : (lexS l).1 = [] := by
  unfold lexS at h ⊢
  split
  · rfl
  · rename_i h1; rw [if_neg h1] at h; exact toksL_err _ _ _ _ h

theorem toksL_chain (s : ByteArray) (hs : s.size ≤ 16384) : ∀ (n : Nat) (l : List UInt8) (acc : List S30) (i : Int), l.length < n → AtL s i l → (toksL n s.size l acc).2.2 = 0 →
    ∃ ts, (toksL n s.size l acc).1 = acc ++ ts ∧ Ch s i ts := by
  intro n
  induction n with
  | zero => intro l acc i hl; omega
  | succ n ih =>
    intro l acc i hl h he
    obtain ⟨j, hj, -⟩ := lex_skip_ev s hs l.length l i (Nat.le_refl _) h
    have hle := skp_le l false
    have hjl := hj.len
    have hil := h.len
    rw [toksL] at he ⊢
    by_cases ha : acc.length ≥ 4096
    · rw [if_pos ha] at he; simp at he
    · rw [if_neg ha] at he ⊢
      cases hsk : skp false l with
      | nil => exact ⟨[tkS 0 [] s.size], rfl, rfl, by omega⟩
      | cons c cs =>
        rw [hsk] at hj hjl hle he
        obtain ⟨k1, t1, s1, j1, -, ho1⟩ := lex_token_at s hs c cs j hj
        dsimp only at he ⊢
        by_cases hz : (tokL (c :: cs)).1 = 0
        · obtain ⟨rfl, rfl, rfl, hj1⟩ := ho1 hz
          have hsh := tokL_shorter c cs hz
          have hjl1 := hj1.len
          rw [if_pos hz] at he ⊢
          have ej : (s1.size : Int) - ((c :: cs).length : Nat) = j := by omega
          rw [ej] at he ⊢
          obtain ⟨ts, e1, hch⟩ := ih _ _ _ (by omega) hj1 he
          refine ⟨tkS (tokL (c :: cs)).2.1 (tokL (c :: cs)).2.2.1 j :: ts, by rw [e1, List.append_assoc]; rfl, ?_⟩
          obtain ⟨hk, ht⟩ := tokL_text c cs hz
          match ts, hch with
          | u :: r, hch =>
            refine ⟨by show i ≤ j; omega, ⟨hk, fun h2 => ?_⟩, Ch.le (by show j + 1 ≤ j1; omega) hch⟩
            obtain ⟨g1, g2, g3⟩ := ht h2
            show (B _).size ≠ 0 ∧ j + ((B _).size : Int) ≤ s1.size ∧ s1.extract j.toNat (j + ((B _).size : Int)).toNat = B _
            rw [B_size]
            refine ⟨fun e => g1 (List.eq_nil_of_length_eq_zero e), by omega, ?_⟩
            rw [hj.text _ g2, ← g3]; rfl
        · rw [if_neg hz] at he; exact absurd he hz
theorem lexS_chain (s : ByteArray) (h : (lexS s.data.toList).2.2 = 0) : Ch s 0 (lexS s.data.toList).1 := by
  unfold lexS at h ⊢
  rw [← size_data] at h ⊢
  by_cases hb : s.size > 16384
  · rw [if_pos hb] at h; simp at h
  · rw [if_neg hb] at h ⊢
    obtain ⟨ts, e, hc⟩ := toksL_chain s (by omega) (s.size + 1) s.data.toList [] 0 (by rw [← size_data]; omega) (AtL.start s) h
    rw [e, List.nil_append]
    exact hc
theorem Ch.last {s : ByteArray} : ∀ {l : List S30} {i : Int}, Ch s i l → ∃ r, l = r ++ [(⟨0, B [], s.size⟩ : S30)]
  | [], _, hc => hc.elim
  | [t], _, hc => ⟨[], by rw [hc.1]; rfl⟩
  | t :: u :: r, _, hc => by
    obtain ⟨r', e⟩ := Ch.last hc.2.2
    exact ⟨t :: r', by rw [e]; rfl⟩
theorem rd30_at (xs : List S30) (j : Nat) (t : S30) (r : List S30) (h : xs.drop j = t :: r) : rd_T30 xs (j : Int) = t ∧ j < xs.length := by
  have hj : j < xs.length := by
    rcases Nat.lt_or_ge j xs.length with h1 | h1
    · exact h1
    · rw [List.drop_eq_nil_of_le h1] at h; cases h
  refine ⟨?_, hj⟩
  unfold rd_T30
  rw [Int.toNat_natCast, List.getD_eq_getElem?_getD, List.getElem?_eq_getElem hj]
  rw [List.drop_eq_getElem_cons hj] at h
  rw [(List.cons.inj h).1]
  rfl
end Go.Proofs.YtflmpgepboldfaaDoor.Lx
