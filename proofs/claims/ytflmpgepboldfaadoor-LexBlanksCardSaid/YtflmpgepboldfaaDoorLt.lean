/-
  The plain law of the lexer, fourth part: operators, the token at a place, all tokens: the program's and the reference's readings are one.
-/
import Derived.Test.YtflmpgepboldfaaDoorLz
namespace Go.Proofs.YtflmpgepboldfaaDoor.Lx
open Go.RowKit Go.Proofs.YtflmpgepboldfaaDoor.G Go.Proofs.YtflmpgepboldfaaDoorW.PrintWords Go.Proofs.YtflmpgepboldfaaDoorW.PrintLast

/-! ### operators -/
def twos : List (List UInt8) := [[61, 61], [33, 61], [60, 61], [62, 61], [38, 38], [124, 124], [46, 46]]
def ones : List UInt8 := [43, 45, 42, 47, 37, 60, 62, 61, 33, 40, 41, 123, 125, 91, 93, 44, 59]
def B (o : List UInt8) : ByteArray := ⟨o.toArray⟩
theorem B_size (o : List UInt8) : (B o).size = o.length := by simp [B, size_data]
def opL (l : List UInt8) : List UInt8 :=
  match twos.find? (fun o => o.isPrefixOf l) with
  | some o => o
  | none => match l with
    | [] => []
    | c :: _ => if c ∈ ones then [c] else []
theorem hasPrefix_at (x : ByteArray) (o : List UInt8) : strings_HasPrefix.f x (B o) = some (o.isPrefixOf x.data.toList) := by
  unfold strings_HasPrefix.f stringslite_HasPrefix.f
  rw [B_size]
  by_cases h : (x.size : Int) ≥ (o.length : Int)
  · rw [if_pos h, if_pos (by omega), if_pos (by omega), Option.bind_some]
    congr 1
    rw [ByteArray.toList_eq, ByteArray.toList_eq, Lib.extract_data, List.drop_zero]
    show (List.take (((o.length : Nat) : Int).toNat - 0) x.data.toList == o) = _
    rw [Int.toNat_natCast, Nat.sub_zero, Bool.eq_iff_iff, beq_iff_eq, List.isPrefixOf_iff_prefix, List.prefix_iff_eq_take]
    exact ⟨fun h => h.symm, fun h => h.symm⟩
  · rw [if_neg h, Option.bind_some]
    congr 1
    symm
    rw [← Bool.not_eq_true, List.isPrefixOf_iff_prefix]
    intro hp
    have := hp.length_le
    rw [← size_data] at this
    omega
theorem indexByte_neg (l : List UInt8) (c : UInt8) : Lib.indexByte l c < 0 ↔ c ∉ l := by
  induction l with
  | nil => simp [Lib.indexByte]
  | cons b l ih =>
    have hg := indexByte_ge l c
    rw [Lib.indexByte]
    by_cases e : b = c
    · subst e; simp
    · rw [if_neg (by simpa using e)]
      by_cases h : Lib.indexByte l c = -1
      · rw [if_pos (by simpa using h)]
        have := ih.1 (by omega)
        simp [this, Ne.symm e]
      · rw [if_neg (by simpa using h)]
        have : ¬ c ∉ l := fun hn => h (by have := ih.2 hn; omega)
        constructor
        · intro h2; omega
        · intro h2; exfalso; exact this (fun hm => h2 (by simp [hm]))
theorem rdOf_at (ops : List (List UInt8)) (j : Nat) (o : List UInt8) (os : List (List UInt8)) (h : ops.drop j = o :: os) : rdOf ByteArray.empty (ops.map B) (j : Int) = B o ∧ j < ops.length := by
  have hj : j < ops.length := by
    rcases Nat.lt_or_ge j ops.length with h1 | h1
    · exact h1
    · rw [List.drop_eq_nil_of_le h1] at h; cases h
  refine ⟨?_, hj⟩
  unfold rdOf
  rw [Int.toNat_natCast, List.getD_eq_getElem?_getD, List.getElem?_map, List.getElem?_eq_getElem hj]
  rw [List.drop_eq_getElem_cons hj] at h
  rw [(List.cons.inj h).1]
  rfl
def oneOut (s : ByteArray) (i : Int) (c : UInt8) : Int × ByteArray × Int × Int × ByteArray × Int :=
  if c ∈ ones then (4, B [c], 0, 0, s, i + 1) else (0, ⟨#[]⟩, 0, 18, s, i)
def opOut (s : ByteArray) (i : Int) (c : UInt8) (l : List UInt8) (os : List (List UInt8)) : Int × ByteArray × Int × Int × ByteArray × Int :=
  match os.find? (fun o => o.isPrefixOf l) with
  | some o => (4, B o, 0, 0, s, i + o.length)
  | none => oneOut s i c
theorem lex_op_at (s : ByteArray) (hs : s.size ≤ 16384) (c : UInt8) (cs : List UInt8) (i : Int) (h : AtL s i (c :: cs)) (ops : List (List UInt8)) (hsmall : ops.length ≤ 100) (hop : ∀ o ∈ ops, o.length ≤ 10) (os : List (List UInt8)) : ∀ (j : Nat), ops.drop j = os → j ≤ ops.length →
    Ev (fun k => lex_lexer_operator.l0 k (s.extract i.toNat s.size) (ops.map B) ((ops.map B).length : Int) (j : Int) s i) (opOut s i c (c :: cs) os) := by
  induction os with
  | nil =>
    intro j hj hjl
    have hjl : j = ops.length := by
      have := congrArg List.length hj; rw [List.length_drop] at this; simp at this; omega
    refine Ev.step (fun k => ?_) (Ev.now _)
    have hsz : ((s.extract i.toNat s.size).size : Int) = (c :: cs).length := by rw [size_data, h.rest]
    have hb0 : bt (s.extract i.toNat s.size) 0 = (c.toNat : Int) := by
      have h' : AtL (s.extract i.toNat s.size) 0 (c :: cs) := by have := AtL.start (s.extract i.toNat s.size); rwa [h.rest] at this
      exact h'.byte
    have htk : (s.extract i.toNat s.size).extract 0 1 = B [c] := by
      apply ba_ext
      rw [Lib.extract_data, h.rest]; rfl
    have hw : wrap64 (i + 1) = i + 1 := wrap_small (by have := h.1; omega) (by have := h.2.1; omega)
    rw [lex_lexer_operator.l0, if_neg (by rw [List.length_map]; omega), if_pos (by rw [hsz, List.length_cons]; omega), hb0]
    have hix : strings_IndexByte.f (⟨#[43, 45, 42, 47, 37, 60, 62, 61, 33, 40, 41, 123, 125, 91, 93, 44, 59]⟩ : ByteArray) (c.toNat : Int) = some (Lib.indexByte ones c) := by
      unfold strings_IndexByte.f
      rw [Int.toNat_natCast, show c.toNat.toUInt8 = c from UInt8.ofNat_toNat]
      rfl
    rw [hix, Option.bind_some]
    unfold opOut oneOut
    simp only [List.find?_nil]
    by_cases hm : c ∈ ones
    · rw [if_neg (by rw [indexByte_neg]; simpa using hm), if_pos (by omega), if_pos (by rw [hsz, List.length_cons]; omega), htk, hw, if_pos hm]
    · rw [if_pos ((indexByte_neg _ _).2 hm), if_neg hm]
  | cons o os ih =>
    intro j hj hjl
    obtain ⟨hrd, hlt⟩ := rdOf_at ops j o os hj
    have hmem : o ∈ ops := by rw [← List.take_append_drop j ops, hj]; simp
    have hj1 : ops.drop (j + 1) = os := by
      rw [List.drop_eq_getElem_cons hlt] at hj; exact (List.cons.inj hj).2
    have hpf : strings_HasPrefix.f (s.extract i.toNat s.size) (B o) = some (o.isPrefixOf (c :: cs)) := by rw [hasPrefix_at, h.rest]
    have hwj : wrap64 ((j : Int) + 1) = ((j + 1 : Nat) : Int) := by rw [wrap_small (by omega) (by omega)]; omega
    have hlen := hop o hmem
    have hw : wrap64 (i + (o.length : Int)) = i + o.length := wrap_small (by have := h.1; omega) (by have := h.2.1; omega)
    cases hp : o.isPrefixOf (c :: cs) with
    | true =>
      refine Ev.step (fun k => ?_) (Ev.now _)
      rw [lex_lexer_operator.l0, if_pos (by rw [List.length_map]; omega), if_pos (by omega), if_pos (by rw [List.length_map]; omega), hrd, hpf, hp, Option.bind_some, if_pos rfl, B_size, hw]
      unfold opOut
      simp only [List.find?_cons, hp]
    | false =>
      have hres : opOut s i c (c :: cs) (o :: os) = opOut s i c (c :: cs) os := by
        unfold opOut; simp only [List.find?_cons, hp]
      rw [hres]
      refine Ev.step (fun k => ?_) (ih (j + 1) hj1 (by omega))
      rw [lex_lexer_operator.l0, if_pos (by rw [List.length_map]; omega), if_pos (by omega), if_pos (by rw [List.length_map]; omega), hrd, hpf, hp, Option.bind_some, if_neg (by simp), hwj]
theorem ref_op_at (s : ByteArray) (hs : s.size ≤ 16384) (l : List UInt8) (i : Int) (h : AtL s i l) (ops : List (List UInt8)) (hsmall : ops.length ≤ 100) (hop : ∀ o ∈ ops, o.length ≤ 10) (os : List (List UInt8)) : ∀ (j : Nat), ops.drop j = os → j ≤ ops.length →
    Ev (fun k => imageeditorref53_operator.l0 k s i (ops.map B) (j : Int)) (B ((os.find? (fun o => o.isPrefixOf l)).getD [])) := by
  induction os with
  | nil =>
    intro j hj hjl
    have hjl : j = ops.length := by
      have := congrArg List.length hj; rw [List.length_drop] at this; simp at this; omega
    refine Ev.step (fun k => ?_) (Ev.now _)
    rw [imageeditorref53_operator.l0, if_neg (by rw [List.length_map]; omega)]
    rfl
  | cons o os ih =>
    intro j hj hjl
    obtain ⟨hrd, hlt⟩ := rdOf_at ops j o os hj
    have hmem : o ∈ ops := by rw [← List.take_append_drop j ops, hj]; simp
    have hj1 : ops.drop (j + 1) = os := by
      rw [List.drop_eq_getElem_cons hlt] at hj; exact (List.cons.inj hj).2
    have hwj : wrap64 ((j : Int) + 1) = ((j + 1 : Nat) : Int) := by rw [wrap_small (by omega) (by omega)]; omega
    have hlen := hop o hmem
    have hl := h.len
    have hw : wrap64 (i + (o.length : Int)) = i + o.length := wrap_small (by have := h.1; omega) (by have := h.2.1; omega)
    by_cases hfit : i + (o.length : Int) ≤ (s.size : Int)
    · have htx : (s.extract i.toNat (i + (o.length : Int)).toNat).toList = l.take o.length := by
        rw [h.text o.length (by omega), ByteArray.toList_eq]
      have hiff : (l.take o.length = o) ↔ o.isPrefixOf l = true := by
        rw [List.isPrefixOf_iff_prefix, List.prefix_iff_eq_take]; exact ⟨fun h => h.symm, fun h => h.symm⟩
      have hBl : (B o).toList = o := by rw [ByteArray.toList_eq]; rfl
      cases hp : o.isPrefixOf l with
      | true =>
        refine Ev.step (fun k => ?_) (Ev.now _)
        rw [imageeditorref53_operator.l0, if_pos (by rw [List.length_map]; omega), if_pos (by omega), hrd, B_size, hw, if_pos hfit, if_pos h.1, if_pos (by omega), htx, hBl, if_pos (hiff.2 hp)]
        simp only [List.find?_cons, hp]; rfl
      | false =>
        have hres : ((o :: os).find? (fun o => o.isPrefixOf l)) = (os.find? (fun o => o.isPrefixOf l)) := by simp only [List.find?_cons, hp]
        rw [hres]
        refine Ev.step (fun k => ?_) (ih (j + 1) hj1 (by omega))
        rw [imageeditorref53_operator.l0, if_pos (by rw [List.length_map]; omega), if_pos (by omega), hrd, B_size, hw, if_pos hfit, if_pos h.1, if_pos (by omega), htx, hBl, if_neg (fun e => by rw [hiff.1 e] at hp; cases hp), hwj]
    · have hp : o.isPrefixOf l = false := by
        rw [← Bool.not_eq_true, List.isPrefixOf_iff_prefix]
        intro hp; have := hp.length_le; omega
      have hres : ((o :: os).find? (fun o => o.isPrefixOf l)) = (os.find? (fun o => o.isPrefixOf l)) := by simp only [List.find?_cons, hp]
      rw [hres]
      refine Ev.step (fun k => ?_) (ih (j + 1) hj1 (by omega))
      rw [imageeditorref53_operator.l0, if_pos (by rw [List.length_map]; omega), if_pos (by omega), hrd, B_size, hw, if_neg hfit, hwj]
theorem find_ones (c : UInt8) (cs : List UInt8) : ∀ (os : List UInt8), ((os.map fun x => [x]).find? (fun o => o.isPrefixOf (c :: cs))).getD [] = if c ∈ os then [c] else []
  | [] => by simp
  | x :: os => by
    rw [List.map_cons, List.find?_cons]
    by_cases e : x = c
    · subst e; simp [List.isPrefixOf]
    · have : List.isPrefixOf [x] (c :: cs) = false := by simp [List.isPrefixOf, e]
      rw [this]
      simp only
      rw [find_ones c cs os]
      simp [Ne.symm e]

/-! ### the token at a place: its error, its kind, its text, and what follows -/
def tokL : List UInt8 → Int × Int × List UInt8 × List UInt8
  | [] => (18, 0, [], [])
  | c :: cs =>
    if isD c then (numErr (dfrom 0 ((c :: cs).takeWhile isD)) ((c :: cs).dropWhile isD), 1, (c :: cs).takeWhile isD, (c :: cs).dropWhile isD)
    else if isL c then (nameErr ((c :: cs).takeWhile isN), nameKind ((c :: cs).takeWhile isN), (c :: cs).takeWhile isN, (c :: cs).dropWhile isN)
    else if c = 34 then (match qtx cs [] with
      | none => (18, 0, [], [])
      | some (v, r) => (strErr v, 2, v, r))
    else if opL (c :: cs) = [] then (18, 0, [], []) else (0, 4, opL (c :: cs), (c :: cs).drop (opL (c :: cs)).length)
theorem twos_len : ∀ o ∈ twos, o.length ≤ 10 := by decide
theorem opL_prefix (l : List UInt8) : (opL l).isPrefixOf l = true := by
  unfold opL
  cases h : twos.find? (fun o => o.isPrefixOf l) with
  | some o => simpa using List.find?_some h
  | none =>
    cases l with
    | nil => rfl
    | cons c cs => dsimp only; split <;> simp [List.isPrefixOf]
theorem opL_len (l : List UInt8) : (opL l).length ≤ l.length := by
  have := opL_prefix l
  rw [List.isPrefixOf_iff_prefix] at this
  exact this.length_le
theorem opOut_opL (s : ByteArray) (i : Int) (c : UInt8) (cs : List UInt8) : opOut s i c (c :: cs) twos = if opL (c :: cs) = [] then (0, ⟨#[]⟩, 0, 18, s, i) else (4, B (opL (c :: cs)), 0, 0, s, i + (opL (c :: cs)).length) := by
  unfold opOut
  cases h : twos.find? (fun o => o.isPrefixOf (c :: cs)) with
  | some o =>
    have hm := List.mem_of_find?_eq_some h
    have hne : o ≠ [] := by rintro rfl; revert hm; decide
    have e : opL (c :: cs) = o := by unfold opL; rw [h]
    dsimp only
    rw [e, if_neg hne]
  | none =>
    have e : opL (c :: cs) = if c ∈ ones then [c] else [] := by unfold opL; rw [h]
    dsimp only
    unfold oneOut
    by_cases hm : c ∈ ones
    · rw [if_pos hm] at e ⊢
      rw [e, if_neg (by simp)]; rfl
    · rw [if_neg hm] at e ⊢
      rw [e, if_pos rfl]
theorem lex_token_at (s : ByteArray) (hs : s.size ≤ 16384) (c : UInt8) (cs : List UInt8) (i : Int) (h : AtL s i (c :: cs)) :
    ∃ k t s' j, Ev (fun n => lex_lexer_token.f n s i) (k, t, 0, (tokL (c :: cs)).1, s', j) ∧
      ((tokL (c :: cs)).1 = 0 → k = (tokL (c :: cs)).2.1 ∧ t = B (tokL (c :: cs)).2.2.1 ∧ s' = s ∧ AtL s j (tokL (c :: cs)).2.2.2) := by
  have hb := h.byte
  have hlt := h.lt
  have hD : lex_isDigit.f (bt s i) = some (isD c) := by rw [hb]; exact isDigit_f _
  have hL : lex_isLetter.f (bt s i) = some (isL c) := by rw [hb]; exact isLetter_f _
  have hu : ∀ n, lex_lexer_token.f n s i = (if isD c = true then ((lex_lexer_number.f s i).bind fun b => (some (b.1, b.2.1, b.2.2.1, b.2.2.2.1, b.2.2.2.2.1, b.2.2.2.2.2))) else if isL c = true then ((lex_lexer_name.f s i).bind fun b => (some (b.1, b.2.1, b.2.2.1, b.2.2.2.1, b.2.2.2.2.1, b.2.2.2.2.2))) else (if (bt s i) = 34 then ((lex_lexer_quoted.f s i).bind fun b => (some (b.1, b.2.1, b.2.2.1, b.2.2.2.1, b.2.2.2.2.1, b.2.2.2.2.2))) else ((lex_lexer_operator.f n s i).bind fun b => (some (b.1, b.2.1, b.2.2.1, b.2.2.2.1, b.2.2.2.2.1, b.2.2.2.2.2))))) := by
    intro n
    unfold lex_lexer_token.f
    rw [if_pos h.1, if_pos hlt, hD, Option.bind_some]
    by_cases h1 : isD c = true
    · rw [if_pos h1, if_pos h1]
    · rw [if_neg h1, if_neg h1, hL, Option.bind_some]
  simp only [tokL]
  by_cases h1 : isD c = true
  · obtain ⟨j, hj, hf⟩ := lex_number_at s hs c cs i h h1
    rw [if_pos h1]
    refine ⟨1, B ((c :: cs).takeWhile isD), s, j, Ev.congr (fun n => ?_) (Ev.now _), fun _ => ⟨rfl, rfl, rfl, hj⟩⟩
    rw [hu, if_pos h1, hf]; rfl
  · rw [if_neg h1]
    by_cases h2 : isL c = true
    · obtain ⟨j, hj, hf⟩ := lex_name_at s hs (c :: cs) i h
      rw [if_pos h2]
      refine ⟨nameKind ((c :: cs).takeWhile isN), B ((c :: cs).takeWhile isN), s, j, Ev.congr (fun n => ?_) (Ev.now _), fun _ => ⟨rfl, rfl, rfl, hj⟩⟩
      rw [hu, if_neg h1, if_pos h2, hf]; rfl
    · rw [if_neg h2]
      by_cases h3 : c = 34
      · have e3 : bt s i = 34 := by rw [hb, h3]; rfl
        rw [if_pos h3]
        obtain ⟨k, t, e, j, hq, ho⟩ := lex_quo_at s (s.size + 1) cs [] (i + 1) (by have := h.tail.len; have := h.tail.1; omega) h.tail
        have hf : lex_lexer_quoted.f s i = some (k, t, 0, e, s, j) := by
          unfold lex_lexer_quoted.f
          rw [if_pos ⟨h.1, hlt, by omega⟩]; exact hq
        have hev : Ev (fun n => lex_lexer_token.f n s i) (k, t, 0, e, s, j) := Ev.congr (fun n => by rw [hu, if_neg h1, if_neg h2, if_pos e3, hf]; rfl) (Ev.now _)
        cases hx : qtx cs [] with
        | none =>
          rw [hx] at ho
          obtain rfl : e = 18 := ho
          exact ⟨k, t, s, j, hev, fun h => by simp at h⟩
        | some vr =>
          obtain ⟨v, r⟩ := vr
          rw [hx] at ho
          obtain ⟨rfl, ho⟩ := ho
          exact ⟨k, t, s, j, hev, fun h => ⟨(ho h).1, (ho h).2.1, rfl, (ho h).2.2⟩⟩
      · have e3 : ¬ bt s i = 34 := fun e => h3 (by rw [hb] at e; exact (u8_eq (n := 34) (by omega)).2 e)
        rw [if_neg h3]
        have hop := lex_op_at s hs c cs i h twos (by decide) twos_len twos 0 rfl (by decide)
        rw [opOut_opL] at hop
        have hf : ∀ n, lex_lexer_operator.f n s i = lex_lexer_operator.l0 n (s.extract i.toNat s.size) (twos.map B) ((twos.map B).length : Int) ((0 : Nat) : Int) s i := by
          intro n
          unfold lex_lexer_operator.f
          rw [if_pos h.1, if_pos h.2.1, Option.bind_some]; rfl
        have hev : ∀ r, Ev (fun k => lex_lexer_operator.l0 k (s.extract i.toNat s.size) (twos.map B) ((twos.map B).length : Int) ((0 : Nat) : Int) s i) r → Ev (fun n => lex_lexer_token.f n s i) r := by
          intro r hr
          refine Ev.congr (fun n => ?_) (Ev.bind hr (f := fun _ b => some (b.1, b.2.1, b.2.2.1, b.2.2.2.1, b.2.2.2.2.1, b.2.2.2.2.2)) (Ev.now r))
          rw [hu, if_neg h1, if_neg h2, if_neg e3, hf]
        by_cases hz : opL (c :: cs) = []
        · rw [if_pos hz] at hop ⊢
          exact ⟨_, _, _, _, hev _ hop, fun h => by simp at h⟩
        · rw [if_neg hz] at hop ⊢
          exact ⟨_, _, _, _, hev _ hop, fun _ => ⟨rfl, rfl, rfl, h.drop _ (opL_len _)⟩⟩
theorem opL_all (l : List UInt8) : ((twos ++ ones.map fun x => [x]).find? (fun o => o.isPrefixOf l)).getD [] = opL l := by
  rw [List.find?_append]
  unfold opL
  cases h : twos.find? (fun o => o.isPrefixOf l) with
  | some o => rfl
  | none =>
    rw [Option.none_or]
    cases l with
    | nil => simp [List.find?, ones, List.isPrefixOf]
    | cons c cs => rw [find_ones]
theorem ref_token_at (s : ByteArray) (hs : s.size ≤ 16384) (c : UInt8) (cs : List UInt8) (i : Int) (h : AtL s i (c :: cs)) :
    ∃ k t a j, Ev (fun n => imageeditorref53_token.f n s i) (k, t, a, j, (tokL (c :: cs)).1) ∧
      ((tokL (c :: cs)).1 = 0 → k = (tokL (c :: cs)).2.1 ∧ t = B (tokL (c :: cs)).2.2.1 ∧ a = i ∧ AtL s j (tokL (c :: cs)).2.2.2) := by
  have hb := h.byte
  have hlt := h.lt
  have hD : imageeditorref53_digit.f (bt s i) = some (isD c) := by rw [hb]; exact isDigit_f _
  have hL : imageeditorref53_letter.f (bt s i) = some (isL c) := by rw [hb]; exact isLetter_f _
  simp only [tokL]
  by_cases h1 : isD c = true
  · obtain ⟨j, hj, hf⟩ := ref_number_at s hs (c :: cs) i 0 0 false h (.inl ⟨rfl, rfl, by omega⟩)
    rw [if_pos h1]
    have hpre : (c :: cs).takeWhile isD <+: (c :: cs) := List.takeWhile_prefix _
    have hjl : j = i + ((c :: cs).takeWhile isD).length := by
      have e1 := h.len; have e2 := hj.len
      have e3 : ((c :: cs).takeWhile isD).length + ((c :: cs).dropWhile isD).length = (c :: cs).length := by rw [← List.length_append, List.takeWhile_append_dropWhile]
      omega
    have htx : s.extract i.toNat j.toNat = B ((c :: cs).takeWhile isD) := by
      rw [hjl]
      have := h.text _ hpre.length_le
      rw [← List.prefix_iff_eq_take.1 hpre] at this
      exact this
    refine ⟨1, B ((c :: cs).takeWhile isD), i, j, ?_, fun _ => ⟨rfl, rfl, rfl, hj⟩⟩
    refine Ev.congr (f := fun n => (imageeditorref53_number.l0 n s i 0 false).bind fun b => (if i ≤ b.1 then (if b.1 ≤ (s.size : Int) then (some (1, s.extract i.toNat b.1.toNat, i, b.1, b.2)) else (none)) else (none))) (fun n => ?_) (Ev.bind hf (f := fun _ b => (if i ≤ b.1 then (if b.1 ≤ (s.size : Int) then (some (1, s.extract i.toNat b.1.toNat, i, b.1, b.2)) else (none)) else (none))) (Ev.congr (fun n => ?_) (Ev.now _)))
    · unfold imageeditorref53_token.f
      rw [if_pos h.1, if_pos hlt, hD, Option.bind_some, if_pos h1]; rfl
    · dsimp only
      rw [if_pos (by omega), if_pos hj.2.1, htx]
  · rw [if_neg h1]
    by_cases h2 : isL c = true
    · obtain ⟨k, t, a, j, hev, ho⟩ := ref_name_at s hs i (c :: cs) h (c :: cs) 0 i rfl (by simp) (by simp) (by simp) h
      rw [if_pos h2]
      refine ⟨k, t, a, j, Ev.congr (fun n => ?_) hev, ho⟩
      unfold imageeditorref53_token.f
      rw [if_pos h.1, if_pos hlt, hD, Option.bind_some, if_neg h1, hL, Option.bind_some, if_pos h2]
    · rw [if_neg h2]
      by_cases h3 : c = 34
      · have e3 : bt s i = 34 := by rw [hb, h3]; rfl
        rw [if_pos h3]
        obtain ⟨t, e, j, hq, ho⟩ := ref_text_at s hs (s.size + 1) cs [] (i + 1) (by have := h.tail.len; have := h.tail.1; omega) (by have := h.tail.len; have := h.tail.1; simp; omega) h.tail
        have hw : wrap64 (i + 1) = i + 1 := wrap_small (by have := h.1; omega) (by omega)
        have hev : Ev (fun n => imageeditorref53_token.f n s i) (2, t, i, j, e) := by
          refine Ev.congr (f := fun n => (imageeditorref53_text.l0 n s (i + 1) (nums [])).bind fun b => some (2, b.1, i, b.2.1, b.2.2)) (fun n => ?_) (Ev.bind hq (f := fun _ b => some (2, b.1, i, b.2.1, b.2.2)) (Ev.now _))
          unfold imageeditorref53_token.f imageeditorref53_text.f
          rw [if_pos h.1, if_pos hlt, hD, Option.bind_some, if_neg h1, hL, Option.bind_some, if_neg h2, if_pos e3, hw]; rfl
        cases hx : qtx cs [] with
        | none =>
          rw [hx] at ho
          obtain rfl : e = 18 := ho
          exact ⟨2, t, i, j, hev, fun h => by simp at h⟩
        | some vr =>
          obtain ⟨v, r⟩ := vr
          rw [hx] at ho
          obtain ⟨rfl, ho⟩ := ho
          exact ⟨2, t, i, j, hev, fun h => ⟨rfl, (ho h).2.1, rfl, (ho h).2.2⟩⟩
      · have e3 : ¬ bt s i = 34 := fun e => h3 (by rw [hb] at e; exact (u8_eq (n := 34) (by omega)).2 e)
        rw [if_neg h3]
        have hop := ref_op_at s hs (c :: cs) i h (twos ++ ones.map fun x => [x]) (by decide) (by decide) (twos ++ ones.map fun x => [x]) 0 rfl (by decide)
        rw [opL_all] at hop
        have hfo : ∀ n, imageeditorref53_operator.f n s i = imageeditorref53_operator.l0 n s i ((twos ++ ones.map fun x => [x]).map B) ((0 : Nat) : Int) := by
          intro n
          unfold imageeditorref53_operator.f imageeditorref53_operators.f
          rw [Option.bind_some]; rfl
        have hev : Ev (fun n => imageeditorref53_token.f n s i) (if (B (opL (c :: cs))).toList = ([] : List UInt8) then (0, (⟨#[]⟩ : ByteArray), 0, i, 18) else (4, B (opL (c :: cs)), i, wrap64 (i + ((B (opL (c :: cs))).size : Int)), 0)) := by
          refine Ev.congr (f := fun n => (imageeditorref53_operator.l0 n s i ((twos ++ ones.map fun x => [x]).map B) ((0 : Nat) : Int)).bind fun t175 => (if t175.toList = ([] : List UInt8) then (some (0, (⟨#[]⟩ : ByteArray), 0, i, 18)) else (some (4, t175, i, wrap64 (i + (t175.size : Int)), 0)))) (fun n => ?_) (Ev.bind hop (f := fun _ t175 => (if t175.toList = ([] : List UInt8) then (some (0, (⟨#[]⟩ : ByteArray), 0, i, 18)) else (some (4, t175, i, wrap64 (i + (t175.size : Int)), 0)))) (Ev.congr (fun n => ?_) (Ev.now _)))
          · unfold imageeditorref53_token.f
            rw [if_pos h.1, if_pos hlt, hD, Option.bind_some, if_neg h1, hL, Option.bind_some, if_neg h2, if_neg e3, hfo]
          · split <;> rfl
        have hBl : (B (opL (c :: cs))).toList = opL (c :: cs) := by rw [ByteArray.toList_eq]; rfl
        rw [hBl, B_size] at hev
        by_cases hz : opL (c :: cs) = []
        · rw [if_pos hz] at hev ⊢
          exact ⟨_, _, _, _, hev, fun h => by simp at h⟩
        · rw [if_neg hz] at hev ⊢
          have hl := opL_len (c :: cs)
          have hd := h.drop _ hl
          rw [wrap_small (by have := h.1; omega) (by have := hd.2.1; omega)] at hev
          exact ⟨_, _, _, _, hev, fun _ => ⟨rfl, rfl, rfl, hd⟩⟩

/-! ### all tokens -/
theorem qtx_le : ∀ (n : Nat) (l b v r : List UInt8), l.length < n → qtx l b = some (v, r) → r.length ≤ l.length := by
  intro n
  induction n with
  | zero => intro l b v r h; omega
  | succ n ih =>
    intro l b v r hl h
    match l, h, hl with
    | [], h, _ => simp [qtx] at h
    | [c], h, _ =>
      rw [qtx] at h
      split at h
      · cases h; simp
      · cases h
    | c :: d :: ds, h, hl =>
      simp only [List.length_cons] at hl
      rw [qtx] at h
      split at h
      · cases h; simp
      split at h
      · cases h
      split at h
      · split at h
        · have := ih _ _ _ _ (by omega) h; simp only [List.length_cons]; omega
        split at h
        · have := ih _ _ _ _ (by omega) h; simp only [List.length_cons]; omega
        · cases h
      · have := ih _ _ _ _ (by simp only [List.length_cons]; omega) h; simp only [List.length_cons] at this ⊢; omega
theorem dropWhile_le (p : UInt8 → Bool) : ∀ (l : List UInt8), (l.dropWhile p).length ≤ l.length
  | [] => by simp
  | c :: cs => by
    rw [List.dropWhile_cons]
    split
    · have := dropWhile_le p cs; simp only [List.length_cons]; omega
    · exact Nat.le_refl _
theorem isL_isN (c : UInt8) (h : isL c = true) : isN c = true := by
  unfold isL at h; unfold isN lexN; simp [h]
theorem tokL_shorter (c : UInt8) (cs : List UInt8) (h : (tokL (c :: cs)).1 = 0) : (tokL (c :: cs)).2.2.2.length < (c :: cs).length := by
  rw [tokL] at h ⊢
  by_cases h1 : isD c = true
  · rw [if_pos h1, List.dropWhile_cons, if_pos h1]
    have := dropWhile_le isD cs
    simp only [List.length_cons]; omega
  · rw [if_neg h1] at h ⊢
    by_cases h2 : isL c = true
    · rw [if_pos h2, List.dropWhile_cons, if_pos (isL_isN c h2)]
      have := dropWhile_le isN cs
      simp only [List.length_cons]; omega
    · rw [if_neg h2] at h ⊢
      by_cases h3 : c = 34
      · rw [if_pos h3] at h ⊢
        cases hq : qtx cs [] with
        | none => rw [hq] at h; simp at h
        | some vr =>
          obtain ⟨v, r⟩ := vr
          have := qtx_le (cs.length + 1) cs [] v r (by omega) hq
          simp only [List.length_cons]; omega
      · rw [if_neg h3] at h ⊢
        by_cases h4 : opL (c :: cs) = []
        · rw [if_pos h4] at h; simp at h
        · rw [if_neg h4]
          have : (opL (c :: cs)).length ≠ 0 := fun e => h4 (List.eq_nil_of_length_eq_zero e)
          simp only [List.length_drop, List.length_cons]; omega
def tkS (k : Int) (t : List UInt8) (a : Int) : S30 := ⟨k, B t, a⟩
/-- the tokens of a rest, behind those that were read; n: at most so many -/
def toksL : Nat → Int → List UInt8 → List S30 → List S30 × Int × Int
  | 0, _, _, _ => ([], 0, 0)
  | n + 1, N, l, acc =>
    if acc.length ≥ 4096 then ([], N - (skp false l).length, 3)
    else match skp false l with
      | [] => (acc ++ [tkS 0 [] N], 0, 0)
      | c :: cs => if (tokL (c :: cs)).1 = 0 then toksL n N (tokL (c :: cs)).2.2.2 (acc ++ [tkS (tokL (c :: cs)).2.1 (tokL (c :: cs)).2.2.1 (N - (c :: cs).length)])
        else ([], N - (c :: cs).length, (tokL (c :: cs)).1)
def lexS (l : List UInt8) : List S30 × Int × Int := if l.length > 16384 then ([], 0, 3) else toksL (l.length + 1) l.length l []
theorem lex_toks_at (s : ByteArray) (hs : s.size ≤ 16384) : ∀ (n : Nat) (l : List UInt8) (acc : List S30) (i : Int), l.length < n → acc.length ≤ 4096 → AtL s i l →
    Ev (fun k => lex_Tokens.l0 k s s acc i) (toksL n s.size l acc) ∧ Ev (fun k => imageeditorref53_Tokens.l0 k s acc i) (toksL n s.size l acc) := by
  intro n
  induction n with
  | zero => intro l acc i hl; omega
  | succ n ih =>
    intro l acc i hl hacc h
    obtain ⟨j, hj, hev⟩ := lex_skip_ev s hs l.length l i (Nat.le_refl _) h
    obtain ⟨⟨j', hj', hev'⟩, -⟩ := ref_skip_ev s hs l.length l i (Nat.le_refl _) h
    obtain rfl := hj'.uniq hj
    have hle := skp_le l false
    have hjl := hj.len
    have p1 : ∀ (g : Nat → ByteArray × Int → Option (List S30 × Int × Int)) r, Ev (fun k => g k (s, j')) r → Ev (fun k => (lex_lexer_skip.l0 k s i).bind (g k)) r := fun g r hr => Ev.bind hev hr
    have p2 : ∀ (g : Nat → Int → Option (List S30 × Int × Int)) r, Ev (fun k => g k j') r → Ev (fun k => (imageeditorref53_skip.l0 k s i).bind (g k)) r := fun g r hr => Ev.bind hev' hr
    have q1 : ∀ r, Ev (fun k => if (acc.length : Int) ≥ 4096 then (some (([] : List (S30)), j', 3)) else (if j' = (s.size : Int) then (some ((acc ++ [(⟨0, (⟨#[]⟩ : ByteArray), j'⟩ : S30)]), 0, 0)) else ((lex_lexer_token.f k s j').bind fun u => (if u.2.2.2.1 = 0 then (lex_Tokens.l0 k s u.2.2.2.2.1 (acc ++ [(⟨u.1, u.2.1, j'⟩ : S30)]) u.2.2.2.2.2) else (some (([] : List (S30)), j', u.2.2.2.1)))))) r → Ev (fun k => lex_Tokens.l0 k s s acc i) r := by
      intro r hr
      refine Ev.step (fun k => ?_) (p1 (fun k t => (if (acc.length : Int) ≥ 4096 then (some (([] : List (S30)), t.2, 3)) else (if t.2 = (s.size : Int) then (some ((acc ++ [(⟨0, (⟨#[]⟩ : ByteArray), t.2⟩ : S30)]), 0, 0)) else ((lex_lexer_token.f k t.1 t.2).bind fun u => (if u.2.2.2.1 = 0 then (lex_Tokens.l0 k s u.2.2.2.2.1 (acc ++ [(⟨u.1, u.2.1, t.2⟩ : S30)]) u.2.2.2.2.2) else (some (([] : List (S30)), t.2, u.2.2.2.1))))))) r hr)
      rw [lex_Tokens.l0]; rfl
    have q2 : ∀ r, Ev (fun k => if (acc.length : Int) = 4096 then (some (([] : List (S30)), j', 3)) else (if j' = (s.size : Int) then (if acc.length < 4398046511104 then (some ((acc ++ [(⟨0, (⟨#[]⟩ : ByteArray), j'⟩ : S30)]), 0, 0)) else (none)) else ((imageeditorref53_token.f k s j').bind fun b => (if b.2.2.2.2 = 0 then (if acc.length < 4398046511104 then (imageeditorref53_Tokens.l0 k s (acc ++ [(⟨b.1, b.2.1, b.2.2.1⟩ : S30)]) b.2.2.2.1) else (none)) else (some (([] : List (S30)), j', b.2.2.2.2)))))) r → Ev (fun k => imageeditorref53_Tokens.l0 k s acc i) r := by
      intro r hr
      refine Ev.step (fun k => ?_) (p2 (fun k t => (if (acc.length : Int) = 4096 then (some (([] : List (S30)), t, 3)) else (if t = (s.size : Int) then (if acc.length < 4398046511104 then (some ((acc ++ [(⟨0, (⟨#[]⟩ : ByteArray), t⟩ : S30)]), 0, 0)) else (none)) else ((imageeditorref53_token.f k s t).bind fun b => (if b.2.2.2.2 = 0 then (if acc.length < 4398046511104 then (imageeditorref53_Tokens.l0 k s (acc ++ [(⟨b.1, b.2.1, b.2.2.1⟩ : S30)]) b.2.2.2.1) else (none)) else (some (([] : List (S30)), t, b.2.2.2.2))))))) r hr)
      rw [imageeditorref53_Tokens.l0]; rfl
    rw [toksL]
    by_cases ha : acc.length ≥ 4096
    · rw [if_pos ha]
      have e : j' = (s.size : Int) - (skp false l).length := by omega
      rw [← e]
      exact ⟨q1 _ (Ev.congr (fun k => by rw [if_pos (by omega)]) (Ev.now _)), q2 _ (Ev.congr (fun k => by rw [if_pos (by omega)]) (Ev.now _))⟩
    · rw [if_neg ha]
      cases hsk : skp false l with
      | nil =>
        rw [hsk] at hj hjl
        have e : j' = (s.size : Int) := by simp at hjl; omega
        refine ⟨q1 _ (Ev.congr (fun k => ?_) (Ev.now _)), q2 _ (Ev.congr (fun k => ?_) (Ev.now _))⟩
        · rw [if_neg (by omega), if_pos e, e]; rfl
        · rw [if_neg (by omega), if_pos e, if_pos (by omega), e]; rfl
      | cons c cs =>
        rw [hsk] at hj hjl hle
        have e : ¬ j' = (s.size : Int) := by have := hj.lt; omega
        have ej : (s.size : Int) - ((c :: cs).length : Nat) = j' := by omega
        obtain ⟨k1, t1, s1, j1, hv1, ho1⟩ := lex_token_at s hs c cs j' hj
        obtain ⟨k2, t2, a2, j2, hv2, ho2⟩ := ref_token_at s hs c cs j' hj
        dsimp only
        rw [ej]
        by_cases hz : (tokL (c :: cs)).1 = 0
        · obtain ⟨rfl, rfl, rfl, hj1⟩ := ho1 hz
          obtain ⟨rfl, rfl, rfl, hj2⟩ := ho2 hz
          obtain rfl := hj2.uniq hj1
          have hsh := tokL_shorter c cs hz
          obtain ⟨i1, i2⟩ := ih (tokL (c :: cs)).2.2.2 (acc ++ [tkS (tokL (c :: cs)).2.1 (tokL (c :: cs)).2.2.1 a2]) j2 (by omega) (by simp; omega) hj1
          rw [if_pos hz]
          rw [hz] at hv1 hv2
          refine ⟨q1 _ (Ev.congr (fun k => ?_) (Ev.bind hv1 (f := fun k u => if u.2.2.2.1 = 0 then (lex_Tokens.l0 k s1 u.2.2.2.2.1 (acc ++ [(⟨u.1, u.2.1, a2⟩ : S30)]) u.2.2.2.2.2) else (some (([] : List (S30)), a2, u.2.2.2.1))) (Ev.congr (fun k => ?_) i1))), q2 _ (Ev.congr (fun k => ?_) (Ev.bind hv2 (f := fun k b => if b.2.2.2.2 = 0 then (if acc.length < 4398046511104 then (imageeditorref53_Tokens.l0 k s1 (acc ++ [(⟨b.1, b.2.1, b.2.2.1⟩ : S30)]) b.2.2.2.1) else (none)) else (some (([] : List (S30)), a2, b.2.2.2.2))) (Ev.congr (fun k => ?_) i2)))⟩
          · rw [if_neg (by omega), if_neg e]
          · dsimp only; rw [if_pos rfl]; rfl
          · rw [if_neg (by omega), if_neg e]
          · dsimp only; rw [if_pos rfl, if_pos (by omega)]; rfl
        · rw [if_neg hz]
          refine ⟨q1 _ (Ev.congr (fun k => ?_) (Ev.bind hv1 (f := fun k u => if u.2.2.2.1 = 0 then (lex_Tokens.l0 k s u.2.2.2.2.1 (acc ++ [(⟨u.1, u.2.1, j'⟩ : S30)]) u.2.2.2.2.2) else (some (([] : List (S30)), j', u.2.2.2.1))) (Ev.congr (fun k => ?_) (Ev.now _)))), q2 _ (Ev.congr (fun k => ?_) (Ev.bind hv2 (f := fun k b => if b.2.2.2.2 = 0 then (if acc.length < 4398046511104 then (imageeditorref53_Tokens.l0 k s (acc ++ [(⟨b.1, b.2.1, b.2.2.1⟩ : S30)]) b.2.2.2.1) else (none)) else (some (([] : List (S30)), j', b.2.2.2.2))) (Ev.congr (fun k => ?_) (Ev.now _))))⟩
          · rw [if_neg (by omega), if_neg e]
          · dsimp only; rw [if_neg hz]
          · rw [if_neg (by omega), if_neg e]
          · dsimp only; rw [if_neg hz]
theorem lex_Tokens_ev (s : ByteArray) : Ev (fun k => lex_Tokens.f k s) (lexS s.data.toList) ∧ Ev (fun k => imageeditorref53_Tokens.f k s) (lexS s.data.toList) := by
  unfold lexS
  rw [← size_data]
  by_cases hb : s.size > 16384
  · rw [if_pos hb]
    refine ⟨Ev.congr (fun k => ?_) (Ev.now _), Ev.congr (fun k => ?_) (Ev.now _)⟩
    · unfold lex_Tokens.f; rw [if_pos (by omega)]
    · unfold imageeditorref53_Tokens.f; rw [if_pos (by omega)]
  · rw [if_neg hb]
    obtain ⟨h1, h2⟩ := lex_toks_at s (by omega) (s.size + 1) s.data.toList [] 0 (by rw [← size_data]; omega) (by simp) (AtL.start s)
    refine ⟨Ev.congr (fun k => ?_) h1, Ev.congr (fun k => ?_) h2⟩
    · unfold lex_Tokens.f; rw [if_neg (by omega)]
    · unfold imageeditorref53_Tokens.f; rw [if_neg (by omega)]
end Go.Proofs.YtflmpgepboldfaaDoor.Lx
