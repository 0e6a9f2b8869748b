/-
  The plain law LexBlanks: for every text, blanks and comments about it change only the places of its tokens, and so does writing the tokens anew.
-/
import Derived.Test.YtflmpgepboldfaaDoorG11
import Derived.Test.YtflmpgepboldfaaDoorLb
import Derived.Test.YtflmpgepboldfaaDoorPureLexTokens
namespace Go.Proofs.YtflmpgepboldfaaDoor.Pure
open Go.RowKit Go.Proofs.YtflmpgepboldfaaDoor.G Go.Proofs.YtflmpgepboldfaaDoorW.PrintWords Go.Proofs.YtflmpgepboldfaaDoorW.PrintLast Go.Proofs.YtflmpgepboldfaaDoor.Lx

theorem al_rd {a b : List S30} (h : Al a b) (i : Int) : (rd_T30 a i).f0 = (rd_T30 b i).f0 ∧ (rd_T30 a i).f1 = (rd_T30 b i).f1 := by
  have g : ∀ xs : List S30, ((rd_T30 xs i).f0, (rd_T30 xs i).f1) = (xs.map (fun t => (t.f0, t.f1))).getD i.toNat (z30.f0, z30.f1) := by
    intro xs
    unfold rd_T30
    rw [List.getD_eq_getElem?_getD, List.getD_eq_getElem?_getD, List.getElem?_map]
    cases xs[i.toNat]? <;> rfl
  have e := (g a).trans ((congrArg (fun m => m.getD i.toNat (z30.f0, z30.f1)) h).trans (g b).symm)
  exact ⟨congrArg Prod.fst e, congrArg Prod.snd e⟩
theorem al_len {a b : List S30} (h : Al a b) : a.length = b.length := by
  have e := congrArg List.length h
  simpa using e
theorem alike_at {a b : List S30} (h : Al a b) (hl : a.length ≤ 1000000) : ∀ (n : Nat) (i : Int), 0 ≤ i → i + n = a.length → Ev (fun k => imageeditorlaw53_alike.l0 k a b i) true := by
  intro n
  have hlen := al_len h
  induction n with
  | zero =>
    intro i h0 hi
    refine Ev.step (fun k => ?_) (Ev.now _)
    rw [imageeditorlaw53_alike.l0, if_neg (by omega)]
  | succ n ih =>
    intro i h0 hi
    refine Ev.step (fun k => ?_) (ih (i + 1) (by omega) (by omega))
    rw [imageeditorlaw53_alike.l0, if_pos (by omega), if_pos h0, if_pos (by omega), Lx.wrap_small (by omega) (by omega), (al_rd h i).1, (al_rd h i).2, if_pos rfl, if_pos rfl]
theorem alike_ev {a b : List S30} (h : Al a b) (hl : a.length ≤ 1000000) : Ev (fun k => imageeditorlaw53_alike.f k a b) true := by
  refine Ev.congr (fun k => ?_) (alike_at h hl a.length 0 (by omega) (by omega))
  unfold imageeditorlaw53_alike.f; rw [if_pos (by have := al_len h; omega)]

theorem vs_head {t : S30} {r : List S30} (h : Vs (t :: r)) : t.f1.data.toList.length ≤ 16384 ∧ (t.f0 = 2 → t.f1.data.toList.all okc = true ∧ t.f1.data.toList.length ≤ 256) ∧ (r = [] ∨ Vs r) := by
  cases r with
  | nil => exact ⟨by rw [h.2, B_list]; simp, fun e => by rw [h.1] at e; simp at e, .inl rfl⟩
  | cons u r => exact ⟨h.1.2.1, h.1.2.2, .inr h.2⟩
theorem blanks_loop (ts : List S30) (hlen : ts.length ≤ 4096) (T : List UInt8) (hfin : Ev (fun k => imageeditorlaw53_LexBlanks.l0 k ts (B T) (ts.length : Int)) true) :
    ∀ (us : List S30) (j : Nat) (acc : List UInt8), ts.drop j = us → j ≤ ts.length → (us = [] ∨ Vs us) → acc.length ≤ 40000 * j → acc ++ us.flatMap wr = T →
      Ev (fun k => imageeditorlaw53_LexBlanks.l0 k ts (B acc) (j : Int)) true
  | [], j, acc, hd, hj, _, _, hT => by
    have : ts.length ≤ j := by
      rcases Nat.lt_or_ge j ts.length with h1 | h1
      · rw [List.drop_eq_getElem_cons h1] at hd; cases hd
      · exact h1
    have e : j = ts.length := by omega
    rw [List.flatMap_nil, List.append_nil] at hT
    rw [e, hT]; exact hfin
  | t :: r, j, acc, hd, hj, hv, ha, hT => by
    obtain ⟨rt, hj1⟩ := rd30_at ts j t r hd
    have hd2 : ts.drop (j + 1) = r := by rw [← List.drop_drop, hd]; rfl
    obtain ⟨v1, v2, v3⟩ := vs_head (hv.resolve_left (by simp))
    have hw : wrap64 ((j : Int) + 1) = ((j + 1 : Nat) : Int) := by rw [Lx.wrap_small (by omega) (by omega)]; omega
    have hfl := flat_len t.f1.data.toList
    by_cases h2 : t.f0 = 2
    · obtain ⟨o1, o2⟩ := v2 h2
      have hwr : wr t = ([34] ++ t.f1.data.toList.flatMap qe ++ [34]) ++ [32] := by unfold wr wp; rw [if_pos h2]
      have hwl : (wr t).length = (t.f1.data.toList.flatMap qe).length + 3 := by rw [hwr]; simp
      have ih := blanks_loop ts hlen T hfin r (j + 1) (acc ++ wr t) hd2 (by omega) v3 (by rw [List.length_append]; omega) (by rw [← hT, List.flatMap_cons, List.append_assoc])
      have hq := lex_Quote_ev t.f1 (by rw [size_data]; omega)
      have hqs : quoS t.f1.data.toList = (B ([34] ++ t.f1.data.toList.flatMap qe ++ [34]), 0) := by
        unfold quoS quoR; rw [if_pos o1, if_neg (by omega)]
      rw [hqs] at hq
      have hql : ([34] ++ t.f1.data.toList.flatMap qe ++ [34] : List UInt8).length = (t.f1.data.toList.flatMap qe).length + 2 := by simp
      have hb := Ev.bind hq (f := fun k (b : ByteArray × Int) => (if b.2 = 0 then (if (B acc).size + b.1.size ≤ 9223372036854775807 then (if ((B acc) ++ b.1).size + 1 ≤ 9223372036854775807 then (imageeditorlaw53_LexBlanks.l0 k ts (((B acc) ++ b.1) ++ (⟨#[32]⟩ : ByteArray)) (wrap64 ((j : Int) + 1))) else (none)) else (none)) else (some false))) (r := true) (Ev.congr (fun k => by
          have e32 : (⟨#[32]⟩ : ByteArray) = B [32] := rfl
          rw [if_pos rfl, if_pos (by rw [B_size, B_size, hql]; omega), B_app, if_pos (by rw [B_size, List.length_append, hql]; omega), e32, B_app, hw, List.append_assoc, ← hwr]) ih)
      refine Ev.step (fun k => ?_) hb
      rw [imageeditorlaw53_LexBlanks.l0, rt, if_pos (by omega), if_pos (by omega), if_pos h2]
    · have hwr : wr t = t.f1.data.toList ++ [32] := by unfold wr wp; rw [if_neg h2]
      have hwl : (wr t).length = t.f1.data.toList.length + 1 := by rw [hwr]; simp
      have ih := blanks_loop ts hlen T hfin r (j + 1) (acc ++ wr t) hd2 (by omega) v3 (by rw [List.length_append]; omega) (by rw [← hT, List.flatMap_cons, List.append_assoc])
      refine Ev.step (fun k => ?_) ih
      have e32 : (⟨#[32]⟩ : ByteArray) = B [32] := rfl
      have ef : t.f1 = B t.f1.data.toList := (B_back _).symm
      rw [imageeditorlaw53_LexBlanks.l0, rt, if_pos (by omega), if_pos (by omega), if_neg h2]
      rw [ef] at hwr
      rw [ef, if_pos (by rw [B_size, B_size]; omega), B_app, if_pos (by rw [B_size, List.length_append]; omega), e32, B_app, hw, List.append_assoc]
      rw [B_list] at hwr
      rw [hwr]

theorem LexBlanks : imageeditorlaw53_LexBlanks.Pure := by
  intro a0 _
  obtain ⟨h1, -⟩ := lex_Tokens_ev a0
  have ex := Ev.bind example_ev (f := fun _ t => some t) (Ev.now true)
  have exj : ∀ ts, Ev (fun k => imageeditorlaw53_LexBlanks.j0 k a0 ts true) true := fun ts => by
    refine Ev.step (fun k => ?_) ex
    rw [imageeditorlaw53_LexBlanks.j0, if_pos rfl]
  refine Ev.rounds (Ev.bind h1 (f := fun k (b : List S30 × Int × Int) => (if b.2.2 = 0 then (imageeditorlaw53_LexBlanks.j0 k a0 b.1 (decide ((a0.size : Int) > 16364))) else (imageeditorlaw53_LexBlanks.j0 k a0 b.1 true))) ?_)
  by_cases hz : (lexS a0.data.toList).2.2 = 0
  · obtain ⟨ts, e1, hv, hlen, hp, hw⟩ := lexS_ok _ hz
    rw [e1]
    by_cases hb : a0.size > 16364
    · refine Ev.congr (fun k => ?_) (exj ts)
      rw [if_pos rfl, decide_eq_true (by omega)]
    · obtain ⟨ms, m1, m2⟩ := hp (by rw [← size_data]; omega)
      have hfin : Ev (fun k => imageeditorlaw53_LexBlanks.l0 k ts (B (ts.flatMap wr)) (ts.length : Int)) true := by
        by_cases hbig : (ts.flatMap wr).length > 16384
        · refine Ev.step (fun k => ?_) ex
          rw [imageeditorlaw53_LexBlanks.l0, if_neg (by omega), if_pos (by rw [B_size]; omega)]
        · obtain ⟨ns, n1, n2⟩ := hw (by omega)
          obtain ⟨t1, -⟩ := lex_Tokens_ev (B (ts.flatMap wr))
          rw [B_list, n1] at t1
          refine Ev.step (fun k => ?_) (Ev.bind t1 (f := fun k (c : List S30 × Int × Int) => (if c.2.2 = 0 then ((imageeditorlaw53_alike.f k ts c.1).bind fun t320 => (if t320 = true then ((imageeditorlaw53_example.f k).bind fun t321 => (some t321)) else (some false))) else (some false))) (r := true) (Ev.congr (fun k => by rw [if_pos rfl]) (Ev.bind (alike_ev n2 (by omega)) (f := fun k (t320 : Bool) => (if t320 = true then ((imageeditorlaw53_example.f k).bind fun t321 => (some t321)) else (some false))) (Ev.congr (fun k => by rw [if_pos rfl]) ex))))
          rw [imageeditorlaw53_LexBlanks.l0, if_neg (by omega), if_neg (by rw [B_size]; omega)]
      have hl := blanks_loop ts hlen (ts.flatMap wr) hfin ts 0 [] rfl (by omega) (.inr hv) (by simp) (by simp)
      have hj1 : Ev (fun k => imageeditorlaw53_LexBlanks.j1 k ts false) true := by
        refine Ev.step (fun k => ?_) hl
        rw [imageeditorlaw53_LexBlanks.j1, if_neg (by simp)]; rfl
      have hsz : ((⟨#[32, 9, 35, 32, 97, 32, 34, 32, 98, 10]⟩ : ByteArray) ++ a0).size = 10 + a0.size := by rw [ByteArray.size_append]; rfl
      have hcat : (((⟨#[32, 9, 35, 32, 97, 32, 34, 32, 98, 10]⟩ : ByteArray) ++ a0) ++ (⟨#[10, 32, 35, 32, 99]⟩ : ByteArray)) = B (pfx ++ a0.data.toList ++ sfx) := by
        refine ba_ext ?_
        rw [B_list]; simp [pfx, sfx]
      obtain ⟨t1, -⟩ := lex_Tokens_ev (B (pfx ++ a0.data.toList ++ sfx))
      rw [B_list, m1] at t1
      have hj0 : Ev (fun k => imageeditorlaw53_LexBlanks.j0 k a0 ts false) true := by
        refine Ev.step (fun k => ?_) (Ev.bind t1 (f := fun k (c : List S30 × Int × Int) => (if c.2.2 = 0 then ((imageeditorlaw53_alike.f k ts c.1).bind fun t309 => (imageeditorlaw53_LexBlanks.j1 k ts (!t309))) else (imageeditorlaw53_LexBlanks.j1 k ts true))) (r := true) (Ev.congr (fun k => by rw [if_pos rfl]) (Ev.bind (alike_ev m2 (by omega)) (f := fun k (t309 : Bool) => imageeditorlaw53_LexBlanks.j1 k ts (!t309)) hj1)))
        rw [imageeditorlaw53_LexBlanks.j0, if_neg (by simp), if_pos (by omega), if_pos (by rw [hsz]; omega), hcat]
      refine Ev.congr (fun k => ?_) hj0
      rw [if_pos rfl, decide_eq_false (by omega)]
  · refine Ev.congr (fun k => ?_) (exj (lexS a0.data.toList).1)
    rw [if_neg hz]

end Go.Proofs.YtflmpgepboldfaaDoor.Pure
