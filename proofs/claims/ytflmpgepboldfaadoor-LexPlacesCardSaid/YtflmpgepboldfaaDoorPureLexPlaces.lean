/-
  The plain law LexPlaces: for every text the tokens stand at their places, in order.
-/
import Derived.Test.YtflmpgepboldfaaDoorG8
import Derived.Test.YtflmpgepboldfaaDoorLp
import Derived.Test.YtflmpgepboldfaaDoorPureLexTokens
namespace Go.Proofs.YtflmpgepboldfaaDoor.Pure
open Go.RowKit Go.Proofs.YtflmpgepboldfaaDoor.G Go.Proofs.YtflmpgepboldfaaDoorW.PrintWords Go.Proofs.YtflmpgepboldfaaDoorW.PrintLast Go.Proofs.YtflmpgepboldfaaDoor.Lx

theorem toList_size (b : ByteArray) (h : b.toList = []) : b.size = 0 := by
  rw [ByteArray.toList_eq] at h; rw [size_data, h]; rfl
theorem places_loop (s : ByteArray) (hs : s.size ≤ 16384) (xs : List S30) (hx : xs.length ≤ 1000000) : ∀ (ts : List S30) (j : Nat) (i : Int), xs.drop j = ts → Ch s i ts → 0 ≤ i →
    Ev (fun k => imageeditorlaw53_LexPlaces.l0 k s xs (j : Int)) true
  | [], _, _, _, hc, _ => hc.elim
  | [t], j, i, hd, _, _ => by
    have hl : xs.length = j + 1 := by
      have h1 := (rd30_at xs j t [] hd).2
      have h2 := congrArg List.length hd
      rw [List.length_drop] at h2
      simp at h2; omega
    have e := Ev.bind example_ev (f := fun _ t => some t) (Ev.now true)
    refine Ev.step (fun k => ?_) e
    rw [imageeditorlaw53_LexPlaces.l0, Lx.wrap_small (by omega) (by omega), if_neg (by omega)]
  | t :: u :: r, j, i, hd, hc, h0 => by
    obtain ⟨rt, hj⟩ := rd30_at xs j t _ hd
    have hd2 : xs.drop (j + 1) = u :: r := by rw [← List.drop_drop, hd]; rfl
    obtain ⟨ru, hj1⟩ := rd30_at xs (j + 1) u _ hd2
    have ih := places_loop s hs xs hx (u :: r) (j + 1) (t.f2 + 1) hd2 hc.2.2 (by have := hc.1; omega)
    have hu := Ch.head hc.2.2
    have ht := hc.1
    have hk := hc.2.1.1
    have hw : wrap64 ((j : Int) + 1) = ((j + 1 : Nat) : Int) := by rw [Lx.wrap_small (by omega) (by omega)]; omega
    have h2 : Ev (fun k => imageeditorlaw53_LexPlaces.j2 k s xs (j : Int) false t.f0 t.f1 t.f2) true := by
      refine Ev.step (fun k => ?_) ih
      rw [imageeditorlaw53_LexPlaces.j2, if_neg (by simp), hw]
      by_cases h2 : t.f0 = 2
      · rw [if_pos h2]
      · obtain ⟨g1, g2, g3⟩ := hc.2.1.2 h2
        rw [if_neg h2, if_neg (fun e => g1 (toList_size _ e)), Lx.wrap_small (by omega) (by omega), if_neg (by omega), if_pos (by omega), Lx.wrap_small (by omega) (by omega), if_pos (by omega), if_pos (by omega), g3, if_pos rfl]
    refine Ev.step (fun k => ?_) h2
    rw [imageeditorlaw53_LexPlaces.l0, hw, rt, ru, if_pos (by omega), if_pos (by omega), if_pos (by omega), if_neg (by omega), if_pos (by omega), if_neg (by omega)]
    have : (t.f0 == 0) = false := by simpa using hk
    rw [this]

theorem LexPlaces : imageeditorlaw53_LexPlaces.Pure := by
  intro a0 _
  obtain ⟨h1, -⟩ := lex_Tokens_ev a0
  have hlen := lexS_len a0.data.toList
  have e := Ev.bind example_ev (f := fun _ t => some t) (Ev.now true)
  have fin : Ev (fun k => (if (lexS a0.data.toList).2.2 = 0 then (if ((lexS a0.data.toList).1.length : Int) = 0 then (imageeditorlaw53_LexPlaces.j0 k a0 (lexS a0.data.toList).1 true) else (if 0 ≤ (wrap64 (((lexS a0.data.toList).1.length : Int) - 1)) then (if (wrap64 (((lexS a0.data.toList).1.length : Int) - 1)) < ((lexS a0.data.toList).1.length : Int) then (imageeditorlaw53_LexPlaces.j0 k a0 (lexS a0.data.toList).1 (!(((rd_T30 (lexS a0.data.toList).1 (wrap64 (((lexS a0.data.toList).1.length : Int) - 1))).f0) == 0) || (!((((rd_T30 (lexS a0.data.toList).1 (wrap64 (((lexS a0.data.toList).1.length : Int) - 1))).f1).toList) == ([] : List UInt8)) || (!(((rd_T30 (lexS a0.data.toList).1 (wrap64 (((lexS a0.data.toList).1.length : Int) - 1))).f2) == (a0.size : Int)))))) else (none)) else (none))) else (if ((lexS a0.data.toList).1.length : Int) = 0 then ((imageeditorlaw53_example.f k).bind fun t243 => (some t243)) else (some false)))) true := by
    by_cases hz : (lexS a0.data.toList).2.2 = 0
    · have hc := lexS_chain a0 hz
      obtain ⟨r, hr⟩ := hc.last
      have hb : a0.size ≤ 16384 := by
        unfold lexS at hz
        rw [← size_data] at hz
        by_cases hb : a0.size > 16384
        · rw [if_pos hb] at hz; simp at hz
        · omega
      generalize (lexS a0.data.toList).1 = xs at hc hr hlen
      have hl := places_loop a0 hb xs (by omega) xs 0 0 rfl hc (by omega)
      have hll : xs.length = r.length + 1 := by rw [hr]; simp
      have hj0 : Ev (fun k => imageeditorlaw53_LexPlaces.j0 k a0 xs false) true := by
        refine Ev.step (fun k => ?_) hl
        rw [imageeditorlaw53_LexPlaces.j0, if_neg (by simp)]; rfl
      refine Ev.congr (fun k => ?_) hj0
      have ew : wrap64 ((xs.length : Int) - 1) = ((r.length : Nat) : Int) := by rw [Lx.wrap_small (by omega) (by omega)]; omega
      have er : rd_T30 xs ((r.length : Nat) : Int) = ⟨0, B [], a0.size⟩ := (rd30_at xs r.length _ [] (by rw [hr]; simp)).1
      rw [if_pos hz, if_neg (by omega), ew, if_pos (by omega), if_pos (by omega), er]
      have : (!((0 : Int) == 0) || (!(((B []).toList) == ([] : List UInt8)) || (!((a0.size : Int) == (a0.size : Int))))) = false := by
        rw [ByteArray.toList_eq]; simp [B]
      rw [this]
    · have hn := lexS_err _ hz
      refine Ev.congr (fun k => ?_) e
      rw [if_neg hz, hn, if_pos (by simp)]
  exact Ev.rounds (Ev.bind h1 (f := fun k (b : List S30 × Int × Int) => (if b.2.2 = 0 then (if (b.1.length : Int) = 0 then (imageeditorlaw53_LexPlaces.j0 k a0 b.1 true) else (if 0 ≤ (wrap64 ((b.1.length : Int) - 1)) then (if (wrap64 ((b.1.length : Int) - 1)) < (b.1.length : Int) then (imageeditorlaw53_LexPlaces.j0 k a0 b.1 (!(((rd_T30 b.1 (wrap64 ((b.1.length : Int) - 1))).f0) == 0) || (!((((rd_T30 b.1 (wrap64 ((b.1.length : Int) - 1))).f1).toList) == ([] : List UInt8)) || (!(((rd_T30 b.1 (wrap64 ((b.1.length : Int) - 1))).f2) == (a0.size : Int)))))) else (none)) else (none))) else (if (b.1.length : Int) = 0 then ((imageeditorlaw53_example.f k).bind fun t243 => (some t243)) else (some false)))) fin)

end Go.Proofs.YtflmpgepboldfaaDoor.Pure
