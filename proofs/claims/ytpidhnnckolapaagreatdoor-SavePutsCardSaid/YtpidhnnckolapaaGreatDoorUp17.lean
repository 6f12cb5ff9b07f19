/- The plain law: what Put writes, Get reads back; no program in sight. -/
import Derived.Test.YtpidhnnckolapaaGreatDoorUp12
namespace Go.Proofs.YtpidhnnckolapaaGreatDoor.K
open Go.RowKit Go.Proofs.YtpidhnnckolapaaGreatDoorW.PrintWords Go.Proofs.YtpidhnnckolapaaGreatDoorW.PrintLast
set_option linter.unusedVariables false
set_option linter.unusedSimpArgs false
def Bytes8 (l : List Int) : Prop := ∀ y ∈ l, 0 ≤ y ∧ y ≤ 255
theorem Bytes8.drop {l : List Int} (h : Bytes8 l) (k : Nat) : Bytes8 (l.drop k) := fun y hy => h y (List.mem_of_mem_drop hy)
/-- A decoder and an encoder that fit. -/
structure Codec {α : Type} (d : D α) (enc : α → List Int) (ok : α → Prop) : Prop where
  back : ∀ x, ok x → ∀ r, d (enc x ++ r) = some (x, (enc x).length)
  forth : ∀ l x k, Bytes8 l → d l = some (x, k) → ok x ∧ k ≤ l.length ∧ l.take k = enc x
  pos : ∀ x, ok x → 1 ≤ (enc x).length
def okN (n : Int) : Prop := 0 ≤ n ∧ n ≤ 2147483647
theorem numB_len (n : Int) : (numB n).length = 4 := rfl
theorem take4_numB {n : Int} (h : okN n) (r : List Int) : take4 (numB n ++ r) = some (n, r) := by
  obtain ⟨h0, h1⟩ := h
  simp only [numB, List.cons_append, List.nil_append, take4]
  rw [if_pos (by omega)]
  congr 2
  unfold num4; omega
theorem take4_forth {l : List Int} {n : Int} {r : List Int} (h8 : Bytes8 l) (h : take4 l = some (n, r)) : okN n ∧ l.take 4 = numB n ∧ 4 ≤ l.length ∧ r = l.drop 4 := by
  obtain ⟨hr, hl⟩ := take4_drop h
  refine ⟨take4_range h8 h, ?_, hl, hr⟩
  match l, h, h8 with
  | b0 :: b1 :: b2 :: b3 :: rs, h, h8 =>
    simp only [take4] at h
    split at h
    · simp only [Option.some.injEq, Prod.mk.injEq, num4] at h
      have h0 := h8 b0 (by simp)
      have h1 := h8 b1 (by simp)
      have h2 := h8 b2 (by simp)
      have h3 := h8 b3 (by simp)
      obtain ⟨hn, _⟩ := h
      simp only [List.take_succ_cons, List.take_zero, numB]
      congr 1
      · omega
      · congr 1
        · omega
        · congr 1
          · omega
          · congr 1; omega
    · cases h
theorem numCodec : Codec dNum numB okN := by
  refine ⟨fun n h r => ?_, fun l n k h8 e => ?_, fun n _ => by rw [numB_len]; omega⟩
  · unfold dNum; rw [take4_numB h]; rfl
  · unfold dNum at e
    obtain ⟨q, hq, e⟩ := Option.map_eq_some_iff.1 e
    simp only [Prod.mk.injEq] at e
    obtain ⟨rfl, rfl⟩ := e
    obtain ⟨h1, h2, h3, _⟩ := take4_forth (n := q.1) (r := q.2) h8 hq
    exact ⟨h1, h3, h2⟩
theorem cutT_esc (l : List Int) (r : List Int) : cutT (esc l ++ (0 :: 1 :: r)) = some (l, (esc l).length + 2) := by
  induction l with
  | nil => exact cutT_1
  | cons x l ih =>
    unfold esc
    by_cases hx : x = 0
    · subst hx
      rw [if_pos rfl]
      simp only [List.cons_append]
      rw [cutT_255, ih]; simp
    · rw [if_neg hx]
      simp only [List.cons_append]
      rw [cutT_x hx, ih]; simp
theorem cutT_forth (l : List Int) : ∀ q, cutT l = some q → l.take q.2 = esc q.1 ++ [0, 1] ∧ q.2 ≤ l.length ∧ (∀ y ∈ q.1, y ∈ l ∨ y = 0) := by
  induction l using cutT.induct with
  | case1 => intro q h; rw [cutT.eq_def] at h; cases h
  | case2 x r hx ih =>
    intro q h
    rw [cutT_x hx] at h
    obtain ⟨t, ht, rfl⟩ := Option.map_eq_some_iff.1 h
    obtain ⟨h1, h2, h3⟩ := ih t ht
    refine ⟨?_, by simp; omega, ?_⟩
    · simp only [List.take_succ_cons, h1, esc, if_neg hx, List.cons_append]
    · intro y hy
      rcases List.mem_cons.1 hy with rfl | hy
      · exact .inl (by simp)
      · rcases h3 y hy with h | h
        · exact .inl (by simp [h])
        · exact .inr h
  | case3 x hx =>
    intro q h
    have : x = 0 := by simpa using hx
    subst this; cases h
  | case4 x hx r ih =>
    intro q h
    have hx0 : x = 0 := by simpa using hx
    subst hx0
    rw [cutT_255] at h
    obtain ⟨t, ht, rfl⟩ := Option.map_eq_some_iff.1 h
    obtain ⟨h1, h2, h3⟩ := ih t ht
    refine ⟨?_, by simp; omega, ?_⟩
    · simp only [List.take_succ_cons, h1, esc, if_true, List.cons_append]
    · intro y hy
      rcases List.mem_cons.1 hy with rfl | hy
      · exact .inr rfl
      · rcases h3 y hy with h | h
        · exact .inl (by simp [h])
        · exact .inr h
  | case5 x hx r h255 =>
    intro q h
    have hx0 : x = 0 := by simpa using hx
    subst hx0
    rw [cutT_1] at h
    cases h
    exact ⟨by simp [esc], by simp, fun y hy => by cases hy⟩
  | case6 x hx y r h255 h1 =>
    intro q h
    have hx0 : x = 0 := by simpa using hx
    subst hx0
    rw [cutT_odd h255 h1] at h; cases h
theorem be_8 (a b c d e f g h : Int) : be [a, b, c, d, e, f, g, h] = ((((((a * 256 + b) * 256 + c) * 256 + d) * 256 + e) * 256 + f) * 256 + g) * 256 + h := by simp [be]
theorem be_beB {u : Int} (h0 : 0 ≤ u) (h1 : u < 18446744073709551616) : be (beB u) = u := by
  unfold beB
  rw [be_8]
  omega
theorem list8 {t : List Int} (h : t.length = 8) : ∃ a b c d e f g i, t = [a, b, c, d, e, f, g, i] := by
  match t, h with
  | [a, b, c, d, e, f, g, i], _ => exact ⟨a, b, c, d, e, f, g, i, rfl⟩
theorem beB_be {t : List Int} (hl : t.length = 8) (h8 : Bytes8 t) : beB (be t) = t := by
  obtain ⟨a, b, c, d, e, f, g, i, rfl⟩ := list8 hl
  have ha := h8 a (by simp)
  have hb := h8 b (by simp)
  have hc := h8 c (by simp)
  have hd := h8 d (by simp)
  have he := h8 e (by simp)
  have hf := h8 f (by simp)
  have hg := h8 g (by simp)
  have hi := h8 i (by simp)
  rw [be_8]
  unfold beB
  congr 1; omega
  congr 1; omega
  congr 1; omega
  congr 1; omega
  congr 1; omega
  congr 1; omega
  congr 1; omega
  congr 1; omega
theorem str_size (l : List Int) : (strOfNums l).size = l.length := by
  rw [← sB_len]
  unfold sB strOfNums
  simp
def okV (x : PA.S45) : Prop := rightV x = true ∧ (-9223372036854775808 ≤ x.f1 ∧ x.f1 ≤ 9223372036854775807)
theorem right_cases {x : PA.S45} (h : rightV x = true) : x = ⟨1, x.f1, ⟨#[]⟩, false⟩ ∨ (x = ⟨2, 0, x.f2, false⟩ ∧ x.f2.size ≤ 4096) ∨ x = ⟨3, 0, ⟨#[]⟩, x.f3⟩ := by
  obtain ⟨a, b, c, d⟩ := x
  unfold rightV at h
  simp only at h ⊢
  split at h
  · rename_i e; subst e
    simp at h
    obtain ⟨rfl, rfl⟩ := h
    exact .inl rfl
  · split at h
    · rename_i e; subst e
      simp at h
      obtain ⟨rfl, rfl, hs⟩ := h
      exact .inr (.inl ⟨rfl, hs⟩)
    · split at h
      · rename_i e; subst e
        simp at h
        obtain ⟨rfl, rfl⟩ := h
        exact .inr (.inr rfl)
      · cases h
theorem cutV_1 {l : List Int} (h : 8 ≤ l.length) : cutV (1 :: l) = some (⟨1, be (l.take 8) - 9223372036854775808, ⟨#[]⟩, false⟩, 9) := by
  match l, h with
  | y :: r, h => simp only [cutV]; rw [if_neg (by decide), if_neg (by decide), if_pos trivial, if_pos h]
theorem cutV_2 {l : List Int} {q : List Int × Nat} (h : cutT l = some q) (hs : q.1.length ≤ 4096) : cutV (2 :: l) = some (⟨2, 0, strOfNums q.1, false⟩, q.2 + 1) := by
  match l, h with
  | y :: r, h => simp only [cutV]; rw [if_neg (by decide), if_pos trivial, h]; simp only; rw [if_pos hs]
theorem valCodec : Codec cutV keyB okV := by
  refine ⟨fun x hx r => ?_, fun l x k h8 e => ?_, fun x hx => ?_⟩
  · obtain ⟨hr, hn⟩ := hx
    rcases right_cases hr with e | ⟨e, hs⟩ | e
    · generalize x.f1 = n at *
      subst e
      have hb : (beB (n + 9223372036854775808)).length = 8 := rfl
      simp only [keyB, if_true, List.cons_append]
      rw [cutV_1 (by rw [List.length_append, hb]; omega), List.take_left' hb, be_beB (by omega) (by omega)]
      simp [hb]
    · generalize x.f2 = s at *
      subst e
      have ht := cutT_esc (sB s) r
      have ht' : cutT (textB s ++ r) = some (sB s, (textB s).length) := by
        unfold textB
        rw [List.append_assoc]
        rw [show [0, 1] ++ r = 0 :: 1 :: r from rfl, ht]
        simp
      have hk : keyB ⟨2, 0, s, false⟩ = 2 :: textB s := by simp [keyB]
      rw [hk, List.cons_append, cutV_2 ht' (by rw [sB_len]; exact hs)]
      simp only [str_sB, List.length_cons]
    · generalize x.f3 = b at *
      subst e
      cases b <;> simp [keyB, cutV]
  · match l, e, h8 with
    | b :: y :: r, e, h8 =>
      simp only [cutV] at e
      split at e
      · rename_i hb; subst hb
        split at e
        · rename_i hy
          simp only [Option.some.injEq, Prod.mk.injEq] at e
          obtain ⟨rfl, rfl⟩ := e
          have hy0 := (h8 y (by simp)).1
          have hyy : y = 0 ∨ y = 1 := by omega
          rcases hyy with rfl | rfl <;> exact ⟨⟨by decide, by decide⟩, by simp, by simp [keyB]⟩
        · cases e
      · split at e
        · rename_i hb; subst hb
          cases hq : cutT (y :: r) with
          | none => rw [hq] at e; cases e
          | some q =>
            rw [hq] at e
            simp only at e
            split at e
            · rename_i hs
              simp only [Option.some.injEq, Prod.mk.injEq] at e
              obtain ⟨rfl, rfl⟩ := e
              obtain ⟨h1, h2, h3⟩ := cutT_forth _ q hq
              have hq8 : ∀ z ∈ q.1, 0 ≤ z ∧ z ≤ 255 := fun z hz => by
                rcases h3 z hz with h | h
                · exact h8 z (by simp at h ⊢; exact .inr h)
                · subst h; omega
              refine ⟨⟨?_, by simp⟩, by simp at h2 ⊢; omega, ?_⟩
              · simp [rightV, str_size]; exact hs
              · have hk : keyB ⟨2, 0, strOfNums q.1, false⟩ = 2 :: textB (strOfNums q.1) := by simp [keyB]
                rw [List.take_succ_cons, h1, hk]
                unfold textB
                rw [sB_str _ hq8]
            · cases e
        · split at e
          · rename_i hb; subst hb
            split at e
            · rename_i hl
              simp only [Option.some.injEq, Prod.mk.injEq] at e
              obtain ⟨rfl, rfl⟩ := e
              have ht8 : Bytes8 ((y :: r).take 8) := fun z hz => h8 z (by simp only [List.mem_cons]; exact .inr (List.mem_of_mem_take hz |> fun h => by simpa using h))
              have htl : ((y :: r).take 8).length = 8 := by rw [List.length_take]; omega
              have hbd := be_bound ((y :: r).take 8) ht8
              rw [htl] at hbd
              have h256 : (256 : Int) ^ 8 = 18446744073709551616 := by decide
              rw [h256] at hbd
              refine ⟨⟨by simp [rightV], by simp only; omega⟩, by simp at hl ⊢; omega, ?_⟩
              simp only [keyB, if_true]
              rw [show be ((y :: r).take 8) - 9223372036854775808 + 9223372036854775808 = be ((y :: r).take 8) by omega, beB_be htl ht8]
              rfl
            · cases e
          · cases e
  · unfold keyB
    split
    · simp
    · split <;> simp
end Go.Proofs.YtpidhnnckolapaaGreatDoor.K
namespace Go.Proofs.YtpidhnnckolapaaGreatDoor.K
open Go.RowKit Go.Proofs.YtpidhnnckolapaaGreatDoorW.PrintWords Go.Proofs.YtpidhnnckolapaaGreatDoorW.PrintLast
set_option linter.unusedVariables false
set_option linter.unusedSimpArgs false
theorem rep_back {α : Type} {d : D α} {enc : α → List Int} {ok : α → Prop} (h : Codec d enc ok) : ∀ (xs : List α), (∀ x ∈ xs, ok x) → ∀ r, dRep d xs.length (xs.flatMap enc ++ r) = some (xs, (xs.flatMap enc).length) := by
  intro xs
  induction xs with
  | nil => intro _ r; simp [dRep]
  | cons x xs ih =>
    intro hx r
    rw [List.length_cons, dRep, List.flatMap_cons, List.append_assoc, h.back x (hx x (by simp))]
    simp only
    rw [List.drop_left' rfl, ih (fun y hy => hx y (by simp [hy])) r]
    simp
theorem rep_forth {α : Type} {d : D α} {enc : α → List Int} {ok : α → Prop} (h : Codec d enc ok) : ∀ (n : Nat) (l : List Int) (xs : List α) (k : Nat), Bytes8 l → dRep d n l = some (xs, k) → xs.length = n ∧ (∀ x ∈ xs, ok x) ∧ k ≤ l.length ∧ l.take k = xs.flatMap enc := by
  intro n
  induction n with
  | zero =>
    intro l xs k _ e
    simp only [dRep, Option.some.injEq, Prod.mk.injEq] at e
    obtain ⟨rfl, rfl⟩ := e
    simp
  | succ n ih =>
    intro l xs k h8 e
    rw [dRep] at e
    cases hd : d l with
    | none => rw [hd] at e; cases e
    | some q =>
      rw [hd] at e
      simp only at e
      obtain ⟨t, ht, e⟩ := Option.map_eq_some_iff.1 e
      simp only [Prod.mk.injEq] at e
      obtain ⟨rfl, rfl⟩ := e
      obtain ⟨h1, h2, h3⟩ := h.forth l q.1 q.2 h8 hd
      obtain ⟨i1, i2, i3, i4⟩ := ih (l.drop q.2) t.1 t.2 (h8.drop _) ht
      rw [List.length_drop] at i3
      refine ⟨by simp [i1], ?_, by omega, ?_⟩
      · intro x hx
        rcases List.mem_cons.1 hx with rfl | hx
        · exact h1
        · exact i2 x hx
      · rw [List.take_add, i4, h3, List.flatMap_cons]
theorem rep_pos {α : Type} {d : D α} {enc : α → List Int} {ok : α → Prop} (h : Codec d enc ok) (xs : List α) (hx : ∀ x ∈ xs, ok x) : xs.length ≤ (xs.flatMap enc).length := by
  induction xs with
  | nil => simp
  | cons x xs ih =>
    rw [List.flatMap_cons, List.length_append, List.length_cons]
    have := h.pos x (hx x (by simp))
    have := ih (fun y hy => hx y (by simp [hy]))
    omega
def listB {α : Type} (enc : α → List Int) (xs : List α) : List Int := numB xs.length ++ xs.flatMap enc
def okL {α : Type} (ok : α → Prop) (xs : List α) : Prop := xs.length ≤ 2147483647 ∧ ∀ x ∈ xs, ok x
theorem listCodec {α : Type} {d : D α} {enc : α → List Int} {ok : α → Prop} (h : Codec d enc ok) : Codec (dList d) (listB enc) (okL ok) := by
  refine ⟨fun xs hx r => ?_, fun l xs k h8 e => ?_, fun xs _ => by simp [listB, numB]⟩
  · unfold dList listB
    rw [List.append_assoc, take4_numB ⟨by omega, by have := hx.1; omega⟩]
    simp only
    have hp := rep_pos h xs hx.2
    rw [if_neg (by rw [List.length_append]; omega), Int.toNat_natCast, rep_back h xs hx.2 r]
    simp [numB_len]; omega
  · unfold dList at e
    cases hq : take4 l with
    | none => rw [hq] at e; cases e
    | some q =>
      rw [hq] at e
      simp only at e
      split at e
      · cases e
      · obtain ⟨t, ht, e⟩ := Option.map_eq_some_iff.1 e
        simp only [Prod.mk.injEq] at e
        obtain ⟨rfl, rfl⟩ := e
        obtain ⟨g1, g2, g3, g4⟩ := take4_forth (n := q.1) (r := q.2) h8 hq
        rw [g4] at ht
        obtain ⟨i1, i2, i3, i4⟩ := rep_forth h q.1.toNat _ t.1 t.2 (h8.drop 4) ht
        rw [List.length_drop] at i3
        unfold okN at g1
        refine ⟨⟨by omega, i2⟩, by omega, ?_⟩
        unfold listB
        rw [Nat.add_comm t.2 4, List.take_add, i4, g2, show ((t.1.length : Nat) : Int) = q.1 by omega]
def slotB (x : PA.S47) : List Int := numB x.f0 ++ keyB x.f1
def confB (x : PA.S49) : List Int := numB x.f0 ++ listB keyB x.f1
def rowB (x : PA.S43) : List Int := listB slotB x.f0 ++ listB confB x.f1
def okSl (x : PA.S47) : Prop := okN x.f0 ∧ okV x.f1
def okCf (x : PA.S49) : Prop := okN x.f0 ∧ okL okV x.f1
def okRw (x : PA.S43) : Prop := okL okSl x.f0 ∧ okL okCf x.f1
theorem slotCodec : Codec dSlot slotB okSl := by
  refine ⟨fun x hx r => ?_, fun l x k h8 e => ?_, fun x _ => by simp [slotB, numB]⟩
  · unfold dSlot slotB
    rw [List.append_assoc, take4_numB hx.1]
    simp only
    rw [valCodec.back _ hx.2 r]
    simp [numB_len]
  · unfold dSlot at e
    cases hq : take4 l with
    | none => rw [hq] at e; cases e
    | some q =>
      rw [hq] at e
      simp only at e
      obtain ⟨t, ht, e⟩ := Option.map_eq_some_iff.1 e
      simp only [Prod.mk.injEq] at e
      obtain ⟨rfl, rfl⟩ := e
      obtain ⟨g1, g2, g3, g4⟩ := take4_forth (n := q.1) (r := q.2) h8 hq
      rw [g4] at ht
      obtain ⟨i2, i3, i4⟩ := valCodec.forth _ t.1 t.2 (h8.drop 4) ht
      rw [List.length_drop] at i3
      exact ⟨⟨g1, i2⟩, by omega, by unfold slotB; rw [List.take_add, i4, g2]⟩
theorem confCodec : Codec dConfig confB okCf := by
  refine ⟨fun x hx r => ?_, fun l x k h8 e => ?_, fun x _ => by simp [confB, numB]⟩
  · unfold dConfig confB
    rw [List.append_assoc, take4_numB hx.1]
    simp only
    rw [(listCodec valCodec).back _ hx.2 r]
    simp [numB_len]
  · unfold dConfig at e
    cases hq : take4 l with
    | none => rw [hq] at e; cases e
    | some q =>
      rw [hq] at e
      simp only at e
      obtain ⟨t, ht, e⟩ := Option.map_eq_some_iff.1 e
      simp only [Prod.mk.injEq] at e
      obtain ⟨rfl, rfl⟩ := e
      obtain ⟨g1, g2, g3, g4⟩ := take4_forth (n := q.1) (r := q.2) h8 hq
      rw [g4] at ht
      obtain ⟨i2, i3, i4⟩ := (listCodec valCodec).forth _ t.1 t.2 (h8.drop 4) ht
      rw [List.length_drop] at i3
      exact ⟨⟨g1, i2⟩, by omega, by unfold confB; rw [List.take_add, i4, g2]⟩
theorem rowCodec : Codec dRow rowB okRw := by
  refine ⟨fun x hx r => ?_, fun l x k h8 e => ?_, fun x _ => by simp [rowB, listB, numB]⟩
  · unfold dRow rowB
    rw [List.append_assoc, (listCodec slotCodec).back _ hx.1]
    simp only
    rw [List.drop_left' rfl, (listCodec confCodec).back _ hx.2 r]
    simp
  · unfold dRow at e
    cases hq : dList dSlot l with
    | none => rw [hq] at e; cases e
    | some q =>
      rw [hq] at e
      simp only at e
      obtain ⟨t, ht, e⟩ := Option.map_eq_some_iff.1 e
      simp only [Prod.mk.injEq] at e
      obtain ⟨rfl, rfl⟩ := e
      obtain ⟨g1, g2, g3⟩ := (listCodec slotCodec).forth l q.1 q.2 h8 hq
      obtain ⟨i2, i3, i4⟩ := (listCodec confCodec).forth _ t.1 t.2 (h8.drop q.2) ht
      rw [List.length_drop] at i3
      exact ⟨⟨g1, i2⟩, by omega, by unfold rowB; rw [List.take_add, i4, g3]⟩
/-- All that a monitor has, as bytes. -/
def snapB (a b c d : Int) (l4 : List (List PA.S45)) (l5 : List PA.S43) : List Int := 81 :: ([a, b, c, d].flatMap numB ++ (listB (listB keyB) l4 ++ listB rowB l5))
def okS (a b c d : Int) (l4 : List (List PA.S45)) (l5 : List PA.S43) : Prop := (okN a ∧ okN b ∧ okN c ∧ okN d) ∧ okL (okL okV) l4 ∧ okL okRw l5
theorem dSnap_cons (x : Int) (r : List Int) : dSnap (x :: r) = if x = 81 then dSnap2 r else none := rfl
theorem snap_back {a b c d : Int} {l4 : List (List PA.S45)} {l5 : List PA.S43} (h : okS a b c d l4 l5) : dSnap (snapB a b c d l4 l5) = some ([a, b, c, d], l4, l5) := by
  obtain ⟨⟨ha, hb, hc, hd⟩, h4, h5⟩ := h
  have h1 := rep_back numCodec [a, b, c, d] (by intro x hx; simp at hx; rcases hx with rfl | rfl | rfl | rfl <;> assumption) (listB (listB keyB) l4 ++ listB rowB l5)
  have h2 := (listCodec (listCodec valCodec)).back l4 h4 (listB rowB l5)
  have h3 := (listCodec rowCodec).back l5 h5 []
  rw [List.append_nil] at h3
  unfold snapB
  rw [dSnap_cons, if_pos rfl]
  refine dSnap2_ok (k := ([a, b, c, d].flatMap numB).length) (j := (listB (listB keyB) l4).length) (i := (listB rowB l5).length) h1 ?_ ?_ ?_
  · rw [List.drop_left' rfl, h2]
  · rw [← List.drop_drop, List.drop_left' rfl, List.drop_left' rfl, h3]
  · simp; omega
end Go.Proofs.YtpidhnnckolapaaGreatDoor.K
namespace Go.Proofs.YtpidhnnckolapaaGreatDoor.K
open Go.RowKit Go.Proofs.YtpidhnnckolapaaGreatDoorW.PrintWords Go.Proofs.YtpidhnnckolapaaGreatDoorW.PrintLast
set_option linter.unusedVariables false
set_option linter.unusedSimpArgs false
def overB (n : Int) : Bool := decide (n < 0) || decide (2147483647 < n)
theorem overB_ok {n : Int} : overB n = false ↔ okN n := by unfold overB okN; simp only [Bool.or_eq_false_iff, decide_eq_false_iff_not]; omega
/-- What is wrong: something too great, or something odd. -/
def code (far odd : Bool) : Int := if far then 5 else if odd then 8 else 0
theorem numW_code (n : Int) {F O : Bool} {s : List Int × Int} (h : s.2 = code F O) : (numW n s).2 = code (F || overB n) O := by
  unfold numW
  by_cases hn : n < 0 ∨ 2147483647 < n
  · rw [if_pos hn]
    have : overB n = true := by unfold overB; simp only [Bool.or_eq_true, decide_eq_true_eq]; exact hn
    rw [this, Bool.or_true]
    simp only [wrongE, h, code]
    split <;> simp
  · rw [if_neg hn]
    have : overB n = false := by rw [overB_ok]; unfold okN; omega
    rw [this, Bool.or_false]; exact h
theorem valW_code (x : PA.S45) {F O : Bool} {s : List Int × Int} (h : s.2 = code F O) : (valW x s).2 = code F (O || !rightV x) := by
  unfold valW
  cases hr : rightV x
  · rw [if_neg (by decide)]
    simp only [wrongE, h, Bool.not_false, Bool.or_true]
    cases F <;> cases O <;> decide
  · rw [if_pos rfl]
    simp only [Bool.not_true, Bool.or_false]; exact h
theorem foldW_code {α : Type} {f : α → List Int × Int → List Int × Int} {fa oa : α → Bool} : ∀ (l : List α), (∀ x ∈ l, ∀ F O s, s.2 = code F O → (f x s).2 = code (F || fa x) (O || oa x)) → ∀ F O s, s.2 = code F O → (foldW f l s).2 = code (F || l.any fa) (O || l.any oa) := by
  intro l
  induction l with
  | nil => intro _ F O s h; simp only [foldW, List.foldl_nil, List.any_nil, Bool.or_false]; exact h
  | cons x l ih =>
    intro hf F O s h
    have h1 := hf x (by simp) F O s h
    have h2 := ih (fun y hy => hf y (by simp [hy])) _ _ _ h1
    rw [List.any_cons, List.any_cons, ← Bool.or_assoc, ← Bool.or_assoc]
    exact h2
def small (n : Nat) : Prop := n ≤ 2147483647
theorem over_len {n : Nat} (h : small n) : overB (n : Int) = false := by rw [overB_ok]; unfold okN; unfold small at h; omega
def oddL (l : List PA.S45) : Bool := l.any fun x => !rightV x
theorem valsW_code {l : List PA.S45} (hl : small l.length) {F O : Bool} {s : List Int × Int} (h : s.2 = code F O) : (valsW l s).2 = code F (O || oddL l) := by
  have h1 := numW_code (l.length : Int) h
  rw [over_len hl, Bool.or_false] at h1
  have h2 := foldW_code (f := valW) (fa := fun _ => false) (oa := fun x => !rightV x) l (fun x _ F O s h => by rw [Bool.or_false]; exact valW_code x h) _ _ _ h1
  have e : l.any (fun _ => false) = false := by simp
  rw [e, Bool.or_false] at h2
  exact h2
def farSl (x : PA.S47) : Bool := overB x.f0
def farCf (x : PA.S49) : Bool := overB x.f0
def farR (x : PA.S43) : Bool := x.f0.any farSl || x.f1.any farCf
def oddR (x : PA.S43) : Bool := x.f0.any (fun y => !rightV y.f1) || x.f1.any (fun y => oddL y.f1)
def smallR (x : PA.S43) : Prop := small x.f0.length ∧ small x.f1.length ∧ ∀ y ∈ x.f1, small y.f1.length
theorem slotW_code (x : PA.S47) {F O : Bool} {s : List Int × Int} (h : s.2 = code F O) : (slotW x s).2 = code (F || farSl x) (O || !rightV x.f1) := valW_code _ (numW_code _ h)
theorem confW_code (x : PA.S49) (hx : small x.f1.length) {F O : Bool} {s : List Int × Int} (h : s.2 = code F O) : (confW x s).2 = code (F || farCf x) (O || oddL x.f1) := valsW_code hx (numW_code _ h)
theorem rowW_code (x : PA.S43) (hx : smallR x) {F O : Bool} {s : List Int × Int} (h : s.2 = code F O) : (rowW x s).2 = code (F || farR x) (O || oddR x) := by
  have h1 := numW_code (x.f0.length : Int) h
  rw [over_len hx.1, Bool.or_false] at h1
  have h2 := foldW_code (f := slotW) x.f0 (fun y _ F O s h => slotW_code y h) _ _ _ h1
  have h3 := numW_code (x.f1.length : Int) h2
  rw [over_len hx.2.1, Bool.or_false] at h3
  have h4 := foldW_code (f := confW) x.f1 (fun y hy F O s h => confW_code y (hx.2.2 y hy) h) _ _ _ h3
  unfold farR oddR
  rw [← Bool.or_assoc, ← Bool.or_assoc]
  exact h4
def farS (a b c d : Int) (l5 : List PA.S43) : Bool := overB a || (overB b || (overB c || overB d)) || l5.any farR
def oddS (l4 : List (List PA.S45)) (l5 : List PA.S43) : Bool := l4.any oddL || l5.any oddR
def smallS (l4 : List (List PA.S45)) (l5 : List PA.S43) : Prop := small l4.length ∧ small l5.length ∧ (∀ y ∈ l4, small y.length) ∧ ∀ y ∈ l5, smallR y
theorem putW_code {a b c d : Int} {l4 : List (List PA.S45)} {l5 : List PA.S43} (h : smallS l4 l5) : (putW a b c d l4 l5).2 = code (farS a b c d l5) (oddS l4 l5) := by
  have h0 : (([81], 0) : List Int × Int).2 = code false false := rfl
  have h1 := foldW_code (f := numW) (fa := overB) (oa := fun _ => false) [a, b, c, d] (fun x _ F O s h => by rw [Bool.or_false]; exact numW_code x h) _ _ _ h0
  have h2 := numW_code (l4.length : Int) h1
  rw [over_len h.1, Bool.or_false] at h2
  have h3 := foldW_code (f := valsW) (fa := fun _ => false) (oa := oddL) l4 (fun x hx F O s hs => by rw [Bool.or_false]; exact valsW_code (h.2.2.1 x hx) hs) _ _ _ h2
  have h4 := numW_code (l5.length : Int) h3
  rw [over_len h.2.1, Bool.or_false] at h4
  have h5 := foldW_code (f := rowW) (fa := farR) (oa := oddR) l5 (fun x hx F O s hs => rowW_code x (h.2.2.2 x hx) hs) _ _ _ h4
  unfold putW
  rw [h5]
  have e1 : l4.any (fun _ => false) = false := by simp
  rw [e1]
  unfold farS oddS
  simp [List.any_cons, Bool.or_assoc]
theorem foldW_app {α : Type} {f : α → List Int × Int → List Int × Int} {enc : α → List Int} : ∀ (l : List α), (∀ x ∈ l, ∀ s, f x s = (s.1 ++ enc x, s.2)) → ∀ s, foldW f l s = (s.1 ++ l.flatMap enc, s.2) := by
  intro l
  induction l with
  | nil => intro _ s; simp [foldW]
  | cons x l ih =>
    intro hf s
    have h2 := ih (fun y hy => hf y (by simp [hy])) (f x s)
    rw [hf x (by simp) s] at h2
    rw [List.flatMap_cons, ← List.append_assoc]
    have e : foldW f (x :: l) s = foldW f l (f x s) := rfl
    rw [e, hf x (by simp) s]
    exact h2
theorem numW_app {n : Int} (h : okN n) (s : List Int × Int) : numW n s = (s.1 ++ numB n, s.2) := by
  unfold numW; rw [if_neg (by unfold okN at h; omega)]
theorem valW_app {x : PA.S45} (h : okV x) (s : List Int × Int) : valW x s = (s.1 ++ keyB x, s.2) := by
  unfold valW; rw [if_pos h.1]
theorem len_ok {α : Type} {ok : α → Prop} {l : List α} (h : okL ok l) : okN (l.length : Int) := ⟨by omega, by have := h.1; omega⟩
theorem valsW_app {l : List PA.S45} (h : okL okV l) (s : List Int × Int) : valsW l s = (s.1 ++ listB keyB l, s.2) := by
  unfold valsW listB
  rw [foldW_app l (fun x hx s => valW_app (h.2 x hx) s), numW_app (len_ok h)]
  simp
theorem slotW_app {x : PA.S47} (h : okSl x) (s : List Int × Int) : slotW x s = (s.1 ++ slotB x, s.2) := by
  unfold slotW slotB
  rw [valW_app h.2, numW_app h.1]; simp
theorem confW_app {x : PA.S49} (h : okCf x) (s : List Int × Int) : confW x s = (s.1 ++ confB x, s.2) := by
  unfold confW confB
  rw [valsW_app h.2, numW_app h.1]; simp
theorem rowW_app {x : PA.S43} (h : okRw x) (s : List Int × Int) : rowW x s = (s.1 ++ rowB x, s.2) := by
  unfold rowW rowW2 rowB listB
  rw [foldW_app x.f1 (fun y hy s => confW_app (h.2.2 y hy) s), numW_app (len_ok h.2), foldW_app x.f0 (fun y hy s => slotW_app (h.1.2 y hy) s), numW_app (len_ok h.1)]
  simp
theorem putW_app {a b c d : Int} {l4 : List (List PA.S45)} {l5 : List PA.S43} (h : okS a b c d l4 l5) : putW a b c d l4 l5 = (snapB a b c d l4 l5, 0) := by
  obtain ⟨⟨ha, hb, hc, hd⟩, h4, h5⟩ := h
  have hn := foldW_app (f := numW) (enc := numB) [a, b, c, d] (fun y hy s => numW_app (by simp at hy; rcases hy with rfl | rfl | rfl | rfl <;> assumption) s) ([81], 0)
  have e4 : listB (listB keyB) l4 = numB l4.length ++ l4.flatMap (listB keyB) := rfl
  have e5 : listB rowB l5 = numB l5.length ++ l5.flatMap rowB := rfl
  unfold putW snapB
  rw [foldW_app l5 (fun y hy s => rowW_app (h5.2 y hy) s), numW_app (len_ok h5), foldW_app l4 (fun y hy s => valsW_app (h4.2 y hy) s), numW_app (len_ok h4), hn, e4, e5]
  simp
def wfI (x : PA.S45) : Prop := -9223372036854775808 ≤ x.f1 ∧ x.f1 ≤ 9223372036854775807
def wfIS (l4 : List (List PA.S45)) (l5 : List PA.S43) : Prop := (∀ y ∈ l4, ∀ z ∈ y, wfI z) ∧ ∀ y ∈ l5, (∀ z ∈ y.f0, wfI z.f1) ∧ ∀ z ∈ y.f1, ∀ u ∈ z.f1, wfI u
theorem code_zero {F O : Bool} (h : code F O = 0) : F = false ∧ O = false := by cases F <;> cases O <;> simp_all [code]
theorem oddL_ok {l : List PA.S45} (hs : small l.length) (hw : ∀ z ∈ l, wfI z) (h : oddL l = false) : okL okV l := by
  unfold oddL at h
  rw [List.any_eq_false] at h
  exact ⟨hs, fun x hx => ⟨by have := h x hx; simpa using this, hw x hx⟩⟩
theorem ok_of_code {a b c d : Int} {l4 : List (List PA.S45)} {l5 : List PA.S43} (hs : smallS l4 l5) (hw : wfIS l4 l5) (h : code (farS a b c d l5) (oddS l4 l5) = 0) : okS a b c d l4 l5 := by
  obtain ⟨hF, hO⟩ := code_zero h
  unfold farS at hF
  unfold oddS at hO
  simp only [Bool.or_eq_false_iff] at hF hO
  obtain ⟨⟨ha, hb, hc, hd⟩, hr⟩ := hF
  obtain ⟨ho4, ho5⟩ := hO
  rw [List.any_eq_false] at hr ho4 ho5
  refine ⟨⟨overB_ok.1 ha, overB_ok.1 hb, overB_ok.1 hc, overB_ok.1 hd⟩, ⟨hs.1, fun y hy => oddL_ok (hs.2.2.1 y hy) (hw.1 y hy) (by simpa using ho4 y hy)⟩, ⟨hs.2.1, fun y hy => ?_⟩⟩
  have h1 : farR y = false := by simpa using hr y hy
  have h2 : oddR y = false := by simpa using ho5 y hy
  unfold farR at h1
  unfold oddR at h2
  simp only [Bool.or_eq_false_iff] at h1 h2
  obtain ⟨f1, f2⟩ := h1
  obtain ⟨o1, o2⟩ := h2
  rw [List.any_eq_false] at f1 f2 o1 o2
  have hsy := hs.2.2.2 y hy
  refine ⟨⟨hsy.1, fun z hz => ⟨overB_ok.1 (by have := f1 z hz; simpa [farSl] using this), by have := o1 z hz; simpa using this, (hw.2 y hy).1 z hz⟩⟩, ⟨hsy.2.1, fun z hz => ⟨overB_ok.1 (by have := f2 z hz; simpa [farCf] using this), oddL_ok (hsy.2.2 z hz) ((hw.2 y hy).2 z hz) (by have := o2 z hz; simpa using this)⟩⟩⟩
end Go.Proofs.YtpidhnnckolapaaGreatDoor.K
namespace Go.Proofs.YtpidhnnckolapaaGreatDoor.K
open Go.RowKit Go.Proofs.YtpidhnnckolapaaGreatDoorW.PrintWords Go.Proofs.YtpidhnnckolapaaGreatDoorW.PrintLast
set_option linter.unusedVariables false
set_option linter.unusedSimpArgs false
theorem wrapN {i n : Nat} (h : i < n) (hn : n ≤ 9223372036854775807) : wrap64 ((i : Int) + 1) = ((i + 1 : Nat) : Int) := by unfold wrap64; omega
theorem Ev_all {α : Type} {g : Nat → Int → Option Bool} {l : List α} {z : α} {p : α → Bool} {R : Bool}
    (hyes : ∀ i, i < l.length → p (l.getD i z) = true → ∀ r, Ev (fun k => g k ((i + 1 : Nat) : Int)) r → Ev (fun k => g k (i : Int)) r)
    (hno : ∀ i, i < l.length → p (l.getD i z) = false → Ev (fun k => g k (i : Int)) false)
    (hend : Ev (fun k => g k (l.length : Int)) R) : Ev (fun k => g k 0) (l.all p && R) := by
  have main : ∀ m i, l.length = i + m → Ev (fun k => g k (i : Int)) ((l.drop i).all p && R) := by
    intro m
    induction m with
    | zero =>
      intro i h
      have : l.drop i = [] := List.drop_eq_nil_of_le (by omega)
      rw [this]
      have hi : i = l.length := by omega
      subst hi
      simpa using hend
    | succ m ih =>
      intro i h
      have hi : i < l.length := by omega
      have hd : l.drop i = l.getD i z :: l.drop (i + 1) := by
        rw [List.drop_eq_getElem_cons hi, List.getD_eq_getElem?_getD, List.getElem?_eq_getElem hi]; rfl
      rw [hd, List.all_cons]
      cases hp : p (l.getD i z) with
      | true => rw [Bool.true_and]; exact hyes i hi hp _ (ih (i + 1) (by omega))
      | false => simpa using hno i hi hp
  have := main l.length 0 (by omega)
  simpa using this
theorem Ev_all2 {α : Type} {g : Nat → Int → Option Bool} {l : List α} {z : α} {p : α → Bool} {R : Bool}
    (hstep : ∀ i r, i < l.length → Ev (fun k => g k ((i + 1 : Nat) : Int)) r → Ev (fun k => g k (i : Int)) (p (l.getD i z) && r))
    (hend : Ev (fun k => g k (l.length : Int)) R) : Ev (fun k => g k 0) (l.all p && R) := by
  have main : ∀ m i, l.length = i + m → Ev (fun k => g k (i : Int)) ((l.drop i).all p && R) := by
    intro m
    induction m with
    | zero =>
      intro i h
      have : l.drop i = [] := List.drop_eq_nil_of_le (by omega)
      rw [this]
      have hi : i = l.length := by omega
      subst hi
      simpa using hend
    | succ m ih =>
      intro i h
      have hi : i < l.length := by omega
      have hd : l.drop i = l.getD i z :: l.drop (i + 1) := by
        rw [List.drop_eq_getElem_cons hi, List.getD_eq_getElem?_getD, List.getElem?_eq_getElem hi]; rfl
      rw [hd, List.all_cons, Bool.and_assoc]
      exact hstep i _ hi (ih (i + 1) (by omega))
  have := main l.length 0 (by omega)
  simpa using this
theorem Ev_fold {α σ β : Type} {g : Nat → σ → Int → Option β} {l : List α} {z : α} {step : σ → α → σ} {R : β} {ok : σ → α → Prop}
    (hstep : ∀ i s, i < l.length → ok s (l.getD i z) → Ev (fun k => g k (step s (l.getD i z)) ((i + 1 : Nat) : Int)) R → Ev (fun k => g k s (i : Int)) R) :
    ∀ s0, (∀ i, i < l.length → ok ((l.take i).foldl step s0) (l.getD i z)) → Ev (fun k => g k (l.foldl step s0) (l.length : Int)) R → Ev (fun k => g k s0 0) R := by
  intro s0 hok hend
  have main : ∀ m i, l.length = i + m → Ev (fun k => g k ((l.take i).foldl step s0) (i : Int)) R := by
    intro m
    induction m with
    | zero =>
      intro i h
      have hi : i = l.length := by omega
      subst hi
      rw [List.take_length]
      exact hend
    | succ m ih =>
      intro i h
      have hi : i < l.length := by omega
      refine hstep i _ hi (hok i hi) ?_
      have e : (l.take (i + 1)).foldl step s0 = step ((l.take i).foldl step s0) (l.getD i z) := by
        rw [List.take_succ_eq_append_getElem hi, List.foldl_append, List.getD_eq_getElem?_getD, List.getElem?_eq_getElem hi]; rfl
      rw [← e]
      exact ih (i + 1) (by omega)
  have := main l.length 0 (by omega)
  simpa using this
theorem foldl_flat {α : Type} (enc : α → List Int) (l : List α) : ∀ s0, l.foldl (fun s x => s ++ enc x) s0 = s0 ++ l.flatMap enc := by
  induction l with
  | nil => intro s0; simp
  | cons x l ih => intro s0; rw [List.foldl_cons, ih, List.flatMap_cons, List.append_assoc]
/-- Bytes, one after the other. -/
theorem Ev_app {α β : Type} {g : Nat → List Int → Int → Option β} {l : List α} {z : α} {enc : α → List Int} {R : β}
    (hstep : ∀ i s, i < l.length → s.length + (enc (l.getD i z)).length ≤ 1000000000 → Ev (fun k => g k (s ++ enc (l.getD i z)) ((i + 1 : Nat) : Int)) R → Ev (fun k => g k s (i : Int)) R)
    (s0 : List Int) (hN : (s0 ++ l.flatMap enc).length ≤ 1000000000) (hend : Ev (fun k => g k (s0 ++ l.flatMap enc) (l.length : Int)) R) : Ev (fun k => g k s0 0) R := by
  refine Ev_fold (step := fun s x => s ++ enc x) (ok := fun s x => s.length + (enc x).length ≤ 1000000000) (z := z) hstep s0 ?_ (by rw [foldl_flat]; exact hend)
  intro i hi
  rw [foldl_flat]
  have e : l.flatMap enc = (l.take i).flatMap enc ++ (enc (l.getD i z) ++ (l.drop (i + 1)).flatMap enc) := by
    rw [← List.flatMap_cons, ← List.flatMap_append]
    congr 1
    have hd : l.drop i = l.getD i z :: l.drop (i + 1) := by
      rw [List.drop_eq_getElem_cons hi, List.getD_eq_getElem?_getD, List.getElem?_eq_getElem hi]; rfl
    rw [← hd, List.take_append_drop]
  rw [e] at hN
  simp only [List.length_append] at hN ⊢
  omega
theorem rd45 (l : List PA.S45) (i : Nat) : PA.rd_T45 l (i : Int) = l.getD i PA.z45 := rfl
theorem rd47 (l : List PA.S47) (i : Nat) : PA.rd_T47 l (i : Int) = l.getD i PA.z47 := rfl
theorem rd49 (l : List PA.S49) (i : Nat) : PA.rd_T49 l (i : Int) = l.getD i PA.z49 := rfl
theorem rd43 (l : List PA.S43) (i : Nat) : PA.rd_T43 l (i : Int) = l.getD i PA.z43 := rfl
theorem rdL4 (l : List (List PA.S45)) (i : Nat) : PA.rd_L4 l (i : Int) = l.getD i [] := rfl
def shB (x : PA.S45) : Bool := decide (x.f2.size ≤ 100)
theorem short_ev (l : List PA.S45) (hl : l.length ≤ 9223372036854775807) : Ev (fun k => PA.proctorlaw38_short.f k l) (l.all shB) := by
  have h := Ev_all (g := fun k i => PA.proctorlaw38_short.l0 k l i) (l := l) (z := PA.z45) (p := shB) (R := true) ?_ ?_ ?_
  · rw [Bool.and_true] at h; exact h
  · intro i hi hp r hr
    refine Ev.step (f := fun k => PA.proctorlaw38_short.l0 k l ((i + 1 : Nat) : Int)) (fun k => ?_) hr
    simp only [PA.proctorlaw38_short.l0]
    rw [rd45]
    rw [if_pos (by omega), if_pos (by omega), if_neg (by simp only [shB, decide_eq_true_eq] at hp; omega), wrapN hi hl]
  · intro i hi hp
    refine Ev.step (f := fun k => some false) (fun k => ?_) (Ev.now _)
    simp only [PA.proctorlaw38_short.l0]
    rw [rd45]
    rw [if_pos (by omega), if_pos (by omega), if_pos (by simp only [shB, decide_eq_false_iff_not] at hp; omega)]
  · refine Ev.step (f := fun k => some true) (fun k => ?_) (Ev.now _)
    simp only [PA.proctorlaw38_short.l0]
    rw [if_neg (by omega)]
def fewL (l : List PA.S45) : Bool := decide (l.length ≤ 12) && l.all shB
def fewSl (x : PA.S47) : Bool := shB x.f1
def fewCf (x : PA.S49) : Bool := fewL x.f1
def fewR (x : PA.S43) : Bool := (decide (x.f0.length ≤ 12) && decide (x.f1.length ≤ 12)) && (x.f0.all fewSl && x.f1.all fewCf)
def fewB (l4 : List (List PA.S45)) (l5 : List PA.S43) : Bool := (decide (l4.length ≤ 8) && decide (l5.length ≤ 12)) && (l4.all fewL && l5.all fewR)
section
variable (a b c d : Int) (l4 : List (List PA.S45)) (l5 : List PA.S43)
theorem few_l3 (x4 : Int) (f0 : List PA.S47) (cs : List PA.S49) (hl : cs.length ≤ 9223372036854775807) (R : Bool) (h1 : Ev (fun k => PA.proctorlaw38_few.l1 k (wrap64 (x4 + 1)) a b c d l4 l5) R) :
    Ev (fun k => PA.proctorlaw38_few.l3 k x4 0 a b c d l4 l5 f0 cs) (cs.all fewCf && R) := by
  refine Ev_all (g := fun k i => PA.proctorlaw38_few.l3 k x4 i a b c d l4 l5 f0 cs) (l := cs) (z := PA.z49) (p := fewCf) ?_ ?_ ?_
  · intro i hi hp r hr
    simp only [fewCf, fewL, Bool.and_eq_true, decide_eq_true_eq] at hp
    have hs := short_ev (cs.getD i PA.z49).f1 (by omega)
    rw [hp.2] at hs
    refine Ev.step (f := fun k => (PA.proctorlaw38_short.f k (cs.getD i PA.z49).f1).bind fun t => if t = true then PA.proctorlaw38_few.l3 k x4 ((i + 1 : Nat) : Int) a b c d l4 l5 f0 cs else some false) (fun k => ?_) (Ev.bind hs (by simp only [if_true]; exact hr))
    rw [PA.proctorlaw38_few.l3]
    rw [rd49]
    rw [if_pos (by omega), if_pos (by omega), if_neg (by omega), wrapN hi hl]
  · intro i hi hp
    simp only [fewCf, fewL] at hp
    by_cases h12 : (cs.getD i PA.z49).f1.length ≤ 12
    · have hs := short_ev (cs.getD i PA.z49).f1 (by omega)
      rw [decide_eq_true h12, Bool.true_and] at hp
      rw [hp] at hs
      refine Ev.step (f := fun k => (PA.proctorlaw38_short.f k (cs.getD i PA.z49).f1).bind fun t => if t = true then PA.proctorlaw38_few.l3 k x4 ((i + 1 : Nat) : Int) a b c d l4 l5 f0 cs else some false) (fun k => ?_) (Ev.bind hs (by simp only [Bool.false_eq_true, if_false]; exact Ev.now _))
      rw [PA.proctorlaw38_few.l3]
      rw [rd49]
      rw [if_pos (by omega), if_pos (by omega), if_neg (by omega), wrapN hi hl]
    · refine Ev.step (f := fun k => some false) (fun k => ?_) (Ev.now _)
      rw [PA.proctorlaw38_few.l3]
      rw [rd49]
      rw [if_pos (by omega), if_pos (by omega), if_pos (by omega)]
  · refine Ev.step (f := fun k => PA.proctorlaw38_few.l1 k (wrap64 (x4 + 1)) a b c d l4 l5) (fun k => ?_) h1
    rw [PA.proctorlaw38_few.l3]
    rw [if_neg (by omega)]
theorem few_l2 (x4 : Int) (f0 : List PA.S47) (cs : List PA.S49) (hl0 : f0.length ≤ 9223372036854775807) (hl : cs.length ≤ 9223372036854775807) (R : Bool) (h1 : Ev (fun k => PA.proctorlaw38_few.l1 k (wrap64 (x4 + 1)) a b c d l4 l5) R) :
    Ev (fun k => PA.proctorlaw38_few.l2 k x4 0 a b c d l4 l5 f0 cs) (f0.all fewSl && (cs.all fewCf && R)) := by
  refine Ev_all (g := fun k i => PA.proctorlaw38_few.l2 k x4 i a b c d l4 l5 f0 cs) (l := f0) (z := PA.z47) (p := fewSl) ?_ ?_ ?_
  · intro i hi hp r hr
    refine Ev.step (f := fun k => PA.proctorlaw38_few.l2 k x4 ((i + 1 : Nat) : Int) a b c d l4 l5 f0 cs) (fun k => ?_) hr
    rw [PA.proctorlaw38_few.l2]
    rw [rd47]
    rw [if_pos (by omega), if_pos (by omega), if_neg (by simp only [fewSl, shB, decide_eq_true_eq] at hp; omega), wrapN hi hl0]
  · intro i hi hp
    refine Ev.step (f := fun k => some false) (fun k => ?_) (Ev.now _)
    rw [PA.proctorlaw38_few.l2]
    rw [rd47]
    rw [if_pos (by omega), if_pos (by omega), if_pos (by simp only [fewSl, shB, decide_eq_false_iff_not] at hp; omega)]
  · refine Ev.step (f := fun k => PA.proctorlaw38_few.l3 k x4 0 a b c d l4 l5 f0 cs) (fun k => ?_) (few_l3 a b c d l4 l5 x4 f0 cs hl R h1)
    rw [PA.proctorlaw38_few.l2]
    rw [if_neg (by omega)]
theorem few_j3 (x4 : Int) (x : PA.S43) (R : Bool) (h1 : Ev (fun k => PA.proctorlaw38_few.l1 k (wrap64 (x4 + 1)) a b c d l4 l5) R) :
    Ev (fun k => if ((x.f0.length : Nat) : Int) > 12 then PA.proctorlaw38_few.j3 k x4 true a b c d l4 l5 x.f0 x.f1 else PA.proctorlaw38_few.j3 k x4 (decide (((x.f1.length : Nat) : Int) > 12)) a b c d l4 l5 x.f0 x.f1) (fewR x && R) := by
  unfold fewR
  by_cases h0 : x.f0.length ≤ 12
  · rw [decide_eq_true h0]
    refine Ev.congr (f := fun k => PA.proctorlaw38_few.j3 k x4 (decide (((x.f1.length : Nat) : Int) > 12)) a b c d l4 l5 x.f0 x.f1) (fun k => by rw [if_neg (by omega)]) ?_
    by_cases h1' : x.f1.length ≤ 12
    · rw [decide_eq_true h1', Bool.true_and, Bool.true_and, Bool.and_assoc]
      refine Ev.step (f := fun k => PA.proctorlaw38_few.l2 k x4 0 a b c d l4 l5 x.f0 x.f1) (fun k => ?_) (few_l2 a b c d l4 l5 x4 x.f0 x.f1 (by omega) (by omega) R h1)
      rw [PA.proctorlaw38_few.j3, if_neg (by simp; omega)]
    · rw [decide_eq_false h1', Bool.and_false, Bool.false_and, Bool.false_and]
      refine Ev.step (f := fun k => some false) (fun k => ?_) (Ev.now _)
      rw [PA.proctorlaw38_few.j3, if_pos (by simp; omega)]
  · rw [decide_eq_false h0, Bool.false_and, Bool.false_and, Bool.false_and]
    refine Ev.congr (f := fun k => PA.proctorlaw38_few.j3 k x4 true a b c d l4 l5 x.f0 x.f1) (fun k => by rw [if_pos (by omega)]) ?_
    refine Ev.step (f := fun k => some false) (fun k => ?_) (Ev.now _)
    rw [PA.proctorlaw38_few.j3, if_pos rfl]
theorem few_l1 (hl : l5.length ≤ 9223372036854775807) : Ev (fun k => PA.proctorlaw38_few.l1 k 0 a b c d l4 l5) (l5.all fewR) := by
  have h := Ev_all2 (g := fun k i => PA.proctorlaw38_few.l1 k i a b c d l4 l5) (l := l5) (z := PA.z43) (p := fewR) (R := true) ?_ ?_
  · rw [Bool.and_true] at h; exact h
  · intro i r hi hr
    rw [← wrapN hi hl] at hr
    refine Ev.step (fun k => ?_) (few_j3 a b c d l4 l5 (i : Int) (l5.getD i PA.z43) r hr)
    rw [PA.proctorlaw38_few.l1]
    rw [rd43]
    rw [if_pos (by omega), if_pos (by omega)]
  · refine Ev.step (f := fun k => some true) (fun k => ?_) (Ev.now _)
    rw [PA.proctorlaw38_few.l1]
    rw [if_neg (by omega)]
theorem few_l0 (hl4 : l4.length ≤ 9223372036854775807) (hl : l5.length ≤ 9223372036854775807) : Ev (fun k => PA.proctorlaw38_few.l0 k 0 a b c d l4 l5) (l4.all fewL && l5.all fewR) := by
  refine Ev_all2 (g := fun k i => PA.proctorlaw38_few.l0 k i a b c d l4 l5) (l := l4) (z := []) (p := fewL) ?_ ?_
  · intro i r hi hr
    unfold fewL
    by_cases h12 : (l4.getD i []).length ≤ 12
    · have hs := short_ev (l4.getD i []) (by omega)
      rw [decide_eq_true h12, Bool.true_and]
      refine Ev.step (f := fun k => (PA.proctorlaw38_short.f k (l4.getD i [])).bind fun t => if t = true then PA.proctorlaw38_few.l0 k ((i + 1 : Nat) : Int) a b c d l4 l5 else some false) (fun k => ?_) (Ev.bind hs ?_)
      · rw [PA.proctorlaw38_few.l0]
        rw [rdL4]
        rw [if_pos (by omega), if_pos (by omega), if_neg (by omega), wrapN hi hl4]
      · cases (l4.getD i []).all shB
        · simp only [Bool.false_eq_true, if_false, Bool.false_and]; exact Ev.now _
        · simp only [if_true, Bool.true_and]; exact hr
    · rw [decide_eq_false h12, Bool.false_and, Bool.false_and]
      refine Ev.step (f := fun k => some false) (fun k => ?_) (Ev.now _)
      rw [PA.proctorlaw38_few.l0]
      rw [rdL4]
      rw [if_pos (by omega), if_pos (by omega), if_pos (by omega)]
  · refine Ev.step (f := fun k => PA.proctorlaw38_few.l1 k 0 a b c d l4 l5) (fun k => ?_) (few_l1 a b c d l4 l5 hl)
    rw [PA.proctorlaw38_few.l0]
    rw [if_neg (by omega)]
theorem few_ev (hl4 : l4.length ≤ 9223372036854775807) (hl : l5.length ≤ 9223372036854775807) : Ev (fun k => PA.proctorlaw38_few.f k a b c d l4 l5) (fewB l4 l5) := by
  unfold fewB
  have h0 := few_l0 a b c d l4 l5 hl4 hl
  by_cases h8 : l4.length ≤ 8
  · rw [decide_eq_true h8, Bool.true_and]
    refine Ev.congr (f := fun k => PA.proctorlaw38_few.j0 k (decide (((l5.length : Nat) : Int) > 12)) a b c d l4 l5) (fun k => by unfold PA.proctorlaw38_few.f; rw [if_neg (by omega)]) ?_
    by_cases h12 : l5.length ≤ 12
    · rw [decide_eq_true h12, Bool.true_and]
      refine Ev.step (f := fun k => PA.proctorlaw38_few.l0 k 0 a b c d l4 l5) (fun k => ?_) h0
      rw [PA.proctorlaw38_few.j0, if_neg (by simp; omega)]
    · rw [decide_eq_false h12, Bool.false_and]
      refine Ev.step (f := fun k => some false) (fun k => ?_) (Ev.now _)
      rw [PA.proctorlaw38_few.j0, if_pos (by simp; omega)]
  · rw [decide_eq_false h8, Bool.false_and, Bool.false_and]
    refine Ev.congr (f := fun k => PA.proctorlaw38_few.j0 k true a b c d l4 l5) (fun k => by unfold PA.proctorlaw38_few.f; rw [if_pos (by omega)]) ?_
    refine Ev.step (f := fun k => some false) (fun k => ?_) (Ev.now _)
    rw [PA.proctorlaw38_few.j0, if_pos rfl]
end
end Go.Proofs.YtpidhnnckolapaaGreatDoor.K
namespace Go.Proofs.YtpidhnnckolapaaGreatDoor.K
open Go.RowKit Go.Proofs.YtpidhnnckolapaaGreatDoorW.PrintWords Go.Proofs.YtpidhnnckolapaaGreatDoorW.PrintLast
set_option linter.unusedVariables false
set_option linter.unusedSimpArgs false
theorem foldl_or {α : Type} (p : α → Bool) (l : List α) : ∀ o, l.foldl (fun o x => o || p x) o = (o || l.any p) := by
  induction l with
  | nil => intro o; simp
  | cons x l ih => intro o; rw [List.foldl_cons, ih, List.any_cons, Bool.or_assoc]
theorem foldl_or2 {α : Type} (p q : α → Bool) (l : List α) : ∀ o : Bool × Bool, l.foldl (fun o x => (o.1 || p x, o.2 || q x)) o = (o.1 || l.any p, o.2 || l.any q) := by
  induction l with
  | nil => intro o; simp
  | cons x l ih => intro o; rw [List.foldl_cons, ih, List.any_cons, List.any_cons, Bool.or_assoc, Bool.or_assoc]
theorem empty_iff (s : ByteArray) : s.toList = [] ↔ s = ⟨#[]⟩ := by
  rw [ByteArray.toList_eq]
  constructor
  · intro h
    cases s with
    | mk d => congr 1; exact Array.toList_inj.1 h
  · rintro rfl; rfl
theorem right03 (x : PA.S45) : PA.proctorref03_Right.f x.f0 x.f1 x.f2 x.f3 = some (rightV x) := by
  obtain ⟨a, b, c, d⟩ := x
  unfold PA.proctorref03_Right.f rightV
  simp only
  have hb : (c.toList == ([] : List UInt8)) = decide (c = ⟨#[]⟩) := by
    by_cases h : c = ⟨#[]⟩
    · rw [decide_eq_true h, (empty_iff c).2 h]; rfl
    · rw [decide_eq_false h]
      exact beq_eq_false_iff_ne.mpr (fun e => h ((empty_iff c).1 e))
  by_cases h1 : a = 1
  · subst h1
    rw [if_pos rfl, if_pos rfl]
    by_cases hc : c = ⟨#[]⟩
    · rw [if_pos ((empty_iff c).2 hc), decide_eq_true hc]; rfl
    · rw [if_neg (fun e => hc ((empty_iff c).1 e)), decide_eq_false hc]; rfl
  · rw [if_neg h1, if_neg h1]
    by_cases h2 : a = 2
    · subst h2
      rw [if_pos rfl, if_pos rfl]
      by_cases hb0 : b = 0
      · subst hb0
        rw [if_pos rfl]
        cases d
        · simp; omega
        · simp
      · rw [if_neg hb0]
        have : (b == 0) = false := beq_eq_false_iff_ne.mpr hb0
        simp [this]
    · rw [if_neg h2, if_neg h2]
      by_cases h3 : a = 3
      · subst h3
        rw [if_pos rfl, if_pos rfl]
        by_cases hb0 : b = 0
        · subst hb0
          rw [if_pos rfl, hb]; simp
        · rw [if_neg hb0]
          have : (b == 0) = false := beq_eq_false_iff_ne.mpr hb0
          simp [this]
      · rw [if_neg h3, if_neg h3]
theorem over_f (n : Int) : PA.proctorlaw38_over.f n = some (overB n) := by
  unfold PA.proctorlaw38_over.f overB
  by_cases h : n < 0
  · rw [if_pos h, decide_eq_true h]; rfl
  · rw [if_neg h, decide_eq_false h, Bool.false_or]
section
variable (a b c d : Int) (l4 : List (List PA.S45)) (l5 : List PA.S43)
def NMAX : Nat := 9223372036854775807
theorem bad_l1 (far : Bool) (i : Nat) (hi : i < l4.length) (hl : (l4.getD i []).length ≤ NMAX) (R : Int) (odd : Bool)
    (h : Ev (fun k => PA.proctorlaw38_bad.l0 k (odd || oddL (l4.getD i [])) far (wrap64 ((i : Int) + 1)) a b c d l4 l5) R) : Ev (fun k => PA.proctorlaw38_bad.l1 k odd far (i : Int) 0 a b c d l4 l5) R := by
  unfold NMAX at hl
  refine Ev_fold (g := fun k o j => PA.proctorlaw38_bad.l1 k o far (i : Int) j a b c d l4 l5) (l := l4.getD i []) (z := PA.z45) (step := fun o x => o || !rightV x) (ok := fun _ _ => True) ?_ odd (fun _ _ => trivial) ?_
  · intro j o hj _ hr
    refine Ev.step (f := fun k => PA.proctorlaw38_bad.l1 k (o || !rightV ((l4.getD i []).getD j PA.z45)) far (i : Int) ((j + 1 : Nat) : Int) a b c d l4 l5) (fun k => ?_) hr
    rw [PA.proctorlaw38_bad.l1]
    rw [rdL4, rd45]
    rw [if_pos (by omega), if_pos (by omega), if_pos (by omega), right03, wrapN hj hl]
    cases o
    · rw [if_neg (by decide), if_pos (by omega), Option.bind_some, Bool.false_or]
    · rw [if_pos rfl, Bool.true_or]
  · have e := foldl_or (fun x => !rightV x) (l4.getD i []) odd
    rw [e]
    refine Ev.step (f := fun k => PA.proctorlaw38_bad.l0 k (odd || oddL (l4.getD i [])) far (wrap64 ((i : Int) + 1)) a b c d l4 l5) (fun k => ?_) h
    rw [PA.proctorlaw38_bad.l1]
    rw [rdL4]
    rw [if_pos (by omega), if_pos (by omega), if_neg (by omega)]
    rfl
theorem bad_l0 (hl4 : l4.length ≤ NMAX) (hl : ∀ y ∈ l4, y.length ≤ NMAX) (far odd : Bool) (R : Int)
    (h : Ev (fun k => PA.proctorlaw38_bad.l2 k (odd || l4.any oddL) far 0 a b c d l4 l5) R) : Ev (fun k => PA.proctorlaw38_bad.l0 k odd far 0 a b c d l4 l5) R := by
  refine Ev_fold (g := fun k o i => PA.proctorlaw38_bad.l0 k o far i a b c d l4 l5) (l := l4) (z := []) (step := fun o x => o || oddL x) (ok := fun _ _ => True) ?_ odd (fun _ _ => trivial) ?_
  · intro i o hi _ hr
    rw [← wrapN hi hl4] at hr
    refine Ev.step (f := fun k => PA.proctorlaw38_bad.l1 k o far (i : Int) 0 a b c d l4 l5) (fun k => ?_) (bad_l1 a b c d l4 l5 far i hi (hl _ (getD_mem' hi)) R o hr)
    rw [PA.proctorlaw38_bad.l0]
    rw [if_pos (by omega)]
  · rw [foldl_or]
    refine Ev.step (f := fun k => PA.proctorlaw38_bad.l2 k (odd || l4.any oddL) far 0 a b c d l4 l5) (fun k => ?_) h
    rw [PA.proctorlaw38_bad.l0]
    rw [if_neg (by omega)]
theorem bad_l5 (far : Bool) (x7 : Int) (f0 : List PA.S47) (cs : List PA.S49) (i : Nat) (hi : i < cs.length) (hl : (cs.getD i PA.z49).f1.length ≤ NMAX) (R : Int) (odd : Bool)
    (h : Ev (fun k => PA.proctorlaw38_bad.l4 k (odd || oddL (cs.getD i PA.z49).f1) far x7 (wrap64 ((i : Int) + 1)) a b c d l4 l5 f0 cs) R) : Ev (fun k => PA.proctorlaw38_bad.l5 k odd far x7 (i : Int) 0 a b c d l4 l5 f0 cs) R := by
  unfold NMAX at hl
  refine Ev_fold (g := fun k o j => PA.proctorlaw38_bad.l5 k o far x7 (i : Int) j a b c d l4 l5 f0 cs) (l := (cs.getD i PA.z49).f1) (z := PA.z45) (step := fun o x => o || !rightV x) (ok := fun _ _ => True) ?_ odd (fun _ _ => trivial) ?_
  · intro j o hj _ hr
    refine Ev.step (f := fun k => PA.proctorlaw38_bad.l5 k (o || !rightV ((cs.getD i PA.z49).f1.getD j PA.z45)) far x7 (i : Int) ((j + 1 : Nat) : Int) a b c d l4 l5 f0 cs) (fun k => ?_) hr
    rw [PA.proctorlaw38_bad.l5]
    rw [rd49, rd45]
    rw [if_pos (by omega), if_pos (by omega), if_pos (by omega), right03, wrapN hj hl]
    cases o
    · rw [if_neg (by decide), if_pos (by omega), Option.bind_some, Bool.false_or]
    · rw [if_pos rfl, Bool.true_or]
  · have e := foldl_or (fun x => !rightV x) (cs.getD i PA.z49).f1 odd
    rw [e]
    refine Ev.step (f := fun k => PA.proctorlaw38_bad.l4 k (odd || oddL (cs.getD i PA.z49).f1) far x7 (wrap64 ((i : Int) + 1)) a b c d l4 l5 f0 cs) (fun k => ?_) h
    rw [PA.proctorlaw38_bad.l5]
    rw [rd49]
    rw [if_pos (by omega), if_pos (by omega), if_neg (by omega)]
    rfl
theorem bad_l4 (x7 : Int) (f0 : List PA.S47) (cs : List PA.S49) (hl : cs.length ≤ NMAX) (hls : ∀ y ∈ cs, y.f1.length ≤ NMAX) (R : Int) (odd far : Bool)
    (h : Ev (fun k => PA.proctorlaw38_bad.l2 k (odd || cs.any fun y => oddL y.f1) (far || cs.any farCf) (wrap64 (x7 + 1)) a b c d l4 l5) R) : Ev (fun k => PA.proctorlaw38_bad.l4 k odd far x7 0 a b c d l4 l5 f0 cs) R := by
  refine Ev_fold (g := fun k (o : Bool × Bool) i => PA.proctorlaw38_bad.l4 k o.1 o.2 x7 i a b c d l4 l5 f0 cs) (l := cs) (z := PA.z49) (step := fun o y => (o.1 || oddL y.f1, o.2 || farCf y)) (ok := fun _ _ => True) ?_ (odd, far) (fun _ _ => trivial) ?_
  · intro i o hi _ hr
    obtain ⟨o, f⟩ := o
    simp only at hr ⊢
    rw [← wrapN hi hl] at hr
    have h5 := bad_l5 a b c d l4 l5 (f || farCf (cs.getD i PA.z49)) x7 f0 cs i hi (hls _ (getD_mem' hi)) R o hr
    have h6 : Ev (fun k => PA.proctorlaw38_bad.j6 k o (f || farCf (cs.getD i PA.z49)) x7 (i : Int) a b c d l4 l5 f0 cs) R := Ev.step (fun k => by rw [PA.proctorlaw38_bad.j6]) h5
    refine Ev.step (fun k => ?_) h6
    rw [PA.proctorlaw38_bad.l4]
    rw [rd49]
    rw [if_pos (by omega), over_f]
    cases f
    · rw [if_neg (by decide), if_pos (by omega), Option.bind_some, Bool.false_or]; rfl
    · rw [if_pos rfl, Bool.true_or]
  · have e := foldl_or2 (fun y : PA.S49 => oddL y.f1) farCf cs (odd, far)
    rw [e]
    refine Ev.step (fun k => ?_) h
    simp only
    rw [PA.proctorlaw38_bad.l4]
    rw [if_neg (by omega)]
theorem bad_l3 (x7 : Int) (f0 : List PA.S47) (cs : List PA.S49) (hl0 : f0.length ≤ NMAX) (hl : cs.length ≤ NMAX) (hls : ∀ y ∈ cs, y.f1.length ≤ NMAX) (R : Int) (odd far : Bool)
    (h : Ev (fun k => PA.proctorlaw38_bad.l2 k (odd || oddR ⟨f0, cs⟩) (far || farR ⟨f0, cs⟩) (wrap64 (x7 + 1)) a b c d l4 l5) R) : Ev (fun k => PA.proctorlaw38_bad.l3 k odd far x7 0 a b c d l4 l5 f0 cs) R := by
  unfold oddR farR at h
  simp only at h
  rw [← Bool.or_assoc, ← Bool.or_assoc] at h
  refine Ev_fold (g := fun k (o : Bool × Bool) i => PA.proctorlaw38_bad.l3 k o.1 o.2 x7 i a b c d l4 l5 f0 cs) (l := f0) (z := PA.z47) (step := fun o y => (o.1 || !rightV y.f1, o.2 || farSl y)) (ok := fun _ _ => True) ?_ (odd, far) (fun _ _ => trivial) ?_
  · intro i o hi _ hr
    obtain ⟨o, f⟩ := o
    simp only at hr ⊢
    refine Ev.step (fun k => ?_) hr
    rw [PA.proctorlaw38_bad.l3]
    rw [rd47]
    rw [if_pos (by omega), over_f, right03, wrapN hi hl0]
    cases f
    · rw [if_neg (by decide), if_pos (by omega), Option.bind_some, Bool.false_or]
      cases o
      · rw [if_neg (by decide), Option.bind_some, Bool.false_or]; rfl
      · rw [if_pos rfl, Bool.true_or]; rfl
    · rw [if_pos rfl, Bool.true_or]
      cases o
      · rw [if_neg (by decide), if_pos (by omega), Option.bind_some, Bool.false_or]
      · rw [if_pos rfl, Bool.true_or]
  · have e := foldl_or2 (fun y : PA.S47 => !rightV y.f1) farSl f0 (odd, far)
    rw [e]
    have h4 := bad_l4 a b c d l4 l5 x7 f0 cs hl hls R _ _ h
    refine Ev.step (fun k => ?_) h4
    simp only
    rw [PA.proctorlaw38_bad.l3]
    rw [if_neg (by omega)]
def lenS (l4 : List (List PA.S45)) (l5 : List PA.S43) : Prop := l4.length ≤ NMAX ∧ l5.length ≤ NMAX ∧ (∀ y ∈ l4, y.length ≤ NMAX) ∧ ∀ y ∈ l5, y.f0.length ≤ NMAX ∧ y.f1.length ≤ NMAX ∧ ∀ z ∈ y.f1, z.f1.length ≤ NMAX
theorem bad_l2 (hl : l5.length ≤ NMAX) (hls : ∀ y ∈ l5, y.f0.length ≤ NMAX ∧ y.f1.length ≤ NMAX ∧ ∀ z ∈ y.f1, z.f1.length ≤ NMAX) (odd far : Bool) :
    Ev (fun k => PA.proctorlaw38_bad.l2 k odd far 0 a b c d l4 l5) (code (far || l5.any farR) (odd || l5.any oddR)) := by
  refine Ev_fold (g := fun k (o : Bool × Bool) i => PA.proctorlaw38_bad.l2 k o.1 o.2 i a b c d l4 l5) (l := l5) (z := PA.z43) (step := fun o y => (o.1 || oddR y, o.2 || farR y)) (ok := fun _ _ => True) ?_ (odd, far) (fun _ _ => trivial) ?_
  · intro i o hi _ hr
    obtain ⟨o, f⟩ := o
    simp only at hr ⊢
    rw [← wrapN hi hl] at hr
    obtain ⟨q0, q1, q2⟩ := hls _ (getD_mem' (z := PA.z43) hi)
    have h3 := bad_l3 a b c d l4 l5 (i : Int) (l5.getD i PA.z43).f0 (l5.getD i PA.z43).f1 q0 q1 q2 _ o f hr
    refine Ev.step (fun k => ?_) h3
    rw [PA.proctorlaw38_bad.l2]
    rw [rd43]
    rw [if_pos (by omega), if_pos (by omega)]
  · rw [foldl_or2]
    simp only
    refine Ev.step (f := fun k => some (code (far || l5.any farR) (odd || l5.any oddR))) (fun k => ?_) (Ev.now _)
    rw [PA.proctorlaw38_bad.l2]
    rw [if_neg (by omega)]
    unfold code
    split
    · rfl
    · split <;> rfl
theorem bad_ev (h : lenS l4 l5) : Ev (fun k => PA.proctorlaw38_bad.f k a b c d l4 l5) (code (farS a b c d l5) (oddS l4 l5)) := by
  obtain ⟨h4, h5, hs4, hs5⟩ := h
  have main : ∀ far : Bool, Ev (fun k => PA.proctorlaw38_bad.j0 k false far a b c d l4 l5) (code (far || l5.any farR) (oddS l4 l5)) := by
    intro far
    have h2 := bad_l2 a b c d l4 l5 h5 hs5 (false || l4.any oddL) far
    have h0 := bad_l0 a b c d l4 l5 h4 hs4 far false _ h2
    rw [Bool.false_or] at h0
    exact Ev.step (fun k => by rw [PA.proctorlaw38_bad.j0]) h0
  unfold farS
  refine Ev.congr (f := fun k => PA.proctorlaw38_bad.j0 k false (overB a || (overB b || (overB c || overB d))) a b c d l4 l5) (fun k => ?_) (main _)
  unfold PA.proctorlaw38_bad.f
  rw [over_f, over_f, over_f, over_f]
  simp only [Option.bind_some]
  cases overB a
  · rw [if_neg (by decide), Bool.false_or]
    cases overB b
    · rw [if_neg (by decide), Bool.false_or]
      cases overB c
      · rw [if_neg (by decide), Bool.false_or]
      · rw [if_pos rfl, Bool.true_or]
    · rw [if_pos rfl, Bool.true_or]
  · rw [if_pos rfl, Bool.true_or]
end
end Go.Proofs.YtpidhnnckolapaaGreatDoor.K
namespace Go.Proofs.YtpidhnnckolapaaGreatDoor.K
open Go.RowKit Go.Proofs.YtpidhnnckolapaaGreatDoorW.PrintWords Go.Proofs.YtpidhnnckolapaaGreatDoorW.PrintLast
set_option linter.unusedVariables false
set_option linter.unusedSimpArgs false
theorem four_f {n : Int} (h : okN n) : PA.proctorref38_four.f n = some (numB n) := by
  obtain ⟨h0, h1⟩ := h
  unfold PA.proctorref38_four.f numB
  rw [Int.tdiv_eq_ediv_of_nonneg h0, Int.tdiv_eq_ediv_of_nonneg h0, Int.tdiv_eq_ediv_of_nonneg h0, Int.tmod_eq_emod_of_nonneg h0]
  have e1 : wrap64 (n / 16777216) = n / 16777216 := by unfold wrap64; omega
  have e2 : wrap64 (n / 65536) = n / 65536 := by unfold wrap64; omega
  have e3 : wrap64 (n / 256) = n / 256 := by unfold wrap64; omega
  rw [e1, e2, e3, Int.tmod_eq_emod_of_nonneg (by omega), Int.tmod_eq_emod_of_nonneg (by omega)]
  congr 1
  congr 1
  congr 1
  · omega
  · congr 1
    · omega
    · congr 1; omega
theorem key1_step {k : Nat} {s : List Int} {u dv j : Int} (hu : 0 ≤ u ∧ u < 18446744073709551616) (hd : 0 < dv ∧ dv < 18446744073709551616) (hj : 0 ≤ j ∧ j < 8) (hs : s.length ≤ 100) :
    PA.proctorref04_Key.l1 (k + 1) s u dv j = PA.proctorref04_Key.l1 k (s ++ [u / dv % 256]) u (dv / 256) (j + 1) := by
  rw [PA.proctorref04_Key.l1]
  rw [if_pos hj.2, if_neg (by omega), if_pos (by omega)]
  have h1 : 0 ≤ u / dv := Int.ediv_nonneg hu.1 (by omega)
  have h2 : u / dv ≤ u := Int.ediv_le_self _ hu.1
  rw [Int.tdiv_eq_ediv_of_nonneg hu.1, Int.tdiv_eq_ediv_of_nonneg (by omega), IntKind.wrap_u64, IntKind.wrap_u64]
  have e1 : u / dv % 18446744073709551616 = u / dv := by omega
  have e2 : dv / 256 % 18446744073709551616 = dv / 256 := by omega
  have e3 : wrap64 (j + 1) = j + 1 := by unfold wrap64; omega
  rw [e1, e2, e3, Int.tmod_eq_emod_of_nonneg h1]
  have e4 : u / dv % 256 % 256 = u / dv % 256 := by omega
  rw [e4]
theorem key1 {u : Int} (hu : 0 ≤ u ∧ u < 18446744073709551616) (k : Nat) : PA.proctorref04_Key.l1 (k + 9) [1] u 72057594037927936 0 = some (1 :: beB u) := by
  rw [key1_step hu (by decide) (by decide) (by simp), show (72057594037927936 : Int) / 256 = 281474976710656 from by decide, show (0 : Int) + 1 = 1 from by decide]
  rw [key1_step hu (by decide) (by decide) (by simp), show (281474976710656 : Int) / 256 = 1099511627776 from by decide, show (1 : Int) + 1 = 2 from by decide]
  rw [key1_step hu (by decide) (by decide) (by simp), show (1099511627776 : Int) / 256 = 4294967296 from by decide, show (2 : Int) + 1 = 3 from by decide]
  rw [key1_step hu (by decide) (by decide) (by simp), show (4294967296 : Int) / 256 = 16777216 from by decide, show (3 : Int) + 1 = 4 from by decide]
  rw [key1_step hu (by decide) (by decide) (by simp), show (16777216 : Int) / 256 = 65536 from by decide, show (4 : Int) + 1 = 5 from by decide]
  rw [key1_step hu (by decide) (by decide) (by simp), show (65536 : Int) / 256 = 256 from by decide, show (5 : Int) + 1 = 6 from by decide]
  rw [key1_step hu (by decide) (by decide) (by simp), show (256 : Int) / 256 = 1 from by decide, show (6 : Int) + 1 = 7 from by decide]
  rw [key1_step hu (by decide) (by decide) (by simp), show (1 : Int) / 256 = 0 from by decide, show (7 : Int) + 1 = 8 from by decide]
  rw [PA.proctorref04_Key.l1]
  rw [if_neg (by decide)]
  simp only [List.cons_append, List.nil_append, beB, Int.ediv_one]
def escE (y : Int) : List Int := if y = 0 then [0, 255] else [y]
theorem esc_flat (l : List Int) : esc l = l.flatMap escE := by
  induction l with
  | nil => rfl
  | cons x l ih =>
    have e : esc (x :: l) = if x = 0 then 0 :: 255 :: esc l else x :: esc l := by rw [esc]
    rw [List.flatMap_cons, ← ih, e]
    unfold escE
    split <;> rfl
theorem bt_sB (s : ByteArray) (i : Nat) : bt s (i : Int) = (sB s).getD i 0 := by
  by_cases h : i < s.size
  · have hd := sB_drop s i h
    have hi : i < (sB s).length := by rw [sB_len]; exact h
    rw [List.drop_eq_getElem_cons hi] at hd
    have := (List.cons.inj hd).1
    rw [← this, List.getD_eq_getElem?_getD, List.getElem?_eq_getElem hi]; rfl
  · have hi : ¬ i < (sB s).length := by rw [sB_len]; exact h
    rw [List.getD_eq_getElem?_getD, List.getElem?_eq_none (by omega)]
    simp [bt, h]
theorem key2 {s : ByteArray} (hs : s.size ≤ 4096) (a b : Int) (d : Bool) : Ev (fun k => PA.proctorref04_Key.l0 k [2] 0 a b s d) (2 :: textB s) := by
  have hle := esc_len (sB s)
  rw [sB_len] at hle
  refine Ev_app (g := fun k acc i => PA.proctorref04_Key.l0 k acc i a b s d) (l := sB s) (z := 0) (enc := escE) ?_ [2] ?_ ?_
  · intro i acc hi hb hr
    rw [sB_len] at hi
    refine Ev.step (fun k => ?_) hr
    rw [PA.proctorref04_Key.l0]
    rw [bt_sB]
    have hbl : acc.length < 140737488355328 := by unfold escE at hb; split at hb <;> simp at hb <;> omega
    rw [if_pos (by omega), if_pos (by omega), if_pos hbl, Option.bind_some, wrapN hi (by omega)]
    unfold escE at hb ⊢
    by_cases hz : (sB s).getD i 0 = 0
    · rw [if_pos hz] at hb ⊢
      rw [if_pos hz, if_pos (by simp at hb ⊢; omega), hz]
      simp
    · rw [if_neg hz, if_neg hz]
  · rw [← esc_flat]; simp; omega
  · rw [sB_len, ← esc_flat]
    refine Ev.step (f := fun k => some (2 :: textB s)) (fun k => ?_) (Ev.now _)
    rw [PA.proctorref04_Key.l0]
    rw [if_neg (by omega), Option.bind_some, if_pos (by simp; omega)]
    simp [textB]
theorem key_ev {x : PA.S45} (h : okV x) : Ev (fun k => PA.proctorref04_Key.f k x.f0 x.f1 x.f2 x.f3) (keyB x) := by
  obtain ⟨hr, hn⟩ := h
  rcases right_cases hr with e | ⟨e, hs⟩ | e
  · generalize x.f1 = n at *
    subst e
    have hk : keyB ⟨1, n, ⟨#[]⟩, false⟩ = 1 :: beB (n + 9223372036854775808) := by simp [keyB]
    rw [hk]
    have hw : IntKind.u64.wrap (IntKind.u64.wrap n + 9223372036854775808) = n + 9223372036854775808 := by rw [IntKind.wrap_u64, IntKind.wrap_u64]; omega
    refine ⟨9, fun k hk => ?_⟩
    obtain ⟨j, rfl⟩ : ∃ j, k = j + 9 := ⟨k - 9, by omega⟩
    simp only [PA.proctorref04_Key.f, Option.bind_some]
    rw [if_neg (by decide), if_neg (by decide), hw]
    exact key1 ⟨by omega, by omega⟩ j
  · generalize x.f2 = s at *
    subst e
    have hk : keyB ⟨2, 0, s, false⟩ = 2 :: textB s := by simp [keyB]
    rw [hk]
    refine Ev.congr (fun k => ?_) (key2 hs 2 0 false)
    simp only [PA.proctorref04_Key.f, Option.bind_some]
    rw [if_neg (by decide), if_pos trivial]
    rfl
  · generalize x.f3 = d at *
    subst e
    refine Ev.congr (f := fun k => some (keyB ⟨3, 0, ⟨#[]⟩, d⟩)) (fun k => ?_) (Ev.now _)
    simp only [PA.proctorref04_Key.f, Option.bind_some]
    cases d <;> simp [keyB]
end Go.Proofs.YtpidhnnckolapaaGreatDoor.K
namespace Go.Proofs.YtpidhnnckolapaaGreatDoor.K
open Go.RowKit Go.Proofs.YtpidhnnckolapaaGreatDoorW.PrintWords Go.Proofs.YtpidhnnckolapaaGreatDoorW.PrintLast
set_option linter.unusedVariables false
set_option linter.unusedSimpArgs false
theorem keys_ev {l : List PA.S45} (h : okL okV l) (hN : (l.flatMap keyB).length ≤ 1000000000) : Ev (fun k => PA.proctorref04_Keys.f k l) (l.flatMap keyB) := by
  have h' := Ev_app (g := fun k acc i => PA.proctorref04_Keys.l0 k l acc i) (l := l) (z := PA.z45) (enc := keyB) (R := l.flatMap keyB) ?_ [] (by simpa using hN) ?_
  · exact h'
  · intro i acc hi hb hr
    have hk := key_ev (h.2 _ (getD_mem' (z := PA.z45) hi))
    refine Ev.step (f := fun k => (PA.proctorref04_Key.f k (l.getD i PA.z45).f0 (l.getD i PA.z45).f1 (l.getD i PA.z45).f2 (l.getD i PA.z45).f3).bind fun t => if acc.length + t.length < 140737488355328 then PA.proctorref04_Keys.l0 k l (acc ++ t) ((i + 1 : Nat) : Int) else none) (fun k => ?_) (Ev.bind hk ?_)
    · rw [PA.proctorref04_Keys.l0]
      rw [rd45]
      rw [if_pos (by omega), if_pos (by omega), wrapN hi (by have := h.1; omega)]
    · refine Ev.congr (fun k => ?_) hr
      rw [if_pos (by omega)]
  · refine Ev.step (f := fun k => some (l.flatMap keyB)) (fun k => ?_) (Ev.now _)
    rw [PA.proctorref04_Keys.l0]
    rw [if_neg (by omega)]; rfl
theorem values_ev {l : List PA.S45} (h : okL okV l) (hN : (listB keyB l).length ≤ 1000000000) : Ev (fun k => PA.proctorref38_values.f k l) (listB keyB l) := by
  unfold listB at hN ⊢
  rw [List.length_append] at hN
  have hk := keys_ev h (by omega)
  refine Ev.congr (f := fun k => (PA.proctorref04_Keys.f k l).bind fun t => if (numB (l.length : Int)).length + t.length < 140737488355328 then some (numB (l.length : Int) ++ t) else none) (fun k => ?_) (Ev.bind hk ?_)
  · simp only [PA.proctorref38_values.f]
    rw [four_f (len_ok h), Option.bind_some]
  · refine Ev.congr (f := fun k => some (numB (l.length : Int) ++ l.flatMap keyB)) (fun k => ?_) (Ev.now _)
    rw [if_pos (by omega)]
theorem rowl1_ev (f0 : List PA.S47) {cs : List PA.S49} (h : okL okCf cs) (acc : List Int) (hN : (acc ++ cs.flatMap confB).length ≤ 1000000000) : Ev (fun k => PA.proctorref38_row.l1 k acc 0 f0 cs) (acc ++ cs.flatMap confB) := by
  refine Ev_app (g := fun k s i => PA.proctorref38_row.l1 k s i f0 cs) (l := cs) (z := PA.z49) (enc := confB) ?_ acc hN ?_
  · intro i s hi hb hr
    have hx := h.2 _ (getD_mem' (z := PA.z49) hi)
    unfold confB at hb hr
    rw [List.length_append] at hb
    have hv := values_ev hx.2 (by omega)
    rw [← List.append_assoc] at hr
    refine Ev.step (f := fun k => (PA.proctorref38_values.f k (cs.getD i PA.z49).f1).bind fun t => if (s ++ numB (cs.getD i PA.z49).f0).length + t.length < 140737488355328 then PA.proctorref38_row.l1 k ((s ++ numB (cs.getD i PA.z49).f0) ++ t) ((i + 1 : Nat) : Int) f0 cs else none) (fun k => ?_) (Ev.bind hv ?_)
    · rw [PA.proctorref38_row.l1]
      rw [rd49]
      rw [if_pos (by omega), if_pos (by omega), four_f hx.1, Option.bind_some, if_pos (by omega), Option.bind_some, wrapN hi (by have := h.1; omega)]
    · refine Ev.congr (fun k => ?_) hr
      rw [if_pos (by rw [List.length_append]; omega)]
  · refine Ev.step (f := fun k => some (acc ++ cs.flatMap confB)) (fun k => ?_) (Ev.now _)
    rw [PA.proctorref38_row.l1]
    rw [if_neg (by omega)]
theorem rowl0_ev {f0 : List PA.S47} {cs : List PA.S49} (h0 : okL okSl f0) (h : okL okCf cs) (acc : List Int) (hN : (acc ++ f0.flatMap slotB ++ listB confB cs).length ≤ 1000000000) : Ev (fun k => PA.proctorref38_row.l0 k acc 0 f0 cs) (acc ++ f0.flatMap slotB ++ listB confB cs) := by
  have hlb : listB confB cs = numB (cs.length : Int) ++ cs.flatMap confB := rfl
  refine Ev_app (g := fun k s i => PA.proctorref38_row.l0 k s i f0 cs) (l := f0) (z := PA.z47) (enc := slotB) ?_ acc (by rw [List.length_append] at hN; omega) ?_
  · intro i s hi hb hr
    have hx := h0.2 _ (getD_mem' (z := PA.z47) hi)
    unfold slotB at hb hr
    rw [List.length_append] at hb
    have hk := key_ev hx.2
    rw [← List.append_assoc] at hr
    refine Ev.step (f := fun k => (PA.proctorref04_Key.f k (f0.getD i PA.z47).f1.f0 (f0.getD i PA.z47).f1.f1 (f0.getD i PA.z47).f1.f2 (f0.getD i PA.z47).f1.f3).bind fun t => if (s ++ numB (f0.getD i PA.z47).f0).length + t.length < 140737488355328 then PA.proctorref38_row.l0 k ((s ++ numB (f0.getD i PA.z47).f0) ++ t) ((i + 1 : Nat) : Int) f0 cs else none) (fun k => ?_) (Ev.bind hk ?_)
    · rw [PA.proctorref38_row.l0]
      rw [rd47]
      rw [if_pos (by omega), if_pos (by omega), four_f hx.1, Option.bind_some, if_pos (by omega), Option.bind_some, wrapN hi (by have := h0.1; omega)]
    · refine Ev.congr (fun k => ?_) hr
      rw [if_pos (by rw [List.length_append]; omega)]
  · rw [hlb] at hN ⊢
    have h1 := rowl1_ev f0 h (acc ++ f0.flatMap slotB ++ numB (cs.length : Int)) (by rw [← List.append_assoc] at hN; exact hN)
    rw [List.append_assoc _ (numB _) _] at h1
    refine Ev.step (fun k => ?_) h1
    rw [PA.proctorref38_row.l0]
    have hq : (acc ++ f0.flatMap slotB).length + (numB (cs.length : Int)).length < 140737488355328 := by
      rw [← List.append_assoc, List.length_append, List.length_append] at hN; omega
    rw [if_neg (by omega), four_f (len_ok h), Option.bind_some, if_pos hq]
theorem row_ev {x : PA.S43} (h : okRw x) (hN : (rowB x).length ≤ 1000000000) : Ev (fun k => PA.proctorref38_row.f k x.f0 x.f1) (rowB x) := by
  have h0 := rowl0_ev h.1 h.2 (numB (x.f0.length : Int)) hN
  refine Ev.congr (fun k => ?_) h0
  unfold PA.proctorref38_row.f
  rw [four_f (len_ok h.1), Option.bind_some]
section
variable (a b c d : Int)
theorem Bl1_ev (l4 : List (List PA.S45)) {l5 : List PA.S43} (h : okL okRw l5) (acc : List Int) (hN : (acc ++ l5.flatMap rowB).length ≤ 1000000000) : Ev (fun k => PA.proctorref38_Bytes.l1 k acc 0 a b c d l4 l5) (acc ++ l5.flatMap rowB) := by
  refine Ev_app (g := fun k s i => PA.proctorref38_Bytes.l1 k s i a b c d l4 l5) (l := l5) (z := PA.z43) (enc := rowB) ?_ acc hN ?_
  · intro i s hi hb hr
    have hx := row_ev (h.2 _ (getD_mem' (z := PA.z43) hi)) (by omega)
    refine Ev.step (f := fun k => (PA.proctorref38_row.f k (l5.getD i PA.z43).f0 (l5.getD i PA.z43).f1).bind fun t => if s.length + t.length < 140737488355328 then PA.proctorref38_Bytes.l1 k (s ++ t) ((i + 1 : Nat) : Int) a b c d l4 l5 else none) (fun k => ?_) (Ev.bind hx ?_)
    · rw [PA.proctorref38_Bytes.l1]
      rw [rd43]
      rw [if_pos (by omega), if_pos (by omega), wrapN hi (by have := h.1; omega)]
    · refine Ev.congr (fun k => ?_) hr
      rw [if_pos (by omega)]
  · refine Ev.step (f := fun k => some (acc ++ l5.flatMap rowB)) (fun k => ?_) (Ev.now _)
    rw [PA.proctorref38_Bytes.l1]
    rw [if_neg (by omega)]
theorem Bl0_ev {l4 : List (List PA.S45)} {l5 : List PA.S43} (h4 : okL (okL okV) l4) (h : okL okRw l5) (acc : List Int) (hN : (acc ++ l4.flatMap (listB keyB) ++ listB rowB l5).length ≤ 1000000000) : Ev (fun k => PA.proctorref38_Bytes.l0 k acc 0 a b c d l4 l5) (acc ++ l4.flatMap (listB keyB) ++ listB rowB l5) := by
  have hlb : listB rowB l5 = numB (l5.length : Int) ++ l5.flatMap rowB := rfl
  refine Ev_app (g := fun k s i => PA.proctorref38_Bytes.l0 k s i a b c d l4 l5) (l := l4) (z := []) (enc := listB keyB) ?_ acc (by rw [List.length_append] at hN; omega) ?_
  · intro i s hi hb hr
    have hx := values_ev (h4.2 _ (getD_mem' (z := []) hi)) (by omega)
    refine Ev.step (f := fun k => (PA.proctorref38_values.f k (l4.getD i [])).bind fun t => if s.length + t.length < 140737488355328 then PA.proctorref38_Bytes.l0 k (s ++ t) ((i + 1 : Nat) : Int) a b c d l4 l5 else none) (fun k => ?_) (Ev.bind hx ?_)
    · rw [PA.proctorref38_Bytes.l0]
      rw [rdL4]
      rw [if_pos (by omega), if_pos (by omega), wrapN hi (by have := h4.1; omega)]
    · refine Ev.congr (fun k => ?_) hr
      rw [if_pos (by omega)]
  · rw [hlb] at hN ⊢
    have h1 := Bl1_ev a b c d l4 h (acc ++ l4.flatMap (listB keyB) ++ numB (l5.length : Int)) (by rw [← List.append_assoc] at hN; exact hN)
    rw [List.append_assoc _ (numB _) _] at h1
    refine Ev.step (fun k => ?_) h1
    rw [PA.proctorref38_Bytes.l0]
    have hq : (acc ++ l4.flatMap (listB keyB)).length + (numB (l5.length : Int)).length < 140737488355328 := by
      rw [← List.append_assoc, List.length_append, List.length_append] at hN; omega
    rw [if_neg (by omega), four_f (len_ok h), Option.bind_some, if_pos hq]
theorem Bytes_ev {l4 : List (List PA.S45)} {l5 : List PA.S43} (h : okS a b c d l4 l5) (hN : (snapB a b c d l4 l5).length ≤ 1000000000) : Ev (fun k => PA.proctorref38_Bytes.f k a b c d l4 l5) (snapB a b c d l4 l5) := by
  obtain ⟨⟨ha, hb, hc, hd⟩, h4, h5⟩ := h
  have e : snapB a b c d l4 l5 = ([81] ++ numB a ++ numB b ++ numB c ++ numB d ++ numB (l4.length : Int)) ++ l4.flatMap (listB keyB) ++ listB rowB l5 := by
    have hl : listB (listB keyB) l4 = numB (l4.length : Int) ++ l4.flatMap (listB keyB) := rfl
    unfold snapB
    rw [hl]
    simp
  rw [e] at hN ⊢
  refine Ev.congr (fun k => ?_) (Bl0_ev a b c d h4 h5 _ hN)
  simp only [PA.proctorref38_Bytes.f, Option.bind_some, four_f ha, four_f hb, four_f hc, four_f hd, four_f (len_ok h4)]
  rw [if_pos (by simp [numB]), if_pos (by simp [numB]), if_pos (by simp [numB]), if_pos (by simp [numB]), if_pos (by simp [numB])]
end
end Go.Proofs.YtpidhnnckolapaaGreatDoor.K
namespace Go.Proofs.YtpidhnnckolapaaGreatDoor.K
open Go.RowKit Go.Proofs.YtpidhnnckolapaaGreatDoorW.PrintWords Go.Proofs.YtpidhnnckolapaaGreatDoorW.PrintLast
set_option linter.unusedVariables false
set_option linter.unusedSimpArgs false
theorem Same_l1 (l : List (List PA.S45)) (i : Nat) (hi : i < l.length) (hl : (l.getD i []).length ≤ NMAX) (h : Ev (fun k => PA.proctorref20_Same.l0 k l l (wrap64 ((i : Int) + 1))) true) : Ev (fun k => PA.proctorref20_Same.l1 k l l (i : Int) 0) true := by
  unfold NMAX at hl
  refine Ev_fold (g := fun k (_ : Unit) j => PA.proctorref20_Same.l1 k l l (i : Int) j) (l := l.getD i []) (z := PA.z45) (step := fun _ _ => ()) (ok := fun _ _ => True) ?_ () (fun _ _ => trivial) ?_
  · intro j o hj _ hr
    refine Ev.step (fun k => ?_) hr
    rw [PA.proctorref20_Same.l1]
    rw [rdL4, rd45]
    rw [if_pos (by omega), if_pos (by omega), if_pos (by omega), if_pos (by omega), if_pos (by omega), if_pos (by omega), wrapN hj hl]
    rw [if_neg (by simp)]
  · refine Ev.step (fun k => ?_) h
    rw [PA.proctorref20_Same.l1]
    rw [rdL4]
    rw [if_pos (by omega), if_pos (by omega), if_neg (by omega)]
theorem Same_ev (l : List (List PA.S45)) (h4 : l.length ≤ NMAX) (hl : ∀ y ∈ l, y.length ≤ NMAX) : Ev (fun k => PA.proctorref20_Same.f k l l) true := by
  refine Ev.congr (f := fun k => PA.proctorref20_Same.l0 k l l 0) (fun k => by unfold PA.proctorref20_Same.f; rw [if_pos rfl]) ?_
  refine Ev_fold (g := fun k (_ : Unit) i => PA.proctorref20_Same.l0 k l l i) (l := l) (z := []) (step := fun _ _ => ()) (ok := fun _ _ => True) ?_ () (fun _ _ => trivial) ?_
  · intro i o hi _ hr
    rw [← wrapN hi h4] at hr
    refine Ev.step (fun k => ?_) (Same_l1 l i hi (hl _ (getD_mem' hi)) hr)
    rw [PA.proctorref20_Same.l0]
    rw [if_pos (by omega), if_pos (by omega), if_pos (by omega), if_pos rfl]
  · refine Ev.step (f := fun k => some true) (fun k => ?_) (Ev.now _)
    rw [PA.proctorref20_Same.l0]
    rw [if_neg (by omega)]
theorem same_ev {a b c d : Int} {l4 : List (List PA.S45)} {l5 : List PA.S43} (h : okS a b c d l4 l5) (hN : (snapB a b c d l4 l5).length ≤ 1000000000) : Ev (fun k => PA.proctorlaw38_same.f k a b c d l4 l5 a b c d l4 l5) true := by
  have hs := Same_ev l4 (by have := h.2.1.1; unfold NMAX; omega) (fun y hy => by have := (h.2.1.2 y hy).1; unfold NMAX; omega)
  have hb := Bytes_ev a b c d h hN
  refine Ev.congr (f := fun k => PA.proctorlaw38_same.j0 k false a b c d l4 l5 a b c d l4 l5) (fun k => by unfold PA.proctorlaw38_same.f; rw [if_pos rfl, if_pos rfl, if_pos rfl, if_pos rfl]; simp) ?_
  refine Ev.step (f := fun k => (PA.proctorref20_Same.f k l4 l4).bind fun t => if t = true then ((PA.proctorref38_Bytes.f k a b c d l4 l5).bind fun t1 => (PA.proctorref38_Bytes.f k a b c d l4 l5).bind fun t2 => some ((strOfNums t1).toList == (strOfNums t2).toList)) else some false) (fun k => ?_) (Ev.bind hs ?_)
  · rw [PA.proctorlaw38_same.j0, if_neg (by decide)]
  · simp only [if_true]
    refine Ev.bind hb (Ev.bind hb ?_)
    refine Ev.congr (f := fun _ => some true) (fun k => by simp) (Ev.now _)
/-- The bound on what is put, where there is little. -/
theorem foldW_bound {α : Type} {f : α → List Int × Int → List Int × Int} {c : Nat} : ∀ (l : List α), (∀ x ∈ l, ∀ s, (f x s).1.length ≤ s.1.length + c) → ∀ s, (foldW f l s).1.length ≤ s.1.length + l.length * c := by
  intro l
  induction l with
  | nil => intro _ s; simp [foldW]
  | cons x l ih =>
    intro hf s
    have h1 := hf x (by simp) s
    have h2 := ih (fun y hy => hf y (by simp [hy])) (f x s)
    have e : foldW f (x :: l) s = foldW f l (f x s) := rfl
    rw [e, List.length_cons, Nat.succ_mul]
    omega
theorem numW_bound (n : Int) (s : List Int × Int) : (numW n s).1.length ≤ s.1.length + 4 := by unfold numW; split <;> simp [numB]
theorem keyB_bound {x : PA.S45} (h : shB x = true) : (keyB x).length ≤ 300 := by
  simp only [shB, decide_eq_true_eq] at h
  have := textB_len x.f2
  unfold keyB
  split
  · simp [beB]
  · split
    · simp; omega
    · simp
theorem valW_bound {x : PA.S45} (h : shB x = true) (s : List Int × Int) : (valW x s).1.length ≤ s.1.length + 300 := by
  have := keyB_bound h
  unfold valW; split <;> simp; omega
theorem valsW_bound {l : List PA.S45} (h : fewL l = true) (s : List Int × Int) : (valsW l s).1.length ≤ s.1.length + 3604 := by
  simp only [fewL, Bool.and_eq_true, decide_eq_true_eq, List.all_eq_true] at h
  have h1 := foldW_bound l (fun x hx s => valW_bound (h.2 x hx) s) (numW l.length s)
  have h2 := numW_bound l.length s
  have h3 : l.length * 300 ≤ 12 * 300 := Nat.mul_le_mul_right _ h.1
  unfold valsW
  omega
theorem slotW_bound {x : PA.S47} (h : fewSl x = true) (s : List Int × Int) : (slotW x s).1.length ≤ s.1.length + 304 := by
  have h1 := valW_bound (x := x.f1) h (numW x.f0 s)
  have h2 := numW_bound x.f0 s
  unfold slotW
  omega
theorem confW_bound {x : PA.S49} (h : fewCf x = true) (s : List Int × Int) : (confW x s).1.length ≤ s.1.length + 3608 := by
  have h1 := valsW_bound (l := x.f1) h (numW x.f0 s)
  have h2 := numW_bound x.f0 s
  unfold confW
  omega
theorem rowW_bound {x : PA.S43} (h : fewR x = true) (s : List Int × Int) : (rowW x s).1.length ≤ s.1.length + 50000 := by
  simp only [fewR, Bool.and_eq_true, decide_eq_true_eq, List.all_eq_true] at h
  obtain ⟨⟨h0, h1⟩, h2, h3⟩ := h
  have a1 := numW_bound x.f0.length s
  have a2 := foldW_bound x.f0 (fun y hy s => slotW_bound (h2 y hy) s) (numW x.f0.length s)
  have a3 := numW_bound x.f1.length (foldW slotW x.f0 (numW x.f0.length s))
  have a4 := foldW_bound x.f1 (fun y hy s => confW_bound (h3 y hy) s) (numW x.f1.length (foldW slotW x.f0 (numW x.f0.length s)))
  have m1 : x.f0.length * 304 ≤ 12 * 304 := Nat.mul_le_mul_right _ h0
  have m2 : x.f1.length * 3608 ≤ 12 * 3608 := Nat.mul_le_mul_right _ h1
  unfold rowW rowW2
  omega
theorem putW_bound {a b c d : Int} {l4 : List (List PA.S45)} {l5 : List PA.S43} (h : fewB l4 l5 = true) : (putW a b c d l4 l5).1.length ≤ 1000000 := by
  simp only [fewB, Bool.and_eq_true, decide_eq_true_eq, List.all_eq_true] at h
  obtain ⟨⟨h0, h1⟩, h2, h3⟩ := h
  have a1 := foldW_bound (c := 4) [a, b, c, d] (fun y _ s => numW_bound y s) ([81], 0)
  have a2 := numW_bound l4.length (foldW numW [a, b, c, d] ([81], 0))
  have a3 := foldW_bound l4 (fun y hy s => valsW_bound (h2 y hy) s) (numW l4.length (foldW numW [a, b, c, d] ([81], 0)))
  have a4 := numW_bound l5.length (foldW valsW l4 (numW l4.length (foldW numW [a, b, c, d] ([81], 0))))
  have a5 := foldW_bound l5 (fun y hy s => rowW_bound (h3 y hy) s) (numW l5.length (foldW valsW l4 (numW l4.length (foldW numW [a, b, c, d] ([81], 0)))))
  have m1 : l4.length * 3604 ≤ 8 * 3604 := Nat.mul_le_mul_right _ h0
  have m2 : l5.length * 50000 ≤ 12 * 50000 := Nat.mul_le_mul_right _ h1
  simp only [List.length_cons, List.length_nil] at a1
  unfold putW
  omega
theorem smallS_of_few {l4 : List (List PA.S45)} {l5 : List PA.S43} (h : fewB l4 l5 = true) : smallS l4 l5 := by
  simp only [fewB, Bool.and_eq_true, decide_eq_true_eq, List.all_eq_true] at h
  obtain ⟨⟨h0, h1⟩, h2, h3⟩ := h
  refine ⟨by unfold small; omega, by unfold small; omega, fun y hy => ?_, fun y hy => ?_⟩
  · have := h2 y hy
    simp only [fewL, Bool.and_eq_true, decide_eq_true_eq] at this
    unfold small; omega
  · have := h3 y hy
    simp only [fewR, Bool.and_eq_true, decide_eq_true_eq, List.all_eq_true] at this
    obtain ⟨⟨g0, g1⟩, g2, g3⟩ := this
    refine ⟨by unfold small; omega, by unfold small; omega, fun z hz => ?_⟩
    have := g3 z hz
    simp only [fewCf, fewL, Bool.and_eq_true, decide_eq_true_eq] at this
    unfold small; omega
theorem lenS_of_small {l4 : List (List PA.S45)} {l5 : List PA.S43} (h : smallS l4 l5) : lenS l4 l5 := by
  obtain ⟨h0, h1, h2, h3⟩ := h
  unfold smallR small at h3
  exact ⟨by unfold NMAX; unfold small at h0; omega, by unfold NMAX; unfold small at h1; omega, fun y hy => by have := h2 y hy; unfold small at this; unfold NMAX; omega, fun y hy => ⟨by have := (h3 y hy).1; unfold NMAX; omega, by have := (h3 y hy).2.1; unfold NMAX; omega, fun z hz => by have := (h3 y hy).2.2 z hz; unfold NMAX; omega⟩⟩
theorem wfS_of {l4 : List (List PA.S45)} {l5 : List PA.S43} (hw : wfIS l4 l5) (hs : ∀ x, (∃ y ∈ l4, x ∈ y) ∨ (∃ y ∈ l5, (∃ z ∈ y.f0, x = z.f1) ∨ ∃ z ∈ y.f1, x ∈ z.f1) → x.f2.size ≤ 1000000000) : wfS l4 l5 :=
  ⟨fun y hy z hz => ⟨hw.1 y hy z hz, hs z (.inl ⟨y, hy, hz⟩)⟩, fun y hy => ⟨fun z hz => ⟨(hw.2 y hy).1 z hz, hs _ (.inr ⟨y, hy, .inl ⟨z, hz, rfl⟩⟩)⟩, fun z hz u hu => ⟨(hw.2 y hy).2 z hz u hu, hs u (.inr ⟨y, hy, .inr ⟨z, hz, hu⟩⟩)⟩⟩⟩
theorem sizes_of_few {l4 : List (List PA.S45)} {l5 : List PA.S43} (h : fewB l4 l5 = true) : ∀ x, (∃ y ∈ l4, x ∈ y) ∨ (∃ y ∈ l5, (∃ z ∈ y.f0, x = z.f1) ∨ ∃ z ∈ y.f1, x ∈ z.f1) → x.f2.size ≤ 1000000000 := by
  simp only [fewB, Bool.and_eq_true, decide_eq_true_eq, List.all_eq_true] at h
  obtain ⟨_, h2, h3⟩ := h
  rintro x (⟨y, hy, hx⟩ | ⟨y, hy, hz⟩)
  · have := h2 y hy
    simp only [fewL, shB, Bool.and_eq_true, decide_eq_true_eq, List.all_eq_true] at this
    have := this.2 x hx
    omega
  · have := h3 y hy
    simp only [fewR, Bool.and_eq_true, List.all_eq_true] at this
    obtain ⟨_, g2, g3⟩ := this
    rcases hz with ⟨z, hz, rfl⟩ | ⟨z, hz, hx⟩
    · have := g2 z hz
      simp only [fewSl, shB, decide_eq_true_eq] at this
      omega
    · have := g3 z hz
      simp only [fewCf, fewL, shB, Bool.and_eq_true, decide_eq_true_eq, List.all_eq_true] at this
      have := this.2 x hx
      omega
end Go.Proofs.YtpidhnnckolapaaGreatDoor.K
