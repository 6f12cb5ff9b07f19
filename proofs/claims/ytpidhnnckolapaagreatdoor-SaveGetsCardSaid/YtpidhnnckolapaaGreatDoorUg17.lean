/- The plain law: what Get reads, Put writes back; no program in sight. -/
import Derived.Test.YtpidhnnckolapaaGreatDoorUg12
namespace Go.Proofs.YtpidhnnckolapaaGreatDoor.K
open Go.RowKit Go.Proofs.YtpidhnnckolapaaGreatDoorW.PrintWords Go.Proofs.YtpidhnnckolapaaGreatDoorW.PrintLast
set_option linter.unusedVariables false
set_option linter.unusedSimpArgs false
def Bytes8 (l : List Int) : Prop := ∀ y ∈ l, 0 ≤ y ∧ y ≤ 255
theorem Bytes8.drop {l : List Int} (h : Bytes8 l) (k : Nat) : Bytes8 (l.drop k) := fun y hy => h y (List.mem_of_mem_drop hy)
/-- A decoder and an encoder that fit. -/
structure Codec {α : Type} (d : D α) (enc : α → List Int) (ok : α → Prop) : Prop where
  back : ∀ x, ok x → ∀ r, d (enc x ++ r) = some (x, (enc x).length)
  forth : ∀ l x k, Bytes8 l → d l = some (x, k) → ok x ∧ k ≤ l.length ∧ l.take k = enc x
  pos : ∀ x, ok x → 1 ≤ (enc x).length
def okN (n : Int) : Prop := 0 ≤ n ∧ n ≤ 2147483647
theorem numB_len (n : Int) : (numB n).length = 4 := rfl
theorem take4_numB {n : Int} (h : okN n) (r : List Int) : take4 (numB n ++ r) = some (n, r) := by
  obtain ⟨h0, h1⟩ := h
  simp only [numB, List.cons_append, List.nil_append, take4]
  rw [if_pos (by omega)]
  congr 2
  unfold num4; omega
theorem take4_forth {l : List Int} {n : Int} {r : List Int} (h8 : Bytes8 l) (h : take4 l = some (n, r)) : okN n ∧ l.take 4 = numB n ∧ 4 ≤ l.length ∧ r = l.drop 4 := by
  obtain ⟨hr, hl⟩ := take4_drop h
  refine ⟨take4_range h8 h, ?_, hl, hr⟩
  match l, h, h8 with
  | b0 :: b1 :: b2 :: b3 :: rs, h, h8 =>
    simp only [take4] at h
    split at h
    · simp only [Option.some.injEq, Prod.mk.injEq, num4] at h
      have h0 := h8 b0 (by simp)
      have h1 := h8 b1 (by simp)
      have h2 := h8 b2 (by simp)
      have h3 := h8 b3 (by simp)
      obtain ⟨hn, _⟩ := h
      simp only [List.take_succ_cons, List.take_zero, numB]
      congr 1
      · omega
      · congr 1
        · omega
        · congr 1
          · omega
          · congr 1; omega
    · cases h
theorem numCodec : Codec dNum numB okN := by
  refine ⟨fun n h r => ?_, fun l n k h8 e => ?_, fun n _ => by rw [numB_len]; omega⟩
  · unfold dNum; rw [take4_numB h]; rfl
  · unfold dNum at e
    obtain ⟨q, hq, e⟩ := Option.map_eq_some_iff.1 e
    simp only [Prod.mk.injEq] at e
    obtain ⟨rfl, rfl⟩ := e
    obtain ⟨h1, h2, h3, _⟩ := take4_forth (n := q.1) (r := q.2) h8 hq
    exact ⟨h1, h3, h2⟩
theorem cutT_esc (l : List Int) (r : List Int) : cutT (esc l ++ (0 :: 1 :: r)) = some (l, (esc l).length + 2) := by
  induction l with
  | nil => exact cutT_1
  | cons x l ih =>
    unfold esc
    by_cases hx : x = 0
    · subst hx
      rw [if_pos rfl]
      simp only [List.cons_append]
      rw [cutT_255, ih]; simp
    · rw [if_neg hx]
      simp only [List.cons_append]
      rw [cutT_x hx, ih]; simp
theorem cutT_forth (l : List Int) : ∀ q, cutT l = some q → l.take q.2 = esc q.1 ++ [0, 1] ∧ q.2 ≤ l.length ∧ (∀ y ∈ q.1, y ∈ l ∨ y = 0) := by
  induction l using cutT.induct with
  | case1 => intro q h; rw [cutT.eq_def] at h; cases h
  | case2 x r hx ih =>
    intro q h
    rw [cutT_x hx] at h
    obtain ⟨t, ht, rfl⟩ := Option.map_eq_some_iff.1 h
    obtain ⟨h1, h2, h3⟩ := ih t ht
    refine ⟨?_, by simp; omega, ?_⟩
    · simp only [List.take_succ_cons, h1, esc, if_neg hx, List.cons_append]
    · intro y hy
      rcases List.mem_cons.1 hy with rfl | hy
      · exact .inl (by simp)
      · rcases h3 y hy with h | h
        · exact .inl (by simp [h])
        · exact .inr h
  | case3 x hx =>
    intro q h
    have : x = 0 := by simpa using hx
    subst this; cases h
  | case4 x hx r ih =>
    intro q h
    have hx0 : x = 0 := by simpa using hx
    subst hx0
    rw [cutT_255] at h
    obtain ⟨t, ht, rfl⟩ := Option.map_eq_some_iff.1 h
    obtain ⟨h1, h2, h3⟩ := ih t ht
    refine ⟨?_, by simp; omega, ?_⟩
    · simp only [List.take_succ_cons, h1, esc, if_true, List.cons_append]
    · intro y hy
      rcases List.mem_cons.1 hy with rfl | hy
      · exact .inr rfl
      · rcases h3 y hy with h | h
        · exact .inl (by simp [h])
        · exact .inr h
  | case5 x hx r h255 =>
    intro q h
    have hx0 : x = 0 := by simpa using hx
    subst hx0
    rw [cutT_1] at h
    cases h
    exact ⟨by simp [esc], by simp, fun y hy => by cases hy⟩
  | case6 x hx y r h255 h1 =>
    intro q h
    have hx0 : x = 0 := by simpa using hx
    subst hx0
    rw [cutT_odd h255 h1] at h; cases h
theorem be_8 (a b c d e f g h : Int) : be [a, b, c, d, e, f, g, h] = ((((((a * 256 + b) * 256 + c) * 256 + d) * 256 + e) * 256 + f) * 256 + g) * 256 + h := by simp [be]
theorem be_beB {u : Int} (h0 : 0 ≤ u) (h1 : u < 18446744073709551616) : be (beB u) = u := by
  unfold beB
  rw [be_8]
  omega
theorem list8 {t : List Int} (h : t.length = 8) : ∃ a b c d e f g i, t = [a, b, c, d, e, f, g, i] := by
  match t, h with
  | [a, b, c, d, e, f, g, i], _ => exact ⟨a, b, c, d, e, f, g, i, rfl⟩
theorem beB_be {t : List Int} (hl : t.length = 8) (h8 : Bytes8 t) : beB (be t) = t := by
  obtain ⟨a, b, c, d, e, f, g, i, rfl⟩ := list8 hl
  have ha := h8 a (by simp)
  have hb := h8 b (by simp)
  have hc := h8 c (by simp)
  have hd := h8 d (by simp)
  have he := h8 e (by simp)
  have hf := h8 f (by simp)
  have hg := h8 g (by simp)
  have hi := h8 i (by simp)
  rw [be_8]
  unfold beB
  congr 1; omega
  congr 1; omega
  congr 1; omega
  congr 1; omega
  congr 1; omega
  congr 1; omega
  congr 1; omega
  congr 1; omega
theorem str_size (l : List Int) : (strOfNums l).size = l.length := by
  rw [← sB_len]
  unfold sB strOfNums
  simp
def okV (x : PA.S45) : Prop := rightV x = true ∧ (-9223372036854775808 ≤ x.f1 ∧ x.f1 ≤ 9223372036854775807)
theorem right_cases {x : PA.S45} (h : rightV x = true) : x = ⟨1, x.f1, ⟨#[]⟩, false⟩ ∨ (x = ⟨2, 0, x.f2, false⟩ ∧ x.f2.size ≤ 4096) ∨ x = ⟨3, 0, ⟨#[]⟩, x.f3⟩ := by
  obtain ⟨a, b, c, d⟩ := x
  unfold rightV at h
  simp only at h ⊢
  split at h
  · rename_i e; subst e
    simp at h
    obtain ⟨rfl, rfl⟩ := h
    exact .inl rfl
  · split at h
    · rename_i e; subst e
      simp at h
      obtain ⟨rfl, rfl, hs⟩ := h
      exact .inr (.inl ⟨rfl, hs⟩)
    · split at h
      · rename_i e; subst e
        simp at h
        obtain ⟨rfl, rfl⟩ := h
        exact .inr (.inr rfl)
      · cases h
theorem cutV_1 {l : List Int} (h : 8 ≤ l.length) : cutV (1 :: l) = some (⟨1, be (l.take 8) - 9223372036854775808, ⟨#[]⟩, false⟩, 9) := by
  match l, h with
  | y :: r, h => simp only [cutV]; rw [if_neg (by decide), if_neg (by decide), if_pos trivial, if_pos h]
theorem cutV_2 {l : List Int} {q : List Int × Nat} (h : cutT l = some q) (hs : q.1.length ≤ 4096) : cutV (2 :: l) = some (⟨2, 0, strOfNums q.1, false⟩, q.2 + 1) := by
  match l, h with
  | y :: r, h => simp only [cutV]; rw [if_neg (by decide), if_pos trivial, h]; simp only; rw [if_pos hs]
theorem valCodec : Codec cutV keyB okV := by
  refine ⟨fun x hx r => ?_, fun l x k h8 e => ?_, fun x hx => ?_⟩
  · obtain ⟨hr, hn⟩ := hx
    rcases right_cases hr with e | ⟨e, hs⟩ | e
    · generalize x.f1 = n at *
      subst e
      have hb : (beB (n + 9223372036854775808)).length = 8 := rfl
      simp only [keyB, if_true, List.cons_append]
      rw [cutV_1 (by rw [List.length_append, hb]; omega), List.take_left' hb, be_beB (by omega) (by omega)]
      simp [hb]
    · generalize x.f2 = s at *
      subst e
      have ht := cutT_esc (sB s) r
      have ht' : cutT (textB s ++ r) = some (sB s, (textB s).length) := by
        unfold textB
        rw [List.append_assoc]
        rw [show [0, 1] ++ r = 0 :: 1 :: r from rfl, ht]
        simp
      have hk : keyB ⟨2, 0, s, false⟩ = 2 :: textB s := by simp [keyB]
      rw [hk, List.cons_append, cutV_2 ht' (by rw [sB_len]; exact hs)]
      simp only [str_sB, List.length_cons]
    · generalize x.f3 = b at *
      subst e
      cases b <;> simp [keyB, cutV]
  · match l, e, h8 with
    | b :: y :: r, e, h8 =>
      simp only [cutV] at e
      split at e
      · rename_i hb; subst hb
        split at e
        · rename_i hy
          simp only [Option.some.injEq, Prod.mk.injEq] at e
          obtain ⟨rfl, rfl⟩ := e
          have hy0 := (h8 y (by simp)).1
          have hyy : y = 0 ∨ y = 1 := by omega
          rcases hyy with rfl | rfl <;> exact ⟨⟨by decide, by decide⟩, by simp, by simp [keyB]⟩
        · cases e
      · split at e
        · rename_i hb; subst hb
          cases hq : cutT (y :: r) with
          | none => rw [hq] at e; cases e
          | some q =>
            rw [hq] at e
            simp only at e
            split at e
            · rename_i hs
              simp only [Option.some.injEq, Prod.mk.injEq] at e
              obtain ⟨rfl, rfl⟩ := e
              obtain ⟨h1, h2, h3⟩ := cutT_forth _ q hq
              have hq8 : ∀ z ∈ q.1, 0 ≤ z ∧ z ≤ 255 := fun z hz => by
                rcases h3 z hz with h | h
                · exact h8 z (by simp at h ⊢; exact .inr h)
                · subst h; omega
              refine ⟨⟨?_, by simp⟩, by simp at h2 ⊢; omega, ?_⟩
              · simp [rightV, str_size]; exact hs
              · have hk : keyB ⟨2, 0, strOfNums q.1, false⟩ = 2 :: textB (strOfNums q.1) := by simp [keyB]
                rw [List.take_succ_cons, h1, hk]
                unfold textB
                rw [sB_str _ hq8]
            · cases e
        · split at e
          · rename_i hb; subst hb
            split at e
            · rename_i hl
              simp only [Option.some.injEq, Prod.mk.injEq] at e
              obtain ⟨rfl, rfl⟩ := e
              have ht8 : Bytes8 ((y :: r).take 8) := fun z hz => h8 z (by simp only [List.mem_cons]; exact .inr (List.mem_of_mem_take hz |> fun h => by simpa using h))
              have htl : ((y :: r).take 8).length = 8 := by rw [List.length_take]; omega
              have hbd := be_bound ((y :: r).take 8) ht8
              rw [htl] at hbd
              have h256 : (256 : Int) ^ 8 = 18446744073709551616 := by decide
              rw [h256] at hbd
              refine ⟨⟨by simp [rightV], by simp only; omega⟩, by simp at hl ⊢; omega, ?_⟩
              simp only [keyB, if_true]
              rw [show be ((y :: r).take 8) - 9223372036854775808 + 9223372036854775808 = be ((y :: r).take 8) by omega, beB_be htl ht8]
              rfl
            · cases e
          · cases e
  · unfold keyB
    split
    · simp
    · split <;> simp
end Go.Proofs.YtpidhnnckolapaaGreatDoor.K
namespace Go.Proofs.YtpidhnnckolapaaGreatDoor.K
open Go.RowKit Go.Proofs.YtpidhnnckolapaaGreatDoorW.PrintWords Go.Proofs.YtpidhnnckolapaaGreatDoorW.PrintLast
set_option linter.unusedVariables false
set_option linter.unusedSimpArgs false
theorem rep_back {α : Type} {d : D α} {enc : α → List Int} {ok : α → Prop} (h : Codec d enc ok) : ∀ (xs : List α), (∀ x ∈ xs, ok x) → ∀ r, dRep d xs.length (xs.flatMap enc ++ r) = some (xs, (xs.flatMap enc).length) := by
  intro xs
  induction xs with
  | nil => intro _ r; simp [dRep]
  | cons x xs ih =>
    intro hx r
    rw [List.length_cons, dRep, List.flatMap_cons, List.append_assoc, h.back x (hx x (by simp))]
    simp only
    rw [List.drop_left' rfl, ih (fun y hy => hx y (by simp [hy])) r]
    simp
theorem rep_forth {α : Type} {d : D α} {enc : α → List Int} {ok : α → Prop} (h : Codec d enc ok) : ∀ (n : Nat) (l : List Int) (xs : List α) (k : Nat), Bytes8 l → dRep d n l = some (xs, k) → xs.length = n ∧ (∀ x ∈ xs, ok x) ∧ k ≤ l.length ∧ l.take k = xs.flatMap enc := by
  intro n
  induction n with
  | zero =>
    intro l xs k _ e
    simp only [dRep, Option.some.injEq, Prod.mk.injEq] at e
    obtain ⟨rfl, rfl⟩ := e
    simp
  | succ n ih =>
    intro l xs k h8 e
    rw [dRep] at e
    cases hd : d l with
    | none => rw [hd] at e; cases e
    | some q =>
      rw [hd] at e
      simp only at e
      obtain ⟨t, ht, e⟩ := Option.map_eq_some_iff.1 e
      simp only [Prod.mk.injEq] at e
      obtain ⟨rfl, rfl⟩ := e
      obtain ⟨h1, h2, h3⟩ := h.forth l q.1 q.2 h8 hd
      obtain ⟨i1, i2, i3, i4⟩ := ih (l.drop q.2) t.1 t.2 (h8.drop _) ht
      rw [List.length_drop] at i3
      refine ⟨by simp [i1], ?_, by omega, ?_⟩
      · intro x hx
        rcases List.mem_cons.1 hx with rfl | hx
        · exact h1
        · exact i2 x hx
      · rw [List.take_add, i4, h3, List.flatMap_cons]
theorem rep_pos {α : Type} {d : D α} {enc : α → List Int} {ok : α → Prop} (h : Codec d enc ok) (xs : List α) (hx : ∀ x ∈ xs, ok x) : xs.length ≤ (xs.flatMap enc).length := by
  induction xs with
  | nil => simp
  | cons x xs ih =>
    rw [List.flatMap_cons, List.length_append, List.length_cons]
    have := h.pos x (hx x (by simp))
    have := ih (fun y hy => hx y (by simp [hy]))
    omega
def listB {α : Type} (enc : α → List Int) (xs : List α) : List Int := numB xs.length ++ xs.flatMap enc
def okL {α : Type} (ok : α → Prop) (xs : List α) : Prop := xs.length ≤ 2147483647 ∧ ∀ x ∈ xs, ok x
theorem listCodec {α : Type} {d : D α} {enc : α → List Int} {ok : α → Prop} (h : Codec d enc ok) : Codec (dList d) (listB enc) (okL ok) := by
  refine ⟨fun xs hx r => ?_, fun l xs k h8 e => ?_, fun xs _ => by simp [listB, numB]⟩
  · unfold dList listB
    rw [List.append_assoc, take4_numB ⟨by omega, by have := hx.1; omega⟩]
    simp only
    have hp := rep_pos h xs hx.2
    rw [if_neg (by rw [List.length_append]; omega), Int.toNat_natCast, rep_back h xs hx.2 r]
    simp [numB_len]; omega
  · unfold dList at e
    cases hq : take4 l with
    | none => rw [hq] at e; cases e
    | some q =>
      rw [hq] at e
      simp only at e
      split at e
      · cases e
      · obtain ⟨t, ht, e⟩ := Option.map_eq_some_iff.1 e
        simp only [Prod.mk.injEq] at e
        obtain ⟨rfl, rfl⟩ := e
        obtain ⟨g1, g2, g3, g4⟩ := take4_forth (n := q.1) (r := q.2) h8 hq
        rw [g4] at ht
        obtain ⟨i1, i2, i3, i4⟩ := rep_forth h q.1.toNat _ t.1 t.2 (h8.drop 4) ht
        rw [List.length_drop] at i3
        unfold okN at g1
        refine ⟨⟨by omega, i2⟩, by omega, ?_⟩
        unfold listB
        rw [Nat.add_comm t.2 4, List.take_add, i4, g2, show ((t.1.length : Nat) : Int) = q.1 by omega]
def slotB (x : PA.S47) : List Int := numB x.f0 ++ keyB x.f1
def confB (x : PA.S49) : List Int := numB x.f0 ++ listB keyB x.f1
def rowB (x : PA.S43) : List Int := listB slotB x.f0 ++ listB confB x.f1
def okSl (x : PA.S47) : Prop := okN x.f0 ∧ okV x.f1
def okCf (x : PA.S49) : Prop := okN x.f0 ∧ okL okV x.f1
def okRw (x : PA.S43) : Prop := okL okSl x.f0 ∧ okL okCf x.f1
theorem slotCodec : Codec dSlot slotB okSl := by
  refine ⟨fun x hx r => ?_, fun l x k h8 e => ?_, fun x _ => by simp [slotB, numB]⟩
  · unfold dSlot slotB
    rw [List.append_assoc, take4_numB hx.1]
    simp only
    rw [valCodec.back _ hx.2 r]
    simp [numB_len]
  · unfold dSlot at e
    cases hq : take4 l with
    | none => rw [hq] at e; cases e
    | some q =>
      rw [hq] at e
      simp only at e
      obtain ⟨t, ht, e⟩ := Option.map_eq_some_iff.1 e
      simp only [Prod.mk.injEq] at e
      obtain ⟨rfl, rfl⟩ := e
      obtain ⟨g1, g2, g3, g4⟩ := take4_forth (n := q.1) (r := q.2) h8 hq
      rw [g4] at ht
      obtain ⟨i2, i3, i4⟩ := valCodec.forth _ t.1 t.2 (h8.drop 4) ht
      rw [List.length_drop] at i3
      exact ⟨⟨g1, i2⟩, by omega, by unfold slotB; rw [List.take_add, i4, g2]⟩
theorem confCodec : Codec dConfig confB okCf := by
  refine ⟨fun x hx r => ?_, fun l x k h8 e => ?_, fun x _ => by simp [confB, numB]⟩
  · unfold dConfig confB
    rw [List.append_assoc, take4_numB hx.1]
    simp only
    rw [(listCodec valCodec).back _ hx.2 r]
    simp [numB_len]
  · unfold dConfig at e
    cases hq : take4 l with
    | none => rw [hq] at e; cases e
    | some q =>
      rw [hq] at e
      simp only at e
      obtain ⟨t, ht, e⟩ := Option.map_eq_some_iff.1 e
      simp only [Prod.mk.injEq] at e
      obtain ⟨rfl, rfl⟩ := e
      obtain ⟨g1, g2, g3, g4⟩ := take4_forth (n := q.1) (r := q.2) h8 hq
      rw [g4] at ht
      obtain ⟨i2, i3, i4⟩ := (listCodec valCodec).forth _ t.1 t.2 (h8.drop 4) ht
      rw [List.length_drop] at i3
      exact ⟨⟨g1, i2⟩, by omega, by unfold confB; rw [List.take_add, i4, g2]⟩
theorem rowCodec : Codec dRow rowB okRw := by
  refine ⟨fun x hx r => ?_, fun l x k h8 e => ?_, fun x _ => by simp [rowB, listB, numB]⟩
  · unfold dRow rowB
    rw [List.append_assoc, (listCodec slotCodec).back _ hx.1]
    simp only
    rw [List.drop_left' rfl, (listCodec confCodec).back _ hx.2 r]
    simp
  · unfold dRow at e
    cases hq : dList dSlot l with
    | none => rw [hq] at e; cases e
    | some q =>
      rw [hq] at e
      simp only at e
      obtain ⟨t, ht, e⟩ := Option.map_eq_some_iff.1 e
      simp only [Prod.mk.injEq] at e
      obtain ⟨rfl, rfl⟩ := e
      obtain ⟨g1, g2, g3⟩ := (listCodec slotCodec).forth l q.1 q.2 h8 hq
      obtain ⟨i2, i3, i4⟩ := (listCodec confCodec).forth _ t.1 t.2 (h8.drop q.2) ht
      rw [List.length_drop] at i3
      exact ⟨⟨g1, i2⟩, by omega, by unfold rowB; rw [List.take_add, i4, g3]⟩
/-- All that a monitor has, as bytes. -/
def snapB (a b c d : Int) (l4 : List (List PA.S45)) (l5 : List PA.S43) : List Int := 81 :: ([a, b, c, d].flatMap numB ++ (listB (listB keyB) l4 ++ listB rowB l5))
def okS (a b c d : Int) (l4 : List (List PA.S45)) (l5 : List PA.S43) : Prop := (okN a ∧ okN b ∧ okN c ∧ okN d) ∧ okL (okL okV) l4 ∧ okL okRw l5
theorem dSnap_cons (x : Int) (r : List Int) : dSnap (x :: r) = if x = 81 then dSnap2 r else none := rfl
theorem snap_forth {bs : List Int} {ns : List Int} {l4 : List (List PA.S45)} {l5 : List PA.S43} (h8 : Bytes8 bs) (h : dSnap bs = some (ns, l4, l5)) : ∃ a b c d, ns = [a, b, c, d] ∧ okS a b c d l4 l5 ∧ bs = snapB a b c d l4 l5 := by
  match bs, h, h8 with
  | x :: r, h, h8 =>
    rw [dSnap_cons] at h
    split at h
    · rename_i hx
      subst hx
      have hr8 : Bytes8 r := fun y hy => h8 y (by simp [hy])
      unfold dSnap2 at h
      cases h1 : dRep dNum 4 r with
      | none => rw [h1] at h; cases h
      | some q =>
        rw [h1] at h
        simp only at h
        cases h2 : dList (dList cutV) (r.drop q.2) with
        | none => rw [h2] at h; cases h
        | some t =>
          rw [h2] at h
          simp only at h
          cases h3 : dList dRow (r.drop (q.2 + t.2)) with
          | none => rw [h3] at h; cases h
          | some u =>
            rw [h3] at h
            simp only at h
            split at h
            · rename_i hz
              simp only [Option.some.injEq, Prod.mk.injEq] at h
              obtain ⟨rfl, rfl, rfl⟩ := h
              obtain ⟨a1, a2, a3, a4⟩ := rep_forth numCodec 4 r q.1 q.2 hr8 h1
              obtain ⟨b1, b2, b3⟩ := (listCodec (listCodec valCodec)).forth _ t.1 t.2 (hr8.drop _) h2
              obtain ⟨c1, c2, c3⟩ := (listCodec rowCodec).forth _ u.1 u.2 (hr8.drop _) h3
              rw [List.length_drop] at b2 c2
              have hz' : r.drop (q.2 + t.2 + u.2) = [] := List.eq_nil_of_length_eq_zero hz
              have hr : r = q.1.flatMap numB ++ (listB (listB keyB) t.1 ++ listB rowB u.1) := by
                rw [← a4, ← b3, ← c3]
                have e1 : r = r.take q.2 ++ r.drop q.2 := (List.take_append_drop _ _).symm
                have e2 : r.drop q.2 = (r.drop q.2).take t.2 ++ (r.drop q.2).drop t.2 := (List.take_append_drop _ _).symm
                have e3 : r.drop (q.2 + t.2) = (r.drop (q.2 + t.2)).take u.2 ++ (r.drop (q.2 + t.2)).drop u.2 := (List.take_append_drop _ _).symm
                rw [List.drop_drop] at e2 e3
                rw [hz', List.append_nil] at e3
                rw [← e3, ← e2, ← e1]
              generalize q.1 = qs at *
              match qs, a1, a2, hr with
              | [a, b, c, d], _, a2, hr => exact ⟨a, b, c, d, rfl, ⟨⟨a2 a (by simp), a2 b (by simp), a2 c (by simp), a2 d (by simp)⟩, b1, c1⟩, by unfold snapB; rw [← hr]⟩
            · cases h
    · cases h
end Go.Proofs.YtpidhnnckolapaaGreatDoor.K
namespace Go.Proofs.YtpidhnnckolapaaGreatDoor.K
open Go.RowKit Go.Proofs.YtpidhnnckolapaaGreatDoorW.PrintWords Go.Proofs.YtpidhnnckolapaaGreatDoorW.PrintLast
set_option linter.unusedVariables false
set_option linter.unusedSimpArgs false
theorem foldW_app {α : Type} {f : α → List Int × Int → List Int × Int} {enc : α → List Int} : ∀ (l : List α), (∀ x ∈ l, ∀ s, f x s = (s.1 ++ enc x, s.2)) → ∀ s, foldW f l s = (s.1 ++ l.flatMap enc, s.2) := by
  intro l
  induction l with
  | nil => intro _ s; simp [foldW]
  | cons x l ih =>
    intro hf s
    have h2 := ih (fun y hy => hf y (by simp [hy])) (f x s)
    rw [hf x (by simp) s] at h2
    rw [List.flatMap_cons, ← List.append_assoc]
    have e : foldW f (x :: l) s = foldW f l (f x s) := rfl
    rw [e, hf x (by simp) s]
    exact h2
theorem numW_app {n : Int} (h : okN n) (s : List Int × Int) : numW n s = (s.1 ++ numB n, s.2) := by
  unfold numW; rw [if_neg (by unfold okN at h; omega)]
theorem valW_app {x : PA.S45} (h : okV x) (s : List Int × Int) : valW x s = (s.1 ++ keyB x, s.2) := by
  unfold valW; rw [if_pos h.1]
theorem len_ok {α : Type} {ok : α → Prop} {l : List α} (h : okL ok l) : okN (l.length : Int) := ⟨by omega, by have := h.1; omega⟩
theorem valsW_app {l : List PA.S45} (h : okL okV l) (s : List Int × Int) : valsW l s = (s.1 ++ listB keyB l, s.2) := by
  unfold valsW listB
  rw [foldW_app l (fun x hx s => valW_app (h.2 x hx) s), numW_app (len_ok h)]
  simp
theorem slotW_app {x : PA.S47} (h : okSl x) (s : List Int × Int) : slotW x s = (s.1 ++ slotB x, s.2) := by
  unfold slotW slotB
  rw [valW_app h.2, numW_app h.1]; simp
theorem confW_app {x : PA.S49} (h : okCf x) (s : List Int × Int) : confW x s = (s.1 ++ confB x, s.2) := by
  unfold confW confB
  rw [valsW_app h.2, numW_app h.1]; simp
theorem rowW_app {x : PA.S43} (h : okRw x) (s : List Int × Int) : rowW x s = (s.1 ++ rowB x, s.2) := by
  unfold rowW rowW2 rowB listB
  rw [foldW_app x.f1 (fun y hy s => confW_app (h.2.2 y hy) s), numW_app (len_ok h.2), foldW_app x.f0 (fun y hy s => slotW_app (h.1.2 y hy) s), numW_app (len_ok h.1)]
  simp
theorem putW_app {a b c d : Int} {l4 : List (List PA.S45)} {l5 : List PA.S43} (h : okS a b c d l4 l5) : putW a b c d l4 l5 = (snapB a b c d l4 l5, 0) := by
  obtain ⟨⟨ha, hb, hc, hd⟩, h4, h5⟩ := h
  have hn := foldW_app (f := numW) (enc := numB) [a, b, c, d] (fun y hy s => numW_app (by simp at hy; rcases hy with rfl | rfl | rfl | rfl <;> assumption) s) ([81], 0)
  have e4 : listB (listB keyB) l4 = numB l4.length ++ l4.flatMap (listB keyB) := rfl
  have e5 : listB rowB l5 = numB l5.length ++ l5.flatMap rowB := rfl
  unfold putW snapB
  rw [foldW_app l5 (fun y hy s => rowW_app (h5.2 y hy) s), numW_app (len_ok h5), foldW_app l4 (fun y hy s => valsW_app (h4.2 y hy) s), numW_app (len_ok h4), hn, e4, e5]
  simp
end Go.Proofs.YtpidhnnckolapaaGreatDoor.K
namespace Go.Proofs.YtpidhnnckolapaaGreatDoor.K
open Go.RowKit Go.Proofs.YtpidhnnckolapaaGreatDoorW.PrintWords Go.Proofs.YtpidhnnckolapaaGreatDoorW.PrintLast
set_option linter.unusedVariables false
set_option linter.unusedSimpArgs false
theorem wrapN {i n : Nat} (h : i < n) (hn : n ≤ 9223372036854775807) : wrap64 ((i : Int) + 1) = ((i + 1 : Nat) : Int) := by unfold wrap64; omega
theorem Ev_fold {α σ β : Type} {g : Nat → σ → Int → Option β} {l : List α} {z : α} {step : σ → α → σ} {R : β} {ok : σ → α → Prop}
    (hstep : ∀ i s, i < l.length → ok s (l.getD i z) → Ev (fun k => g k (step s (l.getD i z)) ((i + 1 : Nat) : Int)) R → Ev (fun k => g k s (i : Int)) R) :
    ∀ s0, (∀ i, i < l.length → ok ((l.take i).foldl step s0) (l.getD i z)) → Ev (fun k => g k (l.foldl step s0) (l.length : Int)) R → Ev (fun k => g k s0 0) R := by
  intro s0 hok hend
  have main : ∀ m i, l.length = i + m → Ev (fun k => g k ((l.take i).foldl step s0) (i : Int)) R := by
    intro m
    induction m with
    | zero =>
      intro i h
      have hi : i = l.length := by omega
      subst hi
      rw [List.take_length]
      exact hend
    | succ m ih =>
      intro i h
      have hi : i < l.length := by omega
      refine hstep i _ hi (hok i hi) ?_
      have e : (l.take (i + 1)).foldl step s0 = step ((l.take i).foldl step s0) (l.getD i z) := by
        rw [List.take_succ_eq_append_getElem hi, List.foldl_append, List.getD_eq_getElem?_getD, List.getElem?_eq_getElem hi]; rfl
      rw [← e]
      exact ih (i + 1) (by omega)
  have := main l.length 0 (by omega)
  simpa using this
theorem foldl_flat {α : Type} (enc : α → List Int) (l : List α) : ∀ s0, l.foldl (fun s x => s ++ enc x) s0 = s0 ++ l.flatMap enc := by
  induction l with
  | nil => intro s0; simp
  | cons x l ih => intro s0; rw [List.foldl_cons, ih, List.flatMap_cons, List.append_assoc]
/-- Bytes, one after the other. -/
theorem Ev_app {α β : Type} {g : Nat → List Int → Int → Option β} {l : List α} {z : α} {enc : α → List Int} {R : β}
    (hstep : ∀ i s, i < l.length → s.length + (enc (l.getD i z)).length ≤ 1000000000 → Ev (fun k => g k (s ++ enc (l.getD i z)) ((i + 1 : Nat) : Int)) R → Ev (fun k => g k s (i : Int)) R)
    (s0 : List Int) (hN : (s0 ++ l.flatMap enc).length ≤ 1000000000) (hend : Ev (fun k => g k (s0 ++ l.flatMap enc) (l.length : Int)) R) : Ev (fun k => g k s0 0) R := by
  refine Ev_fold (step := fun s x => s ++ enc x) (ok := fun s x => s.length + (enc x).length ≤ 1000000000) (z := z) hstep s0 ?_ (by rw [foldl_flat]; exact hend)
  intro i hi
  rw [foldl_flat]
  have e : l.flatMap enc = (l.take i).flatMap enc ++ (enc (l.getD i z) ++ (l.drop (i + 1)).flatMap enc) := by
    rw [← List.flatMap_cons, ← List.flatMap_append]
    congr 1
    have hd : l.drop i = l.getD i z :: l.drop (i + 1) := by
      rw [List.drop_eq_getElem_cons hi, List.getD_eq_getElem?_getD, List.getElem?_eq_getElem hi]; rfl
    rw [← hd, List.take_append_drop]
  rw [e] at hN
  simp only [List.length_append] at hN ⊢
  omega
theorem rd45 (l : List PA.S45) (i : Nat) : PA.rd_T45 l (i : Int) = l.getD i PA.z45 := rfl
theorem rd47 (l : List PA.S47) (i : Nat) : PA.rd_T47 l (i : Int) = l.getD i PA.z47 := rfl
theorem rd49 (l : List PA.S49) (i : Nat) : PA.rd_T49 l (i : Int) = l.getD i PA.z49 := rfl
theorem rd43 (l : List PA.S43) (i : Nat) : PA.rd_T43 l (i : Int) = l.getD i PA.z43 := rfl
theorem rdL4 (l : List (List PA.S45)) (i : Nat) : PA.rd_L4 l (i : Int) = l.getD i [] := rfl
section
variable (a b c d : Int) (l4 : List (List PA.S45)) (l5 : List PA.S43)
end
end Go.Proofs.YtpidhnnckolapaaGreatDoor.K
namespace Go.Proofs.YtpidhnnckolapaaGreatDoor.K
open Go.RowKit Go.Proofs.YtpidhnnckolapaaGreatDoorW.PrintWords Go.Proofs.YtpidhnnckolapaaGreatDoorW.PrintLast
set_option linter.unusedVariables false
set_option linter.unusedSimpArgs false
section
variable (a b c d : Int) (l4 : List (List PA.S45)) (l5 : List PA.S43)
def NMAX : Nat := 9223372036854775807
end
end Go.Proofs.YtpidhnnckolapaaGreatDoor.K
namespace Go.Proofs.YtpidhnnckolapaaGreatDoor.K
open Go.RowKit Go.Proofs.YtpidhnnckolapaaGreatDoorW.PrintWords Go.Proofs.YtpidhnnckolapaaGreatDoorW.PrintLast
set_option linter.unusedVariables false
set_option linter.unusedSimpArgs false
theorem four_f {n : Int} (h : okN n) : PA.proctorref38_four.f n = some (numB n) := by
  obtain ⟨h0, h1⟩ := h
  unfold PA.proctorref38_four.f numB
  rw [Int.tdiv_eq_ediv_of_nonneg h0, Int.tdiv_eq_ediv_of_nonneg h0, Int.tdiv_eq_ediv_of_nonneg h0, Int.tmod_eq_emod_of_nonneg h0]
  have e1 : wrap64 (n / 16777216) = n / 16777216 := by unfold wrap64; omega
  have e2 : wrap64 (n / 65536) = n / 65536 := by unfold wrap64; omega
  have e3 : wrap64 (n / 256) = n / 256 := by unfold wrap64; omega
  rw [e1, e2, e3, Int.tmod_eq_emod_of_nonneg (by omega), Int.tmod_eq_emod_of_nonneg (by omega)]
  congr 1
  congr 1
  congr 1
  · omega
  · congr 1
    · omega
    · congr 1; omega
theorem key1_step {k : Nat} {s : List Int} {u dv j : Int} (hu : 0 ≤ u ∧ u < 18446744073709551616) (hd : 0 < dv ∧ dv < 18446744073709551616) (hj : 0 ≤ j ∧ j < 8) (hs : s.length ≤ 100) :
    PA.proctorref04_Key.l1 (k + 1) s u dv j = PA.proctorref04_Key.l1 k (s ++ [u / dv % 256]) u (dv / 256) (j + 1) := by
  rw [PA.proctorref04_Key.l1]
  rw [if_pos hj.2, if_neg (by omega), if_pos (by omega)]
  have h1 : 0 ≤ u / dv := Int.ediv_nonneg hu.1 (by omega)
  have h2 : u / dv ≤ u := Int.ediv_le_self _ hu.1
  rw [Int.tdiv_eq_ediv_of_nonneg hu.1, Int.tdiv_eq_ediv_of_nonneg (by omega), IntKind.wrap_u64, IntKind.wrap_u64]
  have e1 : u / dv % 18446744073709551616 = u / dv := by omega
  have e2 : dv / 256 % 18446744073709551616 = dv / 256 := by omega
  have e3 : wrap64 (j + 1) = j + 1 := by unfold wrap64; omega
  rw [e1, e2, e3, Int.tmod_eq_emod_of_nonneg h1]
  have e4 : u / dv % 256 % 256 = u / dv % 256 := by omega
  rw [e4]
theorem key1 {u : Int} (hu : 0 ≤ u ∧ u < 18446744073709551616) (k : Nat) : PA.proctorref04_Key.l1 (k + 9) [1] u 72057594037927936 0 = some (1 :: beB u) := by
  rw [key1_step hu (by decide) (by decide) (by simp), show (72057594037927936 : Int) / 256 = 281474976710656 from by decide, show (0 : Int) + 1 = 1 from by decide]
  rw [key1_step hu (by decide) (by decide) (by simp), show (281474976710656 : Int) / 256 = 1099511627776 from by decide, show (1 : Int) + 1 = 2 from by decide]
  rw [key1_step hu (by decide) (by decide) (by simp), show (1099511627776 : Int) / 256 = 4294967296 from by decide, show (2 : Int) + 1 = 3 from by decide]
  rw [key1_step hu (by decide) (by decide) (by simp), show (4294967296 : Int) / 256 = 16777216 from by decide, show (3 : Int) + 1 = 4 from by decide]
  rw [key1_step hu (by decide) (by decide) (by simp), show (16777216 : Int) / 256 = 65536 from by decide, show (4 : Int) + 1 = 5 from by decide]
  rw [key1_step hu (by decide) (by decide) (by simp), show (65536 : Int) / 256 = 256 from by decide, show (5 : Int) + 1 = 6 from by decide]
  rw [key1_step hu (by decide) (by decide) (by simp), show (256 : Int) / 256 = 1 from by decide, show (6 : Int) + 1 = 7 from by decide]
  rw [key1_step hu (by decide) (by decide) (by simp), show (1 : Int) / 256 = 0 from by decide, show (7 : Int) + 1 = 8 from by decide]
  rw [PA.proctorref04_Key.l1]
  rw [if_neg (by decide)]
  simp only [List.cons_append, List.nil_append, beB, Int.ediv_one]
def escE (y : Int) : List Int := if y = 0 then [0, 255] else [y]
theorem esc_flat (l : List Int) : esc l = l.flatMap escE := by
  induction l with
  | nil => rfl
  | cons x l ih =>
    have e : esc (x :: l) = if x = 0 then 0 :: 255 :: esc l else x :: esc l := by rw [esc]
    rw [List.flatMap_cons, ← ih, e]
    unfold escE
    split <;> rfl
theorem bt_sB (s : ByteArray) (i : Nat) : bt s (i : Int) = (sB s).getD i 0 := by
  by_cases h : i < s.size
  · have hd := sB_drop s i h
    have hi : i < (sB s).length := by rw [sB_len]; exact h
    rw [List.drop_eq_getElem_cons hi] at hd
    have := (List.cons.inj hd).1
    rw [← this, List.getD_eq_getElem?_getD, List.getElem?_eq_getElem hi]; rfl
  · have hi : ¬ i < (sB s).length := by rw [sB_len]; exact h
    rw [List.getD_eq_getElem?_getD, List.getElem?_eq_none (by omega)]
    simp [bt, h]
theorem key2 {s : ByteArray} (hs : s.size ≤ 4096) (a b : Int) (d : Bool) : Ev (fun k => PA.proctorref04_Key.l0 k [2] 0 a b s d) (2 :: textB s) := by
  have hle := esc_len (sB s)
  rw [sB_len] at hle
  refine Ev_app (g := fun k acc i => PA.proctorref04_Key.l0 k acc i a b s d) (l := sB s) (z := 0) (enc := escE) ?_ [2] ?_ ?_
  · intro i acc hi hb hr
    rw [sB_len] at hi
    refine Ev.step (fun k => ?_) hr
    rw [PA.proctorref04_Key.l0]
    rw [bt_sB]
    have hbl : acc.length < 140737488355328 := by unfold escE at hb; split at hb <;> simp at hb <;> omega
    rw [if_pos (by omega), if_pos (by omega), if_pos hbl, Option.bind_some, wrapN hi (by omega)]
    unfold escE at hb ⊢
    by_cases hz : (sB s).getD i 0 = 0
    · rw [if_pos hz] at hb ⊢
      rw [if_pos hz, if_pos (by simp at hb ⊢; omega), hz]
      simp
    · rw [if_neg hz, if_neg hz]
  · rw [← esc_flat]; simp; omega
  · rw [sB_len, ← esc_flat]
    refine Ev.step (f := fun k => some (2 :: textB s)) (fun k => ?_) (Ev.now _)
    rw [PA.proctorref04_Key.l0]
    rw [if_neg (by omega), Option.bind_some, if_pos (by simp; omega)]
    simp [textB]
theorem key_ev {x : PA.S45} (h : okV x) : Ev (fun k => PA.proctorref04_Key.f k x.f0 x.f1 x.f2 x.f3) (keyB x) := by
  obtain ⟨hr, hn⟩ := h
  rcases right_cases hr with e | ⟨e, hs⟩ | e
  · generalize x.f1 = n at *
    subst e
    have hk : keyB ⟨1, n, ⟨#[]⟩, false⟩ = 1 :: beB (n + 9223372036854775808) := by simp [keyB]
    rw [hk]
    have hw : IntKind.u64.wrap (IntKind.u64.wrap n + 9223372036854775808) = n + 9223372036854775808 := by rw [IntKind.wrap_u64, IntKind.wrap_u64]; omega
    refine ⟨9, fun k hk => ?_⟩
    obtain ⟨j, rfl⟩ : ∃ j, k = j + 9 := ⟨k - 9, by omega⟩
    simp only [PA.proctorref04_Key.f, Option.bind_some]
    rw [if_neg (by decide), if_neg (by decide), hw]
    exact key1 ⟨by omega, by omega⟩ j
  · generalize x.f2 = s at *
    subst e
    have hk : keyB ⟨2, 0, s, false⟩ = 2 :: textB s := by simp [keyB]
    rw [hk]
    refine Ev.congr (fun k => ?_) (key2 hs 2 0 false)
    simp only [PA.proctorref04_Key.f, Option.bind_some]
    rw [if_neg (by decide), if_pos trivial]
    rfl
  · generalize x.f3 = d at *
    subst e
    refine Ev.congr (f := fun k => some (keyB ⟨3, 0, ⟨#[]⟩, d⟩)) (fun k => ?_) (Ev.now _)
    simp only [PA.proctorref04_Key.f, Option.bind_some]
    cases d <;> simp [keyB]
end Go.Proofs.YtpidhnnckolapaaGreatDoor.K
namespace Go.Proofs.YtpidhnnckolapaaGreatDoor.K
open Go.RowKit Go.Proofs.YtpidhnnckolapaaGreatDoorW.PrintWords Go.Proofs.YtpidhnnckolapaaGreatDoorW.PrintLast
set_option linter.unusedVariables false
set_option linter.unusedSimpArgs false
theorem keys_ev {l : List PA.S45} (h : okL okV l) (hN : (l.flatMap keyB).length ≤ 1000000000) : Ev (fun k => PA.proctorref04_Keys.f k l) (l.flatMap keyB) := by
  have h' := Ev_app (g := fun k acc i => PA.proctorref04_Keys.l0 k l acc i) (l := l) (z := PA.z45) (enc := keyB) (R := l.flatMap keyB) ?_ [] (by simpa using hN) ?_
  · exact h'
  · intro i acc hi hb hr
    have hk := key_ev (h.2 _ (getD_mem' (z := PA.z45) hi))
    refine Ev.step (f := fun k => (PA.proctorref04_Key.f k (l.getD i PA.z45).f0 (l.getD i PA.z45).f1 (l.getD i PA.z45).f2 (l.getD i PA.z45).f3).bind fun t => if acc.length + t.length < 140737488355328 then PA.proctorref04_Keys.l0 k l (acc ++ t) ((i + 1 : Nat) : Int) else none) (fun k => ?_) (Ev.bind hk ?_)
    · rw [PA.proctorref04_Keys.l0]
      rw [rd45]
      rw [if_pos (by omega), if_pos (by omega), wrapN hi (by have := h.1; omega)]
    · refine Ev.congr (fun k => ?_) hr
      rw [if_pos (by omega)]
  · refine Ev.step (f := fun k => some (l.flatMap keyB)) (fun k => ?_) (Ev.now _)
    rw [PA.proctorref04_Keys.l0]
    rw [if_neg (by omega)]; rfl
theorem values_ev {l : List PA.S45} (h : okL okV l) (hN : (listB keyB l).length ≤ 1000000000) : Ev (fun k => PA.proctorref38_values.f k l) (listB keyB l) := by
  unfold listB at hN ⊢
  rw [List.length_append] at hN
  have hk := keys_ev h (by omega)
  refine Ev.congr (f := fun k => (PA.proctorref04_Keys.f k l).bind fun t => if (numB (l.length : Int)).length + t.length < 140737488355328 then some (numB (l.length : Int) ++ t) else none) (fun k => ?_) (Ev.bind hk ?_)
  · simp only [PA.proctorref38_values.f]
    rw [four_f (len_ok h), Option.bind_some]
  · refine Ev.congr (f := fun k => some (numB (l.length : Int) ++ l.flatMap keyB)) (fun k => ?_) (Ev.now _)
    rw [if_pos (by omega)]
theorem rowl1_ev (f0 : List PA.S47) {cs : List PA.S49} (h : okL okCf cs) (acc : List Int) (hN : (acc ++ cs.flatMap confB).length ≤ 1000000000) : Ev (fun k => PA.proctorref38_row.l1 k acc 0 f0 cs) (acc ++ cs.flatMap confB) := by
  refine Ev_app (g := fun k s i => PA.proctorref38_row.l1 k s i f0 cs) (l := cs) (z := PA.z49) (enc := confB) ?_ acc hN ?_
  · intro i s hi hb hr
    have hx := h.2 _ (getD_mem' (z := PA.z49) hi)
    unfold confB at hb hr
    rw [List.length_append] at hb
    have hv := values_ev hx.2 (by omega)
    rw [← List.append_assoc] at hr
    refine Ev.step (f := fun k => (PA.proctorref38_values.f k (cs.getD i PA.z49).f1).bind fun t => if (s ++ numB (cs.getD i PA.z49).f0).length + t.length < 140737488355328 then PA.proctorref38_row.l1 k ((s ++ numB (cs.getD i PA.z49).f0) ++ t) ((i + 1 : Nat) : Int) f0 cs else none) (fun k => ?_) (Ev.bind hv ?_)
    · rw [PA.proctorref38_row.l1]
      rw [rd49]
      rw [if_pos (by omega), if_pos (by omega), four_f hx.1, Option.bind_some, if_pos (by omega), Option.bind_some, wrapN hi (by have := h.1; omega)]
    · refine Ev.congr (fun k => ?_) hr
      rw [if_pos (by rw [List.length_append]; omega)]
  · refine Ev.step (f := fun k => some (acc ++ cs.flatMap confB)) (fun k => ?_) (Ev.now _)
    rw [PA.proctorref38_row.l1]
    rw [if_neg (by omega)]
theorem rowl0_ev {f0 : List PA.S47} {cs : List PA.S49} (h0 : okL okSl f0) (h : okL okCf cs) (acc : List Int) (hN : (acc ++ f0.flatMap slotB ++ listB confB cs).length ≤ 1000000000) : Ev (fun k => PA.proctorref38_row.l0 k acc 0 f0 cs) (acc ++ f0.flatMap slotB ++ listB confB cs) := by
  have hlb : listB confB cs = numB (cs.length : Int) ++ cs.flatMap confB := rfl
  refine Ev_app (g := fun k s i => PA.proctorref38_row.l0 k s i f0 cs) (l := f0) (z := PA.z47) (enc := slotB) ?_ acc (by rw [List.length_append] at hN; omega) ?_
  · intro i s hi hb hr
    have hx := h0.2 _ (getD_mem' (z := PA.z47) hi)
    unfold slotB at hb hr
    rw [List.length_append] at hb
    have hk := key_ev hx.2
    rw [← List.append_assoc] at hr
    refine Ev.step (f := fun k => (PA.proctorref04_Key.f k (f0.getD i PA.z47).f1.f0 (f0.getD i PA.z47).f1.f1 (f0.getD i PA.z47).f1.f2 (f0.getD i PA.z47).f1.f3).bind fun t => if (s ++ numB (f0.getD i PA.z47).f0).length + t.length < 140737488355328 then PA.proctorref38_row.l0 k ((s ++ numB (f0.getD i PA.z47).f0) ++ t) ((i + 1 : Nat) : Int) f0 cs else none) (fun k => ?_) (Ev.bind hk ?_)
    · rw [PA.proctorref38_row.l0]
      rw [rd47]
      rw [if_pos (by omega), if_pos (by omega), four_f hx.1, Option.bind_some, if_pos (by omega), Option.bind_some, wrapN hi (by have := h0.1; omega)]
    · refine Ev.congr (fun k => ?_) hr
      rw [if_pos (by rw [List.length_append]; omega)]
  · rw [hlb] at hN ⊢
    have h1 := rowl1_ev f0 h (acc ++ f0.flatMap slotB ++ numB (cs.length : Int)) (by rw [← List.append_assoc] at hN; exact hN)
    rw [List.append_assoc _ (numB _) _] at h1
    refine Ev.step (fun k => ?_) h1
    rw [PA.proctorref38_row.l0]
    have hq : (acc ++ f0.flatMap slotB).length + (numB (cs.length : Int)).length < 140737488355328 := by
      rw [← List.append_assoc, List.length_append, List.length_append] at hN; omega
    rw [if_neg (by omega), four_f (len_ok h), Option.bind_some, if_pos hq]
theorem row_ev {x : PA.S43} (h : okRw x) (hN : (rowB x).length ≤ 1000000000) : Ev (fun k => PA.proctorref38_row.f k x.f0 x.f1) (rowB x) := by
  have h0 := rowl0_ev h.1 h.2 (numB (x.f0.length : Int)) hN
  refine Ev.congr (fun k => ?_) h0
  unfold PA.proctorref38_row.f
  rw [four_f (len_ok h.1), Option.bind_some]
section
variable (a b c d : Int)
theorem Bl1_ev (l4 : List (List PA.S45)) {l5 : List PA.S43} (h : okL okRw l5) (acc : List Int) (hN : (acc ++ l5.flatMap rowB).length ≤ 1000000000) : Ev (fun k => PA.proctorref38_Bytes.l1 k acc 0 a b c d l4 l5) (acc ++ l5.flatMap rowB) := by
  refine Ev_app (g := fun k s i => PA.proctorref38_Bytes.l1 k s i a b c d l4 l5) (l := l5) (z := PA.z43) (enc := rowB) ?_ acc hN ?_
  · intro i s hi hb hr
    have hx := row_ev (h.2 _ (getD_mem' (z := PA.z43) hi)) (by omega)
    refine Ev.step (f := fun k => (PA.proctorref38_row.f k (l5.getD i PA.z43).f0 (l5.getD i PA.z43).f1).bind fun t => if s.length + t.length < 140737488355328 then PA.proctorref38_Bytes.l1 k (s ++ t) ((i + 1 : Nat) : Int) a b c d l4 l5 else none) (fun k => ?_) (Ev.bind hx ?_)
    · rw [PA.proctorref38_Bytes.l1]
      rw [rd43]
      rw [if_pos (by omega), if_pos (by omega), wrapN hi (by have := h.1; omega)]
    · refine Ev.congr (fun k => ?_) hr
      rw [if_pos (by omega)]
  · refine Ev.step (f := fun k => some (acc ++ l5.flatMap rowB)) (fun k => ?_) (Ev.now _)
    rw [PA.proctorref38_Bytes.l1]
    rw [if_neg (by omega)]
theorem Bl0_ev {l4 : List (List PA.S45)} {l5 : List PA.S43} (h4 : okL (okL okV) l4) (h : okL okRw l5) (acc : List Int) (hN : (acc ++ l4.flatMap (listB keyB) ++ listB rowB l5).length ≤ 1000000000) : Ev (fun k => PA.proctorref38_Bytes.l0 k acc 0 a b c d l4 l5) (acc ++ l4.flatMap (listB keyB) ++ listB rowB l5) := by
  have hlb : listB rowB l5 = numB (l5.length : Int) ++ l5.flatMap rowB := rfl
  refine Ev_app (g := fun k s i => PA.proctorref38_Bytes.l0 k s i a b c d l4 l5) (l := l4) (z := []) (enc := listB keyB) ?_ acc (by rw [List.length_append] at hN; omega) ?_
  · intro i s hi hb hr
    have hx := values_ev (h4.2 _ (getD_mem' (z := []) hi)) (by omega)
    refine Ev.step (f := fun k => (PA.proctorref38_values.f k (l4.getD i [])).bind fun t => if s.length + t.length < 140737488355328 then PA.proctorref38_Bytes.l0 k (s ++ t) ((i + 1 : Nat) : Int) a b c d l4 l5 else none) (fun k => ?_) (Ev.bind hx ?_)
    · rw [PA.proctorref38_Bytes.l0]
      rw [rdL4]
      rw [if_pos (by omega), if_pos (by omega), wrapN hi (by have := h4.1; omega)]
    · refine Ev.congr (fun k => ?_) hr
      rw [if_pos (by omega)]
  · rw [hlb] at hN ⊢
    have h1 := Bl1_ev a b c d l4 h (acc ++ l4.flatMap (listB keyB) ++ numB (l5.length : Int)) (by rw [← List.append_assoc] at hN; exact hN)
    rw [List.append_assoc _ (numB _) _] at h1
    refine Ev.step (fun k => ?_) h1
    rw [PA.proctorref38_Bytes.l0]
    have hq : (acc ++ l4.flatMap (listB keyB)).length + (numB (l5.length : Int)).length < 140737488355328 := by
      rw [← List.append_assoc, List.length_append, List.length_append] at hN; omega
    rw [if_neg (by omega), four_f (len_ok h), Option.bind_some, if_pos hq]
theorem Bytes_ev {l4 : List (List PA.S45)} {l5 : List PA.S43} (h : okS a b c d l4 l5) (hN : (snapB a b c d l4 l5).length ≤ 1000000000) : Ev (fun k => PA.proctorref38_Bytes.f k a b c d l4 l5) (snapB a b c d l4 l5) := by
  obtain ⟨⟨ha, hb, hc, hd⟩, h4, h5⟩ := h
  have e : snapB a b c d l4 l5 = ([81] ++ numB a ++ numB b ++ numB c ++ numB d ++ numB (l4.length : Int)) ++ l4.flatMap (listB keyB) ++ listB rowB l5 := by
    have hl : listB (listB keyB) l4 = numB (l4.length : Int) ++ l4.flatMap (listB keyB) := rfl
    unfold snapB
    rw [hl]
    simp
  rw [e] at hN ⊢
  refine Ev.congr (fun k => ?_) (Bl0_ev a b c d h4 h5 _ hN)
  simp only [PA.proctorref38_Bytes.f, Option.bind_some, four_f ha, four_f hb, four_f hc, four_f hd, four_f (len_ok h4)]
  rw [if_pos (by simp [numB]), if_pos (by simp [numB]), if_pos (by simp [numB]), if_pos (by simp [numB]), if_pos (by simp [numB])]
end
end Go.Proofs.YtpidhnnckolapaaGreatDoor.K
namespace Go.Proofs.YtpidhnnckolapaaGreatDoor.K
open Go.RowKit Go.Proofs.YtpidhnnckolapaaGreatDoorW.PrintWords Go.Proofs.YtpidhnnckolapaaGreatDoorW.PrintLast
set_option linter.unusedVariables false
set_option linter.unusedSimpArgs false
theorem Same_l1 (l : List (List PA.S45)) (i : Nat) (hi : i < l.length) (hl : (l.getD i []).length ≤ NMAX) (h : Ev (fun k => PA.proctorref20_Same.l0 k l l (wrap64 ((i : Int) + 1))) true) : Ev (fun k => PA.proctorref20_Same.l1 k l l (i : Int) 0) true := by
  unfold NMAX at hl
  refine Ev_fold (g := fun k (_ : Unit) j => PA.proctorref20_Same.l1 k l l (i : Int) j) (l := l.getD i []) (z := PA.z45) (step := fun _ _ => ()) (ok := fun _ _ => True) ?_ () (fun _ _ => trivial) ?_
  · intro j o hj _ hr
    refine Ev.step (fun k => ?_) hr
    rw [PA.proctorref20_Same.l1]
    rw [rdL4, rd45]
    rw [if_pos (by omega), if_pos (by omega), if_pos (by omega), if_pos (by omega), if_pos (by omega), if_pos (by omega), wrapN hj hl]
    rw [if_neg (by simp)]
  · refine Ev.step (fun k => ?_) h
    rw [PA.proctorref20_Same.l1]
    rw [rdL4]
    rw [if_pos (by omega), if_pos (by omega), if_neg (by omega)]
theorem Same_ev (l : List (List PA.S45)) (h4 : l.length ≤ NMAX) (hl : ∀ y ∈ l, y.length ≤ NMAX) : Ev (fun k => PA.proctorref20_Same.f k l l) true := by
  refine Ev.congr (f := fun k => PA.proctorref20_Same.l0 k l l 0) (fun k => by unfold PA.proctorref20_Same.f; rw [if_pos rfl]) ?_
  refine Ev_fold (g := fun k (_ : Unit) i => PA.proctorref20_Same.l0 k l l i) (l := l) (z := []) (step := fun _ _ => ()) (ok := fun _ _ => True) ?_ () (fun _ _ => trivial) ?_
  · intro i o hi _ hr
    rw [← wrapN hi h4] at hr
    refine Ev.step (fun k => ?_) (Same_l1 l i hi (hl _ (getD_mem' hi)) hr)
    rw [PA.proctorref20_Same.l0]
    rw [if_pos (by omega), if_pos (by omega), if_pos (by omega), if_pos rfl]
  · refine Ev.step (f := fun k => some true) (fun k => ?_) (Ev.now _)
    rw [PA.proctorref20_Same.l0]
    rw [if_neg (by omega)]
theorem same_ev {a b c d : Int} {l4 : List (List PA.S45)} {l5 : List PA.S43} (h : okS a b c d l4 l5) (hN : (snapB a b c d l4 l5).length ≤ 1000000000) : Ev (fun k => PA.proctorlaw38_same.f k a b c d l4 l5 a b c d l4 l5) true := by
  have hs := Same_ev l4 (by have := h.2.1.1; unfold NMAX; omega) (fun y hy => by have := (h.2.1.2 y hy).1; unfold NMAX; omega)
  have hb := Bytes_ev a b c d h hN
  refine Ev.congr (f := fun k => PA.proctorlaw38_same.j0 k false a b c d l4 l5 a b c d l4 l5) (fun k => by unfold PA.proctorlaw38_same.f; rw [if_pos rfl, if_pos rfl, if_pos rfl, if_pos rfl]; simp) ?_
  refine Ev.step (f := fun k => (PA.proctorref20_Same.f k l4 l4).bind fun t => if t = true then ((PA.proctorref38_Bytes.f k a b c d l4 l5).bind fun t1 => (PA.proctorref38_Bytes.f k a b c d l4 l5).bind fun t2 => some ((strOfNums t1).toList == (strOfNums t2).toList)) else some false) (fun k => ?_) (Ev.bind hs ?_)
  · rw [PA.proctorlaw38_same.j0, if_neg (by decide)]
  · simp only [if_true]
    refine Ev.bind hb (Ev.bind hb ?_)
    refine Ev.congr (f := fun _ => some true) (fun k => by simp) (Ev.now _)
theorem okV_size {x : PA.S45} (h : okV x) : x.f2.size ≤ 1000000000 := by
  rcases right_cases h.1 with e | ⟨_, hs⟩ | e
  · rw [e]; exact Nat.zero_le _
  · omega
  · rw [e]; exact Nat.zero_le _
theorem wfS_of_ok {a b c d : Int} {l4 : List (List PA.S45)} {l5 : List PA.S43} (h : okS a b c d l4 l5) : wfS l4 l5 := by
  obtain ⟨_, h4, h5⟩ := h
  have hv : ∀ x, okV x → wfV x := fun x hx => ⟨hx.2, okV_size hx⟩
  exact ⟨fun y hy z hz => hv z ((h4.2 y hy).2 z hz), fun y hy => ⟨fun z hz => hv _ ((h5.2 y hy).1.2 z hz).2, fun z hz u hu => hv u (((h5.2 y hy).2.2 z hz).2.2 u hu)⟩⟩
end Go.Proofs.YtpidhnnckolapaaGreatDoor.K
