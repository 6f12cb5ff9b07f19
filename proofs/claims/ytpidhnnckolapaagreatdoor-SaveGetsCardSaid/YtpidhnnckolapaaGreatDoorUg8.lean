/- The reader of package save: values and slots, the lists. -/
import Derived.RegionTactic
import Derived.ChangeAlike
import Derived.BigRegion
import Derived.Test.YtpidhnnckolapaaGreatDoorUg7
namespace Go.Proofs.YtpidhnnckolapaaGreatDoor.K
open Go.RowKit Go.Proofs.YtpidhnnckolapaaGreatDoorW.PrintWords Go.Proofs.YtpidhnnckolapaaGreatDoorW.PrintLast
set_option linter.unusedVariables false
set_option linter.unusedSimpArgs false
set_option maxHeartbeats 800000 in
set_option maxRecDepth 100000 in
theorem Cut_calls {w : World} {A : Option Addr} {c n : Nat} {l : List Int} (hn : l.length = n) (hr : ReadsInt w .u8 A n l) (hc : n ≤ c) (hb8 : ∀ x ∈ l, 0 ≤ x ∧ x ≤ 255) (hsz : n ≤ 100000000000000) (x : PA.S45) (k : Nat) (hx : cutOut (cutV l) = (x, k)) :
    Calls Tryz.prog 61 #[.slice A n c] w fun e w' => e = .returned (.tuple #[aggV x, .int .i64 (k : Int), .bool (decide (0 < k))]) ∧ Below w.heap.size w w' := by
  have hcall := cut_calls hn (hr.below (below_alloc (Below.refl _ _) (.cells #[.int .i64 0, .int .i64 0, .string ⟨#[]⟩, .bool false] 45))) hc hb8 hsz
  rw [hx] at hcall
  simp only [aggV] at hcall ⊢
  clear hx hb8 hr hn
  go_enter Tryz.func61, Tryz.ntmps61
  go_wp2_with fail
  refine hcall.mono ?_
  rintro e w1 ⟨rfl, hb⟩
  have hblk : w1.heap[w.heap.size]? = some (.cells #[.int .i64 0, .int .i64 0, .string ⟨#[]⟩, .bool false] 45 (0, 0)) := blk_below (blk_new w _) hb
  have hc0 := (blk_cell hblk 0).trans rfl
  have hc1 := (blk_cell hblk 1).trans rfl
  have hc2 := (blk_cell hblk 2).trans rfl
  have hc3 := (blk_cell hblk 3).trans rfl
  have hz0 := blk_frozen hblk 0
  have hz1 := blk_frozen hblk 1
  have hz2 := blk_frozen hblk 2
  have hz3 := blk_frozen hblk 3
  have HB := Aside0.mk hb
  have hl := blk_lt hblk
  have HK := Aside0.mk hblk
  clear hblk hb hcall
  go_wp2
  refine bodyPost_ret (results_ctt rfl _ _ w.heap.size 45 _ (0, 0) _ rfl (blk_box (put4 HK.out _ _ _ _)) Tryz.underlying45 rfl (by kernel_rfl)) rfl ⟨rfl, ?_⟩
  exact below_alloc (below_put4 (below_then (below_alloc (Below.refl _ _) _) (by simp) HB.out) (Nat.le_refl _) _ _ _ _) _
theorem gb_put4 {w w1 : World} {P g : Nat} (h : w.grownBy w1 (some P)) (hg : w.heap.size ≤ g) (a b c d : Value) :
    w.grownBy ((((w1.setCell ⟨g, 0, none⟩ a).setCell ⟨g, 1, none⟩ b).setCell ⟨g, 2, none⟩ c).setCell ⟨g, 3, none⟩ d) (some P) :=
  gb_new (gb_new (gb_new (gb_new h (q := ⟨g, 0, none⟩) hg a) (q := ⟨g, 1, none⟩) hg b) (q := ⟨g, 2, none⟩) hg c) (q := ⟨g, 3, none⟩) hg d
theorem PL.put4 {w0 w : World} {P : Nat} {A : Option Addr} {n : Nat} {bs : List Int} {p g : Nat} (h : PL w0 w P A n bs p) (hne : ¬ P = g) (hg : w0.heap.size ≤ g) (a b c d : Value) :
    PL w0 ((((w.setCell ⟨g, 0, none⟩ a).setCell ⟨g, 1, none⟩ b).setCell ⟨g, 2, none⟩ c).setCell ⟨g, 3, none⟩ d) P A n bs p :=
  (((h.other (q := ⟨g, 0, none⟩) hne hg a).other (q := ⟨g, 1, none⟩) hne hg b).other (q := ⟨g, 2, none⟩) hne hg c).other (q := ⟨g, 3, none⟩) hne hg d
set_option maxHeartbeats 800000 in
set_option maxRecDepth 100000 in
theorem val_some {w0 w : World} {P : Nat} {A : Option Addr} {c : Nat} {bs : List Int} {p : Nat} (h : PL w0 w P A c bs p) {x : PA.S45} {k : Nat} (hx : cutV (bs.drop p) = some (x, k)) (hk : 0 < k) (hkl : p + k ≤ bs.length) :
      Calls Tryz.prog 42 #[.agg #[.pointer (some ⟨P, 0, none⟩)]] w fun e w' => e = .returned (.tuple #[aggV x, .nilIface]) ∧ w.grownBy w' (some P) ∧ PL w0 w' P A c bs (p + k) := by
  have H1 := (h.alloc (.cells #[.pointer (some ⟨P, 0, none⟩)] 82)).alloc (.cells #[.int .i64 0, .int .i64 0, .string ⟨#[]⟩, .bool false] 45)
  obtain ⟨A', c', hl, hr, hcall⟩ := rest_calls H1
  have hCut := fun m => Cut_calls (A := A') (c := c') (n := (bs.drop p).length) rfl (hr.below (H1.drewN m).bel) hl (fun y hy => h.by8 y (List.mem_of_mem_drop hy)) (by have := h.sz; rw [List.length_drop]; omega) x k (by rw [hx]; rfl)
  have HPL := Aside0.mk h.lt
  have H0 := Aside0.mk h.bel.size
  have HH1 := Aside0.mk H1
  have hk' : decide (0 < k) = true := by simpa using hk
  have hsz := h.sz
  have hle := h.le
  clear hr hl h H1 hx
  generalize (bs.drop p).length = n at *
  simp only [aggV] at hCut ⊢
  go_enter Tryz.func42, Tryz.ntmps42
  go_wp2_with fail
  refine hcall.mono ?_
  rintro e w' ⟨rfl, ⟨m, rfl⟩⟩
  clear hcall
  go_wp2_with fail
  refine (hCut m).mono ?_
  rintro e w1 ⟨rfl, hb⟩
  clear hCut
  have HP := (HH1.out.drewN m).below hb
  have HP1 := Aside0.mk HP
  have hc1 := HP.c1
  have hz1 := HP.z1
  have hl1 := HP.lt
  have hbw : Below w.heap.size w w1 := below_then (pw_below_drewN (below_alloc (below_alloc (Below.refl _ _) _) _) m) (by simp; omega) hb
  have hblk : w1.heap[w.heap.size + 1]? = some (.cells #[.int .i64 0, .int .i64 0, .string ⟨#[]⟩, .bool false] 45 (0, 0)) := blk_below (by have := blk_new (w.alloc (.cells #[.pointer (some ⟨P, 0, none⟩)] 82)) (.cells #[.int .i64 0, .int .i64 0, .string ⟨#[]⟩, .bool false] 45); simpa using this) hb
  have hbox : w1.heap[w.heap.size]? = some (.cells #[.pointer (some ⟨P, 0, none⟩)] 82 (0, 0)) := blk_below (w := ((w.alloc (.cells #[.pointer (some ⟨P, 0, none⟩)] 82)).alloc (.cells #[.int .i64 0, .int .i64 0, .string ⟨#[]⟩, .bool false] 45)).drewN m) (blk_box (blk_new w (.cells #[.pointer (some ⟨P, 0, none⟩)] 82))) hb
  have hbx := (blk_cell hbox 0).trans rfl
  have hl3 := blk_lt hbox
  have hPlt := HPL.out
  have hne1 : ¬ P = w.heap.size + 1 := by omega
  have hne2 : ¬ w.heap.size + 1 = P := by omega
  clear hbox hPlt
  have hc0 := (blk_cell hblk 0).trans rfl
  have hd1 := (blk_cell hblk 1).trans rfl
  have hc2 := (blk_cell hblk 2).trans rfl
  have hc3 := (blk_cell hblk 3).trans rfl
  have hf0 := blk_frozen hblk 0
  have hf1 := blk_frozen hblk 1
  have hf2 := blk_frozen hblk 2
  have hf3 := blk_frozen hblk 3
  have hl2 := blk_lt hblk
  have HK := Aside0.mk hblk
  have HBW := Aside0.mk hbw
  clear hblk hbw hb HP
  go_wp2
  refine bodyPost_ret (results_ct rfl _ _ (w.heap.size + 1) 45 _ (0, 0) _ rfl (blk_box (put4 (blk_far HK.out hne2 _) _ _ _ _)) Tryz.underlying45 rfl (by kernel_rfl)) rfl ⟨rfl, ?_, ?_⟩
  · exact gb_trans (gb_put4 (gb_trans (gb_below HBW.out) (gb_set _ _ _ _)) (by omega) _ _ _ _) (gb_alloc _ _ _)
  · exact PL.alloc (PL.put4 (HP1.out.set (p + k) hkl) hne1 (by have := HBW.out.size; have := HP1.out.bel; have := HPL.out; have := H0.out; omega) _ _ _ _) _
set_option maxHeartbeats 800000 in
set_option maxRecDepth 100000 in
theorem val_none {w0 w : World} {P : Nat} {A : Option Addr} {c : Nat} {bs : List Int} {p : Nat} {ea : Addr} (h : PL w0 w P A c bs p) (hE : HasE w0 ea) (hx : cutV (bs.drop p) = none) :
      Calls Tryz.prog 42 #[.agg #[.pointer (some ⟨P, 0, none⟩)]] w fun e w' => e = .returned (.tuple #[aggV PA.z45, .iface 345 (.pointer (some ea))]) ∧ Below w.heap.size w w' := by
  have H1 := (h.alloc (.cells #[.pointer (some ⟨P, 0, none⟩)] 82)).alloc (.cells #[.int .i64 0, .int .i64 0, .string ⟨#[]⟩, .bool false] 45)
  obtain ⟨A', c', hl, hr, hcall⟩ := rest_calls H1
  have hCut := fun m => Cut_calls (A := A') (c := c') (n := (bs.drop p).length) rfl (hr.below (H1.drewN m).bel) hl (fun y hy => h.by8 y (List.mem_of_mem_drop hy)) (by have := h.sz; rw [List.length_drop]; omega) PA.z45 0 (by rw [hx]; rfl)
  have HH1 := Aside0.mk H1
  have hk' : decide (0 < 0) = false := rfl
  clear hr hl h H1 hx
  generalize (bs.drop p).length = n at *
  simp only [aggV, PA.z45] at hCut ⊢
  go_enter Tryz.func42, Tryz.ntmps42
  go_wp2_with fail
  refine hcall.mono ?_
  rintro e w' ⟨rfl, ⟨m, rfl⟩⟩
  clear hcall
  go_wp2_with fail
  refine (hCut m).mono ?_
  rintro e w1 ⟨rfl, hb⟩
  clear hCut
  have HP := (HH1.out.drewN m).below hb
  have hbw : Below w.heap.size w w1 := below_then (pw_below_drewN (below_alloc (below_alloc (Below.refl _ _) _) _) m) (by simp; omega) hb
  have hblk : w1.heap[w.heap.size + 1]? = some (.cells #[.int .i64 0, .int .i64 0, .string ⟨#[]⟩, .bool false] 45 (0, 0)) := blk_below (by have := blk_new (w.alloc (.cells #[.pointer (some ⟨P, 0, none⟩)] 82)) (.cells #[.int .i64 0, .int .i64 0, .string ⟨#[]⟩, .bool false] 45); simpa using this) hb
  have he0 := hE.now HP.bel
  have hl0 : 0 < w1.heap.size := by have := HP.lt; omega
  have hc0 := (blk_cell hblk 0).trans rfl
  have hd1 := (blk_cell hblk 1).trans rfl
  have hc2 := (blk_cell hblk 2).trans rfl
  have hc3 := (blk_cell hblk 3).trans rfl
  have hf0 := blk_frozen hblk 0
  have hf1 := blk_frozen hblk 1
  have hf2 := blk_frozen hblk 2
  have hf3 := blk_frozen hblk 3
  have hl2 := blk_lt hblk
  have HK := Aside0.mk hblk
  have HBW := Aside0.mk hbw
  clear hblk hbw hb HP
  go_wp2
  go_region
  go_wp2
  refine bodyPost_ret (results_ct rfl _ _ (w.heap.size + 1) 45 _ (0, 0) _ rfl (blk_drew (blk_box (put4 HK.out _ _ _ _))) Tryz.underlying45 rfl (by kernel_rfl)) rfl ⟨rfl, ?_⟩
  exact below_drew (below_alloc (below_put4 HBW.out (by omega) _ _ _ _) _)
end Go.Proofs.YtpidhnnckolapaaGreatDoor.K
namespace Go.Proofs.YtpidhnnckolapaaGreatDoor.K
open Go.RowKit Go.Proofs.YtpidhnnckolapaaGreatDoorW.PrintWords Go.Proofs.YtpidhnnckolapaaGreatDoorW.PrintLast
set_option linter.unusedVariables false
set_option linter.unusedSimpArgs false
abbrev D (α : Type) := List Int → Option (α × Nat)
def dRep {α : Type} (d : D α) : Nat → List Int → Option (List α × Nat)
  | 0, _ => some ([], 0)
  | n + 1, l => match d l with
    | none => none
    | some q => (dRep d n (l.drop q.2)).map fun t => (q.1 :: t.1, q.2 + t.2)
def dList {α : Type} (d : D α) : D (List α) := fun l => match take4 l with
  | none => none
  | some q => if (q.2.length : Int) < q.1 then none else (dRep d q.1.toNat q.2).map fun t => (t.1, t.2 + 4)
/-- A decoder takes no more than there is. -/
def Fits {α : Type} (d : D α) : Prop := ∀ l x k, d l = some (x, k) → k ≤ l.length
theorem dRep_fits {α : Type} {d : D α} (h : Fits d) : ∀ n, Fits (dRep d n) := by
  intro n
  induction n with
  | zero => intro l x k e; simp [dRep] at e; omega
  | succ n ih =>
    intro l x k e
    rw [dRep] at e
    cases hd : d l with
    | none => rw [hd] at e; cases e
    | some q =>
      rw [hd] at e
      obtain ⟨t, ht, e⟩ := Option.map_eq_some_iff.1 e
      have h1 := h l q.1 q.2 hd
      have h2 := ih _ t.1 t.2 ht
      rw [List.length_drop] at h2
      simp only [Prod.mk.injEq] at e
      omega
theorem take4_drop {l : List Int} {n : Int} {r : List Int} (h : take4 l = some (n, r)) : r = l.drop 4 ∧ 4 ≤ l.length := by
  match l, h with
  | b0 :: b1 :: b2 :: b3 :: rs, h =>
    simp only [take4] at h
    split at h
    · simp only [Option.some.injEq, Prod.mk.injEq] at h
      exact ⟨h.2.symm, by simp⟩
    · cases h
theorem take4_range {l : List Int} {n : Int} {r : List Int} (h8 : ∀ x ∈ l, 0 ≤ x ∧ x ≤ 255) (h : take4 l = some (n, r)) : 0 ≤ n ∧ n ≤ 2147483647 := by
  match l, h, h8 with
  | b0 :: b1 :: b2 :: b3 :: rs, h, h8 =>
    simp only [take4] at h
    split at h
    · simp only [Option.some.injEq, Prod.mk.injEq, num4] at h
      have h0 := h8 b0 (by simp)
      have h1 := h8 b1 (by simp)
      have h2 := h8 b2 (by simp)
      have h3 := h8 b3 (by simp)
      omega
    · cases h
theorem dList_fits {α : Type} {d : D α} (h : Fits d) : Fits (dList d) := by
  intro l x k e
  unfold dList at e
  cases hq : take4 l with
  | none => rw [hq] at e; cases e
  | some q =>
    rw [hq] at e
    obtain ⟨h1, h2⟩ := take4_drop (n := q.1) (r := q.2) hq
    simp only at e
    split at e
    · cases e
    · obtain ⟨t, ht, e⟩ := Option.map_eq_some_iff.1 e
      have h3 := dRep_fits h _ _ t.1 t.2 ht
      rw [h1, List.length_drop] at h3
      simp only [Prod.mk.injEq] at e
      omega
theorem cutV_fits : Fits cutV := by
  intro l x k e
  match l, e with
  | b :: y :: r, e =>
    simp only [cutV] at e
    split at e
    · split at e
      · cases e; simp
      · cases e
    · split at e
      · cases hq : cutT (y :: r) with
        | none => rw [hq] at e; cases e
        | some q =>
          rw [hq] at e
          have hp := cutT_pos _ q hq
          simp only at e
          split at e
          · cases e; simp at hp ⊢; omega
          · cases e
      · split at e
        · split at e
          · rename_i h8; cases e; simp at h8 ⊢; omega
          · cases e
        · cases e
theorem cutV_pos {l : List Int} {x : PA.S45} {k : Nat} (e : cutV l = some (x, k)) : 0 < k := by
  match l, e with
  | b :: y :: r, e =>
    simp only [cutV] at e
    split at e
    · split at e
      · cases e; decide
      · cases e
    · split at e
      · cases hq : cutT (y :: r) with
        | none => rw [hq] at e; cases e
        | some q =>
          rw [hq] at e
          simp only at e
          split at e
          · cases e; omega
          · cases e
      · split at e
        · split at e
          · cases e; decide
          · cases e
        · cases e
/-- Within a list: what is left of it. -/
def RepInv {α : Type} (d : D α) (l : List Int) (n i : Nat) (xs : List α) (k : Nat) : Prop := dRep d n l = (dRep d (n - i) (l.drop k)).map fun t => (xs ++ t.1, k + t.2)
theorem RepInv.start {α : Type} (d : D α) (l : List Int) (n : Nat) : RepInv d l n 0 [] 0 := by unfold RepInv; simp
theorem RepInv.step {α : Type} {d : D α} {l : List Int} {n i : Nat} {xs : List α} {k : Nat} (h : RepInv d l n i xs k) (hi : i < n) {x : α} {j : Nat} (hd : d (l.drop k) = some (x, j)) : RepInv d l n (i + 1) (xs ++ [x]) (k + j) := by
  unfold RepInv at *
  rw [h, show n - i = (n - (i + 1)) + 1 by omega, dRep, hd]
  simp only [List.drop_drop]
  cases dRep d (n - (i + 1)) (l.drop (k + j)) <;> simp; omega
theorem RepInv.none {α : Type} {d : D α} {l : List Int} {n i : Nat} {xs : List α} {k : Nat} (h : RepInv d l n i xs k) (hi : i < n) (hd : d (l.drop k) = none) : dRep d n l = none := by
  unfold RepInv at h
  rw [h, show n - i = (n - (i + 1)) + 1 by omega, dRep, hd]; rfl
theorem RepInv.done {α : Type} {d : D α} {l : List Int} {n : Nat} {xs : List α} {k : Nat} (h : RepInv d l n n xs k) : dRep d n l = some (xs, k) := by
  unfold RepInv at h
  rw [h, Nat.sub_self, dRep]; simp
end Go.Proofs.YtpidhnnckolapaaGreatDoor.K
namespace Go.Proofs.YtpidhnnckolapaaGreatDoor.K
open Go.RowKit Go.Proofs.YtpidhnnckolapaaGreatDoorW.PrintWords Go.Proofs.YtpidhnnckolapaaGreatDoorW.PrintLast
set_option linter.unusedVariables false
set_option linter.unusedSimpArgs false
theorem put2 {w : World} {g : Nat} {t : TypeId} {a b : Value} (h : w.heap[g]? = some (.cells #[a, b] t (0, 0))) (a' b' : Value) :
    ((w.setCell ⟨g, 0, none⟩ a').setCell ⟨g, 1, none⟩ b').heap[g]? = some (.cells #[a', b'] t (0, 0)) := blk_put (blk_put h 0 a' rfl) 1 b' rfl
theorem put5 {w : World} {g : Nat} {t : TypeId} {a b c d e : Value} (h : w.heap[g]? = some (.cells #[a, b, c, d, e] t (0, 0))) (a' b' c' d' e' : Value) :
    (((((w.setCell ⟨g, 0, none⟩ a').setCell ⟨g, 1, none⟩ b').setCell ⟨g, 2, none⟩ c').setCell ⟨g, 3, none⟩ d').setCell ⟨g, 4, none⟩ e').heap[g]? = some (.cells #[a', b', c', d', e'] t (0, 0)) :=
  blk_put (blk_put (blk_put (blk_put (blk_put h 0 a' rfl) 1 b' rfl) 2 c' rfl) 3 d' rfl) 4 e' rfl
theorem gb_put5 {w w1 : World} {P g : Nat} (h : w.grownBy w1 (some P)) (hg : w.heap.size ≤ g) (a b c d e : Value) :
    w.grownBy (((((w1.setCell ⟨g, 0, none⟩ a).setCell ⟨g, 1, none⟩ b).setCell ⟨g, 2, none⟩ c).setCell ⟨g, 3, none⟩ d).setCell ⟨g, 4, none⟩ e) (some P) :=
  gb_new (gb_put4 h hg a b c d) (q := ⟨g, 4, none⟩) hg e
theorem PL.put5 {w0 w : World} {P : Nat} {A : Option Addr} {n : Nat} {bs : List Int} {p g : Nat} (h : PL w0 w P A n bs p) (hne : ¬ P = g) (hg : w0.heap.size ≤ g) (a b c d e : Value) :
    PL w0 (((((w.setCell ⟨g, 0, none⟩ a).setCell ⟨g, 1, none⟩ b).setCell ⟨g, 2, none⟩ c).setCell ⟨g, 3, none⟩ d).setCell ⟨g, 4, none⟩ e) P A n bs p :=
  (h.put4 hne hg a b c d).other (q := ⟨g, 4, none⟩) hne hg e
theorem gb_put2 {w w1 : World} {P g : Nat} (h : w.grownBy w1 (some P)) (hg : w.heap.size ≤ g) (a b : Value) :
    w.grownBy ((w1.setCell ⟨g, 0, none⟩ a).setCell ⟨g, 1, none⟩ b) (some P) := gb_new (gb_new h (q := ⟨g, 0, none⟩) hg a) (q := ⟨g, 1, none⟩) hg b
theorem PL.put2 {w0 w : World} {P : Nat} {A : Option Addr} {n : Nat} {bs : List Int} {p g : Nat} (h : PL w0 w P A n bs p) (hne : ¬ P = g) (hg : w0.heap.size ≤ g) (a b : Value) :
    PL w0 ((w.setCell ⟨g, 0, none⟩ a).setCell ⟨g, 1, none⟩ b) P A n bs p := (h.other (q := ⟨g, 0, none⟩) hne hg a).other (q := ⟨g, 1, none⟩) hne hg b
def dSlot : D PA.S47 := fun l => match take4 l with
  | none => none
  | some q => (cutV q.2).map fun t => (⟨q.1, t.1⟩, 4 + t.2)
set_option maxHeartbeats 1600000 in
set_option maxRecDepth 100000 in
theorem slot_some {w0 w : World} {P : Nat} {A : Option Addr} {c : Nat} {bs : List Int} {p : Nat} (h : PL w0 w P A c bs p) {x : PA.S47} {k : Nat} (hd : dSlot (bs.drop p) = some (x, k)) :
      Calls Tryz.prog 63 #[.agg #[.pointer (some ⟨P, 0, none⟩)]] w fun e w' =>
        e = .returned (.tuple #[.agg #[.int .i64 x.f0, .int .i64 x.f1.f0, .int .i64 x.f1.f1, .string x.f1.f2, .bool x.f1.f3], .nilIface]) ∧ w.grownBy w' (some P) ∧ PL w0 w' P A c bs (p + k) := by
  unfold dSlot at hd
  cases hq : take4 (bs.drop p) with
  | none => rw [hq] at hd; cases hd
  | some q =>
  rw [hq] at hd
  obtain ⟨t, ht, e⟩ := Option.map_eq_some_iff.1 hd
  simp only [Prod.mk.injEq] at e
  obtain ⟨rfl, rfl⟩ := e
  obtain ⟨n, rs⟩ := q
  obtain ⟨y, j⟩ := t
  simp only at ht ⊢
  obtain ⟨h1, h2⟩ := take4_drop hq
  rw [h1, List.drop_drop] at ht
  have hfit := cutV_fits _ _ _ ht
  rw [List.length_drop] at hfit h2
  have hpos := cutV_pos ht
  have H1 := (h.alloc (.cells #[.pointer (some ⟨P, 0, none⟩)] 82)).alloc (.cells #[.int .i64 0, .int .i64 0, .int .i64 0, .string ⟨#[]⟩, .bool false] 47)
  have hnum := num_some H1 hq
  have hP := h.lt
  have HP := Aside0.mk h
  have HT := Aside0.mk ht
  clear hd hq h h1 H1
  go_enter Tryz.func63, Tryz.ntmps63
  go_wp2_with fail
  refine hnum.mono ?_
  rintro e w1 ⟨rfl, hg1, hp1⟩
  clear hnum
  have hlt : w.heap.size + 1 < w1.heap.size := by have := hg1.size; simp at this; omega
  have hbox : w1.heap[w.heap.size]? = some (.cells #[.pointer (some ⟨P, 0, none⟩)] 82 (0, 0)) := gb_blk (blk_box (blk_new w _)) hg1 (by omega)
  have hres : w1.heap[w.heap.size + 1]? = some (.cells #[.int .i64 0, .int .i64 0, .int .i64 0, .string ⟨#[]⟩, .bool false] 47 (0, 0)) := gb_blk (by have := blk_new (w.alloc (.cells #[.pointer (some ⟨P, 0, none⟩)] 82)) (.cells #[.int .i64 0, .int .i64 0, .int .i64 0, .string ⟨#[]⟩, .bool false] 47); simpa using this) hg1 (by omega)
  have hbx := (blk_cell hbox 0).trans rfl
  have hval := val_some hp1 HT.out hpos (by omega)
  simp only [aggV] at hval
  have HG1 := Aside0.mk hg1
  have HRES := Aside0.mk hres
  clear hg1 hp1 hbox hres
  go_wp2_with fail
  refine hval.mono ?_
  rintro e w2 ⟨rfl, hg2, hp2⟩
  clear hval hbx
  have hres := gb_blk HRES.out hg2 (by omega)
  have hc0 := (blk_cell hres 0).trans rfl
  have hc1 := (blk_cell hres 1).trans rfl
  have hc2 := (blk_cell hres 2).trans rfl
  have hc3 := (blk_cell hres 3).trans rfl
  have hc4 := (blk_cell hres 4).trans rfl
  have hz0 := blk_frozen hres 0
  have hz1 := blk_frozen hres 1
  have hz2 := blk_frozen hres 2
  have hz3 := blk_frozen hres 3
  have hz4 := blk_frozen hres 4
  have hl2 := blk_lt hres
  have HR2 := Aside0.mk hres
  have HG2 := Aside0.mk (gb_trans (gb_trans (gb_trans (gb_alloc w _ P) (gb_alloc _ _ _)) HG1.out) hg2)
  have HP2 := Aside0.mk hp2
  clear hres hg2 hp2 HG1 HRES
  go_wp2
  refine bodyPost_ret (results_ct rfl _ _ (w.heap.size + 1) 47 _ (0, 0) _ rfl (blk_box (put5 HR2.out _ _ _ _ _)) Tryz.underlying47 rfl (by kernel_rfl)) rfl ⟨rfl, ?_, ?_⟩
  · exact gb_trans (gb_put5 HG2.out (by omega) _ _ _ _ _) (gb_alloc _ _ _)
  · rw [← Nat.add_assoc]
    exact PL.alloc (PL.put5 HP2.out (by omega) (by have := HP.out.bel.size; omega) _ _ _ _ _) _
set_option maxHeartbeats 1600000 in
set_option maxRecDepth 100000 in
theorem slot_none1 {w0 w : World} {P : Nat} {A : Option Addr} {c : Nat} {bs : List Int} {p : Nat} {ea : Addr} (h : PL w0 w P A c bs p) (hE : HasE w0 ea) (hq : take4 (bs.drop p) = none) :
      Calls Tryz.prog 63 #[.agg #[.pointer (some ⟨P, 0, none⟩)]] w fun e w' =>
        e = .returned (.tuple #[.agg #[.int .i64 0, .int .i64 0, .int .i64 0, .string ⟨#[]⟩, .bool false], .iface 345 (.pointer (some ea))]) ∧ w.grownBy w' (some P) := by
  have H1 := (h.alloc (.cells #[.pointer (some ⟨P, 0, none⟩)] 82)).alloc (.cells #[.int .i64 0, .int .i64 0, .int .i64 0, .string ⟨#[]⟩, .bool false] 47)
  have hnum := num_none H1 hE hq
  have hP := h.lt
  clear hq h H1
  go_enter Tryz.func63, Tryz.ntmps63
  go_wp2_with fail
  refine hnum.mono ?_
  rintro e w1 ⟨rfl, hb1⟩
  clear hnum
  have hg1 := gb_below (P := P) hb1
  have hres : w1.heap[w.heap.size + 1]? = some (.cells #[.int .i64 0, .int .i64 0, .int .i64 0, .string ⟨#[]⟩, .bool false] 47 (0, 0)) := gb_blk (by have := blk_new (w.alloc (.cells #[.pointer (some ⟨P, 0, none⟩)] 82)) (.cells #[.int .i64 0, .int .i64 0, .int .i64 0, .string ⟨#[]⟩, .bool false] 47); simpa using this) hg1 (by omega)
  have hc0 := (blk_cell hres 0).trans rfl
  have hc1 := (blk_cell hres 1).trans rfl
  have hc2 := (blk_cell hres 2).trans rfl
  have hc3 := (blk_cell hres 3).trans rfl
  have hc4 := (blk_cell hres 4).trans rfl
  have hz0 := blk_frozen hres 0
  have hz1 := blk_frozen hres 1
  have hz2 := blk_frozen hres 2
  have hz3 := blk_frozen hres 3
  have hz4 := blk_frozen hres 4
  have hl2 := blk_lt hres
  have HR2 := Aside0.mk hres
  have HG2 := Aside0.mk (gb_trans (gb_trans (gb_alloc w _ P) (gb_alloc _ _ _)) hg1)
  clear hres hg1 hb1
  go_wp2
  refine bodyPost_ret (results_ct rfl _ _ (w.heap.size + 1) 47 _ (0, 0) _ rfl (put5 HR2.out _ _ _ _ _) Tryz.underlying47 rfl (by kernel_rfl)) rfl ⟨rfl, ?_⟩
  exact gb_put5 HG2.out (by omega) _ _ _ _ _
set_option maxHeartbeats 1600000 in
set_option maxRecDepth 100000 in
theorem slot_none2 {w0 w : World} {P : Nat} {A : Option Addr} {c : Nat} {bs : List Int} {p : Nat} {ea : Addr} (h : PL w0 w P A c bs p) (hE : HasE w0 ea) {n : Int} {rs : List Int} (hq : take4 (bs.drop p) = some (n, rs)) (ht : cutV rs = none) :
      Calls Tryz.prog 63 #[.agg #[.pointer (some ⟨P, 0, none⟩)]] w fun e w' =>
        e = .returned (.tuple #[.agg #[.int .i64 n, .int .i64 0, .int .i64 0, .string ⟨#[]⟩, .bool false], .iface 345 (.pointer (some ea))]) ∧ w.grownBy w' (some P) := by
  obtain ⟨h1, h2⟩ := take4_drop hq
  rw [h1, List.drop_drop] at ht
  have H1 := (h.alloc (.cells #[.pointer (some ⟨P, 0, none⟩)] 82)).alloc (.cells #[.int .i64 0, .int .i64 0, .int .i64 0, .string ⟨#[]⟩, .bool false] 47)
  have hnum := num_some H1 hq
  have hP := h.lt
  have HT := Aside0.mk ht
  clear hq h h1 H1 h2
  go_enter Tryz.func63, Tryz.ntmps63
  go_wp2_with fail
  refine hnum.mono ?_
  rintro e w1 ⟨rfl, hg1, hp1⟩
  clear hnum
  have hlt : w.heap.size + 1 < w1.heap.size := by have := hg1.size; simp at this; omega
  have hbox : w1.heap[w.heap.size]? = some (.cells #[.pointer (some ⟨P, 0, none⟩)] 82 (0, 0)) := gb_blk (blk_box (blk_new w _)) hg1 (by omega)
  have hres : w1.heap[w.heap.size + 1]? = some (.cells #[.int .i64 0, .int .i64 0, .int .i64 0, .string ⟨#[]⟩, .bool false] 47 (0, 0)) := gb_blk (by have := blk_new (w.alloc (.cells #[.pointer (some ⟨P, 0, none⟩)] 82)) (.cells #[.int .i64 0, .int .i64 0, .int .i64 0, .string ⟨#[]⟩, .bool false] 47); simpa using this) hg1 (by omega)
  have hbx := (blk_cell hbox 0).trans rfl
  have hval := val_none hp1 hE HT.out
  simp only [aggV, PA.z45] at hval
  have HG1 := Aside0.mk hg1
  have HRES := Aside0.mk hres
  clear hg1 hp1 hbox hres
  go_wp2_with fail
  refine hval.mono ?_
  rintro e w2 ⟨rfl, hb2⟩
  clear hval hbx
  have hg2 := gb_below (P := P) hb2
  have hres := gb_blk HRES.out hg2 (by omega)
  have hc0 := (blk_cell hres 0).trans rfl
  have hc1 := (blk_cell hres 1).trans rfl
  have hc2 := (blk_cell hres 2).trans rfl
  have hc3 := (blk_cell hres 3).trans rfl
  have hc4 := (blk_cell hres 4).trans rfl
  have hz0 := blk_frozen hres 0
  have hz1 := blk_frozen hres 1
  have hz2 := blk_frozen hres 2
  have hz3 := blk_frozen hres 3
  have hz4 := blk_frozen hres 4
  have hl2 := blk_lt hres
  have HR2 := Aside0.mk hres
  have HG2 := Aside0.mk (gb_trans (gb_trans (gb_trans (gb_alloc w _ P) (gb_alloc _ _ _)) HG1.out) hg2)
  clear hres hg2 HG1 HRES hb2
  go_wp2
  refine bodyPost_ret (results_ct rfl _ _ (w.heap.size + 1) 47 _ (0, 0) _ rfl (blk_box (put5 HR2.out _ _ _ _ _)) Tryz.underlying47 rfl (by kernel_rfl)) rfl ⟨rfl, ?_⟩
  exact gb_trans (gb_put5 HG2.out (by omega) _ _ _ _ _) (gb_alloc _ _ _)
theorem slot_none {w0 w : World} {P : Nat} {A : Option Addr} {c : Nat} {bs : List Int} {p : Nat} {ea : Addr} (h : PL w0 w P A c bs p) (hE : HasE w0 ea) (hd : dSlot (bs.drop p) = none) :
      Calls Tryz.prog 63 #[.agg #[.pointer (some ⟨P, 0, none⟩)]] w fun e w' =>
        ∃ n : Int, e = .returned (.tuple #[.agg #[.int .i64 n, .int .i64 0, .int .i64 0, .string ⟨#[]⟩, .bool false], .iface 345 (.pointer (some ea))]) ∧ w.grownBy w' (some P) := by
  unfold dSlot at hd
  cases hq : take4 (bs.drop p) with
  | none => exact (slot_none1 h hE hq).mono fun e w' hh => ⟨0, hh⟩
  | some q =>
    rw [hq] at hd
    have ht : cutV q.2 = none := by simpa using hd
    exact (slot_none2 h hE (n := q.1) (rs := q.2) hq ht).mono fun e w' hh => ⟨_, hh⟩
theorem dSlot_fits : Fits dSlot := by
  intro l x k e
  unfold dSlot at e
  cases hq : take4 l with
  | none => rw [hq] at e; cases e
  | some q =>
    rw [hq] at e
    obtain ⟨t, ht, e⟩ := Option.map_eq_some_iff.1 e
    obtain ⟨h1, h2⟩ := take4_drop (n := q.1) (r := q.2) hq
    have h3 := cutV_fits _ t.1 t.2 ht
    rw [h1, List.length_drop] at h3
    simp only [Prod.mk.injEq] at e
    omega
end Go.Proofs.YtpidhnnckolapaaGreatDoor.K
namespace Go.Proofs.YtpidhnnckolapaaGreatDoor.K
open Go.RowKit Go.Proofs.YtpidhnnckolapaaGreatDoorW.PrintWords Go.Proofs.YtpidhnnckolapaaGreatDoorW.PrintLast
set_option linter.unusedVariables false
set_option linter.unusedSimpArgs false
theorem gb_own {w W w1 : World} {P : Nat} {row : Option Nat} (h : w.grownBy W (some P)) (k : W.grownBy w1 row) (hr : ∀ j, row = some j → w.heap.size ≤ j) : w.grownBy w1 (some P) :=
  ⟨k.os.trans h.os, k.tape.trans h.tape, k.output.trans h.output, Nat.le_trans h.size k.size, fun j hj hne =>
    (k.block j (Nat.lt_of_lt_of_le hj h.size) (fun e => by have := hr j e.symm; omega)).trans (h.block j hj hne)⟩
theorem PL.grown {w0 w w1 : World} {P : Nat} {A : Option Addr} {c : Nat} {bs : List Int} {p : Nat} (h : PL w0 w P A c bs p) {row : Option Nat} (k : w.grownBy w1 row) (hr : ∀ j, row = some j → P < j) : PL w0 w1 P A c bs p :=
  ⟨blk_grown h.blk k (fun e => by have := hr P e.symm; omega), h.rd0, h.base, h.bel.grown k h.bel.size (fun j e => by have := hr j e; have := h.base; omega), h.cap, h.le, h.by8, h.sz⟩
theorem dList_eq {α : Type} (d : D α) (l : List Int) : dList d l = match take4 l with
  | none => none
  | some q => if (q.2.length : Int) < q.1 then none else (dRep d q.1.toNat q.2).map fun t => (t.1, t.2 + 4) := rfl
abbrev new (w : World) : Nat → Prop := fun k => w.heap.size ≤ k
theorem R_own_new {α : Type} {d : Kd α} {e : Nat} {W w : World} {base : Nat} {v : Value} {xs : List α} (h : d.R e W base (new w) v xs) : ∀ j, v.ownBlock = some j → w.heap.size ≤ j := h.1
/-- What was made in the call is none of the row's blocks. -/
theorem okp_new {α : Type} {d : Kd α} {e : Nat} {wr w : World} {base : Nat} {v : Value} {xs : List α} (h : d.R e wr base (new w) v xs) (hs : w.heap.size ≤ wr.heap.size) : ∀ k, new wr k → new w k ∧ some k ≠ v.ownBlock :=
  fun k hk => ⟨Nat.le_trans hs hk, fun e => by have := Kd.R_lt h k e.symm; simp only [new] at hk; omega⟩
theorem info45 : (Tryz.prog.info? 45).map (fun i => (i.zero, i.size, i.bytes)) = some (some (.agg #[(.int .i64 0), (.int .i64 0), (.string ⟨#[]⟩), (.bool false)]), 4, 40) := by kernel_rfl
set_option maxHeartbeats 1600000 in
set_option maxRecDepth 100000 in
theorem list41_some {w0 w : World} {P : Nat} {A : Option Addr} {c : Nat} {bs : List Int} {p : Nat} (h : PL w0 w P A c bs p) {xs : List PA.S45} {k : Nat} (hd : dList cutV (bs.drop p) = some (xs, k)) :
      Calls Tryz.prog 41 #[.agg #[.pointer (some ⟨P, 0, none⟩)], .func (.func 42) #[.agg #[.pointer (some ⟨P, 0, none⟩)]] #[]] w fun e w' =>
        ∃ A' c', e = .returned (.tuple #[.slice A' xs.length c', .nilIface]) ∧ Kd.R PA.k45 45 w' w.heap.size (new w) (.slice A' xs.length c') xs ∧ w.grownBy w' (some P) ∧ PL w0 w' P A c bs (p + k) := by
  rw [dList_eq] at hd
  cases hq : take4 (bs.drop p) with
  | none => rw [hq] at hd; cases hd
  | some q =>
  rw [hq] at hd
  simp only at hd
  split at hd
  · cases hd
  rename_i hlen
  obtain ⟨t, ht, e⟩ := Option.map_eq_some_iff.1 hd
  simp only [Prod.mk.injEq] at e
  obtain ⟨rfl, rfl⟩ := e
  obtain ⟨n, rs⟩ := q
  simp only at hlen ht
  obtain ⟨h1, h2⟩ := take4_drop hq
  have hnr := take4_range (fun x hx => h.by8 x (List.mem_of_mem_drop hx)) hq
  obtain ⟨N, rfl⟩ := Int.eq_ofNat_of_zero_le hnr.1
  rw [Int.toNat_natCast] at ht
  have H1 := h.alloc (.cells #[.pointer (some ⟨P, 0, none⟩)] 82)
  have hnum := num_some H1 hq
  have hrs : rs = bs.drop (p + 4) := by rw [h1, List.drop_drop]
  have HN := Aside0.mk ht
  have HRS := Aside0.mk hrs
  have hN : N ≤ 2147483647 := by omega
  have hP := h.lt
  clear hd hq h h1 h2 hnr H1 hrs ht
  go_enter Tryz.func41, Tryz.ntmps41
  go_wp2_with fail
  refine hnum.mono ?_
  rintro e w1 ⟨rfl, hg1, hp1⟩
  clear hnum
  have hlt : w.heap.size < w1.heap.size := by have := hg1.size; simp at this; omega
  have hbox : w1.heap[w.heap.size]? = some (.cells #[.pointer (some ⟨P, 0, none⟩)] 82 (0, 0)) := gb_blk (blk_new w _) hg1 (by omega)
  have hbx := (blk_cell hbox 0).trans rfl
  obtain ⟨A', c', hl, hr, hcall⟩ := rest_calls hp1
  have hgt : decide ((bs.drop (p + 4)).length < N) = false := by rw [← HRS.out]; simp at hlen ⊢; omega
  generalize (bs.drop (p + 4)).length = m at *
  have HG1 := Aside0.mk hg1
  have HP1 := Aside0.mk hp1
  clear hg1 hp1 hbox hr hl hlen
  go_wp2_with fail
  refine hcall.mono ?_
  rintro e w2 ⟨rfl, ⟨m2, rfl⟩⟩
  clear hcall
  go_wp2_with fail
  go_loopw [8, 28] (fun v8 v28 wr => ∃ (i : Nat) (ys : List PA.S45) (k : Nat), i ≤ N ∧ v28 = .int .i64 (i : Int) ∧ Aside0 (RepInv cutV rs N i ys k) ∧ Aside0 (ys.length = i) ∧ Aside0 (Kd.R PA.k45 45 wr w.heap.size (new w) v8 ys) ∧ Aside0 (w.grownBy wr (some P)) ∧ Aside0 (PL w0 wr P A c bs (p + 4 + k))) (fun _ v28 _ => N - (intOf v28).toNat)
  case atStart =>
    exact ⟨0, [], 0, Nat.zero_le _, rfl, ⟨RepInv.start _ _ _⟩, ⟨rfl⟩, ⟨Kd.R_nil _ _ _ _ _⟩, ⟨gb_trans (gb_trans (gb_alloc _ _ _) HG1.out) (gb_drewN _ _ _)⟩, ⟨HP1.out.drewN m2⟩⟩
  case round =>
    obtain ⟨i, ys, k, hi, rfl, HI, HYL, HO, HG, HPL⟩ := hrel
    by_cases hiN : i < N
    · obtain ⟨x, j, hx⟩ : ∃ x j, cutV (rs.drop k) = some (x, j) := by
        cases hv : cutV (rs.drop k) with
        | none => have := HI.out.none hiN hv; rw [HN.out] at this; cases this
        | some q => exact ⟨q.1, q.2, rfl⟩
      have HX := Aside0.mk hx
      have hx2 : cutV (bs.drop (p + 4 + k)) = some (x, j) := by rw [← List.drop_drop, ← HRS.out]; exact hx
      have hfit := cutV_fits _ _ _ hx2
      rw [List.length_drop] at hfit
      have hle := HPL.out.le
      have hval := val_some HPL.out hx2 (cutV_pos hx2) (by omega)
      have hd1 : decide (i < N) = true := by simpa using hiN
      have hysz : ys.length ≤ 2147483647 := by rw [HYL.out]; omega
      simp only [aggV] at hval
      clear hx hx2 hle hfit
      go_wp2_with fail
      refine hval.mono ?_
      rintro e w3 ⟨rfl, hg3, hp3⟩
      clear hval
      have HO3 := Aside0.mk (Kd.R_grown HO.out hg3 (fun q hq e => by injection e with e; subst e; exact absurd hq (by simp [new]; omega)))
      have HG3 := Aside0.mk (gb_trans HG.out hg3)
      have HP3 := Aside0.mk hp3
      clear hg3 hp3 HO HG HPL
      have hbase : w.heap.size ≤ w3.heap.size := HG3.out.size
      go_wp2_with (first | ((with_reducible refine gate_builtin (b := .append) (xs := #[.tmp 38, .tmp 40]) rfl ?_); at_builtin; go_loud (refine Kd.R_append PA.k45 (w0 := w3.alloc (.cells #[.int .i64 x.f0, .int .i64 x.f1, .string x.f2, .bool x.f3] 45)) w.heap.size rfl (.tmp 38) (.tmp 40) 38 45 (.agg #[(.int .i64 0), (.int .i64 0), (.string ⟨#[]⟩), (.bool false)]) 40 rfl Tryz.underlying38 info45 rfl (by decide) (by omega) u8 ys x [.int .i64 x.f0, .int .i64 x.f1, .string x.f2, .bool x.f3] (new w) (fun _ => False) rfl ?hxx (PA.k45_mkM _ _ _ _) (fun _ hk => hk.elim) (fun q hq => ?hfr) (Kd.R_alloc HO3.out _) (Below.refl _ _) ?hba ?hsz ?_); (case hxx => show Value.slice (some ⟨w3.heap.size + 1, 0, none⟩) 1 1 = _; simp); (case hfr => simp at hq; exact Nat.le_trans hbase (by omega)); (case hba => simp; omega); (case hsz => omega); intro v4 w4 ho hb hg hat; have HO4 := Aside0.mk ho; have HG4 := Aside0.mk (gb_own (gb_trans HG3.out (gb_alloc _ _ _)) hg (R_own_new HO3.out)); have HP4 := Aside0.mk ((HP3.out.alloc _).grown hg (fun q hq => Nat.lt_of_lt_of_le hP (R_own_new HO3.out q hq))); clear ho hb hg hat HO3 HG3 HP3))
      go_roundw
      case rel => exact ⟨i + 1, ys ++ [x], k + j, by omega, by go_num, ⟨HI.out.step hiN HX.out⟩, ⟨by rw [List.length_append, HYL.out]; rfl⟩, HO4, HG4, ⟨by rw [← Nat.add_assoc]; exact HP4.out⟩⟩
      case measure => simp [intOf]; omega
    · have hNi : i = N := by omega
      subst hNi
      have HE := Aside0.mk (HI.out.done)
      have hd1 : decide (i < i) = false := by simp
      clear hiN
      go_wp2
      go_ret2
      have e := HE.out
      rw [HN.out] at e
      obtain rfl := Option.some.inj e
      obtain ⟨A', c', hv⟩ := Kd.R_slice HO.out
      exact ⟨A', c', by rw [← hv]; rfl, by rw [← hv]; exact HO.out, HG.out, by have := HPL.out; rwa [show p + (k + 4) = p + 4 + k by omega]⟩
set_option maxHeartbeats 1600000 in
set_option maxRecDepth 100000 in
theorem list41_none1 {w0 w : World} {P : Nat} {A : Option Addr} {c : Nat} {bs : List Int} {p : Nat} {ea : Addr} (h : PL w0 w P A c bs p) (hE : HasE w0 ea) (hq : take4 (bs.drop p) = none) :
      Calls Tryz.prog 41 #[.agg #[.pointer (some ⟨P, 0, none⟩)], .func (.func 42) #[.agg #[.pointer (some ⟨P, 0, none⟩)]] #[]] w fun e w' =>
        e = .returned (.tuple #[.slice none 0 0, .iface 345 (.pointer (some ea))]) ∧ w.grownBy w' (some P) := by
  have H1 := h.alloc (.cells #[.pointer (some ⟨P, 0, none⟩)] 82)
  have hnum := num_none H1 hE hq
  have HP := Aside0.mk h
  clear hq h H1
  go_enter Tryz.func41, Tryz.ntmps41
  go_wp2_with fail
  refine hnum.mono ?_
  rintro e w1 ⟨rfl, hb1⟩
  clear hnum
  have he := hE.now (below_then (below_alloc (Below.refl _ _) _) (by simp) hb1 |> fun q => below_then HP.out.bel HP.out.bel.size q)
  have HG := Aside0.mk (gb_trans (gb_alloc w (.cells #[.pointer (some ⟨P, 0, none⟩)] 82) P) (gb_below hb1))
  clear hb1
  go_wp2_with fail
  go_quiet (fail)
  go_wp2
  go_ret2
  exact ⟨rfl, gb_trans HG.out (gb_drewN _ _ _)⟩
set_option maxHeartbeats 1600000 in
set_option maxRecDepth 100000 in
theorem list41_none2 {w0 w : World} {P : Nat} {A : Option Addr} {c : Nat} {bs : List Int} {p : Nat} {ea : Addr} (h : PL w0 w P A c bs p) (hE : HasE w0 ea) {n : Int} {rs : List Int} (hq : take4 (bs.drop p) = some (n, rs)) (hlen : (rs.length : Int) < n) :
      Calls Tryz.prog 41 #[.agg #[.pointer (some ⟨P, 0, none⟩)], .func (.func 42) #[.agg #[.pointer (some ⟨P, 0, none⟩)]] #[]] w fun e w' =>
        e = .returned (.tuple #[.slice none 0 0, .iface 345 (.pointer (some ea))]) ∧ w.grownBy w' (some P) := by
  obtain ⟨h1, h2⟩ := take4_drop hq
  have hnr := take4_range (fun x hx => h.by8 x (List.mem_of_mem_drop hx)) hq
  obtain ⟨N, rfl⟩ := Int.eq_ofNat_of_zero_le hnr.1
  have H1 := h.alloc (.cells #[.pointer (some ⟨P, 0, none⟩)] 82)
  have hnum := num_some H1 hq
  have hrs : rs = bs.drop (p + 4) := by rw [h1, List.drop_drop]
  have HRS := Aside0.mk hrs
  have hP := h.lt
  clear hq h h1 h2 hnr H1 hrs
  go_enter Tryz.func41, Tryz.ntmps41
  go_wp2_with fail
  refine hnum.mono ?_
  rintro e w1 ⟨rfl, hg1, hp1⟩
  clear hnum
  have hlt : w.heap.size < w1.heap.size := by have := hg1.size; simp at this; omega
  have hbox : w1.heap[w.heap.size]? = some (.cells #[.pointer (some ⟨P, 0, none⟩)] 82 (0, 0)) := gb_blk (blk_new w _) hg1 (by omega)
  have hbx := (blk_cell hbox 0).trans rfl
  obtain ⟨A', c', hl, hr, hcall⟩ := rest_calls hp1
  have hgt : decide ((bs.drop (p + 4)).length < N) = true := by rw [← HRS.out]; simp at hlen ⊢; omega
  generalize (bs.drop (p + 4)).length = m at *
  have HG1 := Aside0.mk hg1
  have HP1 := Aside0.mk hp1
  clear hg1 hp1 hbox hr hl hlen
  go_wp2_with fail
  refine hcall.mono ?_
  rintro e w2 ⟨rfl, ⟨m2, rfl⟩⟩
  clear hcall
  have he : w1.cell? ⟨0, 0, none⟩ = some (.iface 345 (.pointer (some ea))) := hE.now HP1.out.bel
  go_wp2_with fail
  go_quiet (fail)
  go_wp2
  go_ret2
  exact ⟨rfl, gb_trans (gb_trans (gb_trans (gb_alloc _ _ _) HG1.out) (gb_drewN _ _ _)) (gb_drewN _ _ _)⟩
set_option maxHeartbeats 1600000 in
set_option maxRecDepth 100000 in
theorem list41_none3 {w0 w : World} {P : Nat} {A : Option Addr} {c : Nat} {bs : List Int} {p : Nat} {ea : Addr} (h : PL w0 w P A c bs p) (hE : HasE w0 ea) {n : Int} {rs : List Int} (hq : take4 (bs.drop p) = some (n, rs)) (hlen : ¬ (rs.length : Int) < n) (ht : dRep cutV n.toNat rs = none) :
      Calls Tryz.prog 41 #[.agg #[.pointer (some ⟨P, 0, none⟩)], .func (.func 42) #[.agg #[.pointer (some ⟨P, 0, none⟩)]] #[]] w fun e w' =>
        e = .returned (.tuple #[.slice none 0 0, .iface 345 (.pointer (some ea))]) ∧ w.grownBy w' (some P) := by
  obtain ⟨h1, h2⟩ := take4_drop hq
  have hnr := take4_range (fun x hx => h.by8 x (List.mem_of_mem_drop hx)) hq
  obtain ⟨N, rfl⟩ := Int.eq_ofNat_of_zero_le hnr.1
  rw [Int.toNat_natCast] at ht
  have H1 := h.alloc (.cells #[.pointer (some ⟨P, 0, none⟩)] 82)
  have hnum := num_some H1 hq
  have hrs : rs = bs.drop (p + 4) := by rw [h1, List.drop_drop]
  have HN := Aside0.mk ht
  have HRS := Aside0.mk hrs
  have hN : N ≤ 2147483647 := by omega
  have hP := h.lt
  clear hq h h1 h2 hnr H1 hrs ht
  go_enter Tryz.func41, Tryz.ntmps41
  go_wp2_with fail
  refine hnum.mono ?_
  rintro e w1 ⟨rfl, hg1, hp1⟩
  clear hnum
  have hlt : w.heap.size < w1.heap.size := by have := hg1.size; simp at this; omega
  have hbox : w1.heap[w.heap.size]? = some (.cells #[.pointer (some ⟨P, 0, none⟩)] 82 (0, 0)) := gb_blk (blk_new w _) hg1 (by omega)
  have hbx := (blk_cell hbox 0).trans rfl
  obtain ⟨A', c', hl, hr, hcall⟩ := rest_calls hp1
  have hgt : decide ((bs.drop (p + 4)).length < N) = false := by rw [← HRS.out]; simp at hlen ⊢; omega
  generalize (bs.drop (p + 4)).length = m at *
  have HG1 := Aside0.mk hg1
  have HP1 := Aside0.mk hp1
  clear hg1 hp1 hbox hr hl hlen
  go_wp2_with fail
  refine hcall.mono ?_
  rintro e w2 ⟨rfl, ⟨m2, rfl⟩⟩
  clear hcall
  go_wp2_with fail
  go_loopw [8, 28] (fun v8 v28 wr => ∃ (i : Nat) (ys : List PA.S45) (k : Nat), i ≤ N ∧ v28 = .int .i64 (i : Int) ∧ Aside0 (RepInv cutV rs N i ys k) ∧ Aside0 (ys.length = i) ∧ Aside0 (Kd.R PA.k45 45 wr w.heap.size (new w) v8 ys) ∧ Aside0 (w.grownBy wr (some P)) ∧ Aside0 (PL w0 wr P A c bs (p + 4 + k))) (fun _ v28 _ => N - (intOf v28).toNat)
  case atStart =>
    exact ⟨0, [], 0, Nat.zero_le _, rfl, ⟨RepInv.start _ _ _⟩, ⟨rfl⟩, ⟨Kd.R_nil _ _ _ _ _⟩, ⟨gb_trans (gb_trans (gb_alloc _ _ _) HG1.out) (gb_drewN _ _ _)⟩, ⟨HP1.out.drewN m2⟩⟩
  case round =>
    obtain ⟨i, ys, k, hi, rfl, HI, HYL, HO, HG, HPL⟩ := hrel
    by_cases hiN : i < N
    · cases hx : cutV (rs.drop k) with
      | some q =>
      obtain ⟨x, j⟩ := q
      have HX := Aside0.mk hx
      have hx2 : cutV (bs.drop (p + 4 + k)) = some (x, j) := by rw [← List.drop_drop, ← HRS.out]; exact hx
      have hfit := cutV_fits _ _ _ hx2
      rw [List.length_drop] at hfit
      have hle := HPL.out.le
      have hval := val_some HPL.out hx2 (cutV_pos hx2) (by omega)
      have hd1 : decide (i < N) = true := by simpa using hiN
      have hysz : ys.length ≤ 2147483647 := by rw [HYL.out]; omega
      simp only [aggV] at hval
      clear hx hx2 hle hfit
      go_wp2_with fail
      refine hval.mono ?_
      rintro e w3 ⟨rfl, hg3, hp3⟩
      clear hval
      have HO3 := Aside0.mk (Kd.R_grown HO.out hg3 (fun q hq e => by injection e with e; subst e; exact absurd hq (by simp [new]; omega)))
      have HG3 := Aside0.mk (gb_trans HG.out hg3)
      have HP3 := Aside0.mk hp3
      clear hg3 hp3 HO HG HPL
      have hbase : w.heap.size ≤ w3.heap.size := HG3.out.size
      go_wp2_with (first | ((with_reducible refine gate_builtin (b := .append) (xs := #[.tmp 38, .tmp 40]) rfl ?_); at_builtin; go_loud (refine Kd.R_append PA.k45 (w0 := w3.alloc (.cells #[.int .i64 x.f0, .int .i64 x.f1, .string x.f2, .bool x.f3] 45)) w.heap.size rfl (.tmp 38) (.tmp 40) 38 45 (.agg #[(.int .i64 0), (.int .i64 0), (.string ⟨#[]⟩), (.bool false)]) 40 rfl Tryz.underlying38 info45 rfl (by decide) (by omega) u8 ys x [.int .i64 x.f0, .int .i64 x.f1, .string x.f2, .bool x.f3] (new w) (fun _ => False) rfl ?hxx (PA.k45_mkM _ _ _ _) (fun _ hk => hk.elim) (fun q hq => ?hfr) (Kd.R_alloc HO3.out _) (Below.refl _ _) ?hba ?hsz ?_); (case hxx => show Value.slice (some ⟨w3.heap.size + 1, 0, none⟩) 1 1 = _; simp); (case hfr => simp at hq; exact Nat.le_trans hbase (by omega)); (case hba => simp; omega); (case hsz => omega); intro v4 w4 ho hb hg hat; have HO4 := Aside0.mk ho; have HG4 := Aside0.mk (gb_own (gb_trans HG3.out (gb_alloc _ _ _)) hg (R_own_new HO3.out)); have HP4 := Aside0.mk ((HP3.out.alloc _).grown hg (fun q hq => Nat.lt_of_lt_of_le hP (R_own_new HO3.out q hq))); clear ho hb hg hat HO3 HG3 HP3))
      go_roundw
      case rel => exact ⟨i + 1, ys ++ [x], k + j, by omega, by go_num, ⟨HI.out.step hiN HX.out⟩, ⟨by rw [List.length_append, HYL.out]; rfl⟩, HO4, HG4, ⟨by rw [← Nat.add_assoc]; exact HP4.out⟩⟩
      case measure => simp [intOf]; omega
      | none =>
      have hx2 : cutV (bs.drop (p + 4 + k)) = none := by rw [← List.drop_drop, ← HRS.out]; exact hx
      have hval := val_none HPL.out hE hx2
      have hd1 : decide (i < N) = true := by simpa using hiN
      simp only [aggV, PA.z45] at hval
      clear hx hx2
      go_wp2_with fail
      refine hval.mono ?_
      rintro e w3 ⟨rfl, hb3⟩
      clear hval
      have hg3 := gb_below (P := P) hb3
      have HG3 := Aside0.mk (gb_trans HG.out hg3)
      clear hg3 HO HG HPL
      go_wp2
      go_ret2
      exact ⟨rfl, gb_trans HG3.out (gb_alloc _ _ _)⟩
    · have hNi : i = N := by omega
      subst hNi
      have e := HI.out.done
      rw [HN.out] at e
      cases e
theorem list41_none {w0 w : World} {P : Nat} {A : Option Addr} {c : Nat} {bs : List Int} {p : Nat} {ea : Addr} (h : PL w0 w P A c bs p) (hE : HasE w0 ea) (hd : dList cutV (bs.drop p) = none) :
      Calls Tryz.prog 41 #[.agg #[.pointer (some ⟨P, 0, none⟩)], .func (.func 42) #[.agg #[.pointer (some ⟨P, 0, none⟩)]] #[]] w fun e w' =>
        e = .returned (.tuple #[.slice none 0 0, .iface 345 (.pointer (some ea))]) ∧ w.grownBy w' (some P) := by
  rw [dList_eq] at hd
  cases hq : take4 (bs.drop p) with
  | none => exact list41_none1 h hE hq
  | some q =>
    rw [hq] at hd
    simp only at hd
    split at hd
    · rename_i hl; exact list41_none2 h hE (n := q.1) (rs := q.2) hq hl
    · rename_i hl; exact list41_none3 h hE (n := q.1) (rs := q.2) hq hl (by simpa using hd)
theorem info47 : (Tryz.prog.info? 47).map (fun i => (i.zero, i.size, i.bytes)) = some (some (.agg #[(.int .i64 0), (.int .i64 0), (.int .i64 0), (.string ⟨#[]⟩), (.bool false)]), 5, 48) := by kernel_rfl
set_option maxHeartbeats 1600000 in
set_option maxRecDepth 100000 in
theorem list62_some {w0 w : World} {P : Nat} {A : Option Addr} {c : Nat} {bs : List Int} {p : Nat} (h : PL w0 w P A c bs p) {xs : List PA.S47} {k : Nat} (hd : dList dSlot (bs.drop p) = some (xs, k)) :
      Calls Tryz.prog 62 #[.agg #[.pointer (some ⟨P, 0, none⟩)], .func (.func 63) #[.agg #[.pointer (some ⟨P, 0, none⟩)]] #[]] w fun e w' =>
        ∃ A' c', e = .returned (.tuple #[.slice A' xs.length c', .nilIface]) ∧ Kd.R PA.k47 47 w' w.heap.size (new w) (.slice A' xs.length c') xs ∧ w.grownBy w' (some P) ∧ PL w0 w' P A c bs (p + k) := by
  rw [dList_eq] at hd
  cases hq : take4 (bs.drop p) with
  | none => rw [hq] at hd; cases hd
  | some q =>
  rw [hq] at hd
  simp only at hd
  split at hd
  · cases hd
  rename_i hlen
  obtain ⟨t, ht, e⟩ := Option.map_eq_some_iff.1 hd
  simp only [Prod.mk.injEq] at e
  obtain ⟨rfl, rfl⟩ := e
  obtain ⟨n, rs⟩ := q
  simp only at hlen ht
  obtain ⟨h1, h2⟩ := take4_drop hq
  have hnr := take4_range (fun x hx => h.by8 x (List.mem_of_mem_drop hx)) hq
  obtain ⟨N, rfl⟩ := Int.eq_ofNat_of_zero_le hnr.1
  rw [Int.toNat_natCast] at ht
  have H1 := h.alloc (.cells #[.pointer (some ⟨P, 0, none⟩)] 82)
  have hnum := num_some H1 hq
  have hrs : rs = bs.drop (p + 4) := by rw [h1, List.drop_drop]
  have HN := Aside0.mk ht
  have HRS := Aside0.mk hrs
  have hN : N ≤ 2147483647 := by omega
  have hP := h.lt
  clear hd hq h h1 h2 hnr H1 hrs ht
  go_enter Tryz.func62, Tryz.ntmps62
  go_wp2_with fail
  refine hnum.mono ?_
  rintro e w1 ⟨rfl, hg1, hp1⟩
  clear hnum
  have hlt : w.heap.size < w1.heap.size := by have := hg1.size; simp at this; omega
  have hbox : w1.heap[w.heap.size]? = some (.cells #[.pointer (some ⟨P, 0, none⟩)] 82 (0, 0)) := gb_blk (blk_new w _) hg1 (by omega)
  have hbx := (blk_cell hbox 0).trans rfl
  obtain ⟨A', c', hl, hr, hcall⟩ := rest_calls hp1
  have hgt : decide ((bs.drop (p + 4)).length < N) = false := by rw [← HRS.out]; simp at hlen ⊢; omega
  generalize (bs.drop (p + 4)).length = m at *
  have HG1 := Aside0.mk hg1
  have HP1 := Aside0.mk hp1
  clear hg1 hp1 hbox hr hl hlen
  go_wp2_with fail
  refine hcall.mono ?_
  rintro e w2 ⟨rfl, ⟨m2, rfl⟩⟩
  clear hcall
  go_wp2_with fail
  go_loopw [8, 28] (fun v8 v28 wr => ∃ (i : Nat) (ys : List PA.S47) (k : Nat), i ≤ N ∧ v28 = .int .i64 (i : Int) ∧ Aside0 (RepInv dSlot rs N i ys k) ∧ Aside0 (ys.length = i) ∧ Aside0 (Kd.R PA.k47 47 wr w.heap.size (new w) v8 ys) ∧ Aside0 (w.grownBy wr (some P)) ∧ Aside0 (PL w0 wr P A c bs (p + 4 + k))) (fun _ v28 _ => N - (intOf v28).toNat)
  case atStart =>
    exact ⟨0, [], 0, Nat.zero_le _, rfl, ⟨RepInv.start _ _ _⟩, ⟨rfl⟩, ⟨Kd.R_nil _ _ _ _ _⟩, ⟨gb_trans (gb_trans (gb_alloc _ _ _) HG1.out) (gb_drewN _ _ _)⟩, ⟨HP1.out.drewN m2⟩⟩
  case round =>
    obtain ⟨i, ys, k, hi, rfl, HI, HYL, HO, HG, HPL⟩ := hrel
    by_cases hiN : i < N
    · obtain ⟨x, j, hx⟩ : ∃ x j, dSlot (rs.drop k) = some (x, j) := by
        cases hv : dSlot (rs.drop k) with
        | none => have := HI.out.none hiN hv; rw [HN.out] at this; cases this
        | some q => exact ⟨q.1, q.2, rfl⟩
      have HX := Aside0.mk hx
      have hx2 : dSlot (bs.drop (p + 4 + k)) = some (x, j) := by rw [← List.drop_drop, ← HRS.out]; exact hx
      have hfit := dSlot_fits _ _ _ hx2
      rw [List.length_drop] at hfit
      have hle := HPL.out.le
      have hval := slot_some HPL.out hx2
      have hd1 : decide (i < N) = true := by simpa using hiN
      have hysz : ys.length ≤ 2147483647 := by rw [HYL.out]; omega
      
      clear hx hx2 hle hfit
      go_wp2_with fail
      refine hval.mono ?_
      rintro e w3 ⟨rfl, hg3, hp3⟩
      clear hval
      have HO3 := Aside0.mk (Kd.R_grown HO.out hg3 (fun q hq e => by injection e with e; subst e; exact absurd hq (by simp [new]; omega)))
      have HG3 := Aside0.mk (gb_trans HG.out hg3)
      have HP3 := Aside0.mk hp3
      clear hg3 hp3 HO HG HPL
      have hbase : w.heap.size ≤ w3.heap.size := HG3.out.size
      go_wp2_with (first | ((with_reducible refine gate_builtin (b := .append) (xs := #[.tmp 38, .tmp 40]) rfl ?_); at_builtin; go_loud (refine Kd.R_append PA.k47 (w0 := w3.alloc (.cells #[.int .i64 x.f0, .int .i64 x.f1.f0, .int .i64 x.f1.f1, .string x.f1.f2, .bool x.f1.f3] 47)) w.heap.size rfl (.tmp 38) (.tmp 40) 40 47 (.agg #[(.int .i64 0), (.int .i64 0), (.int .i64 0), (.string ⟨#[]⟩), (.bool false)]) 48 rfl Tryz.underlying40 info47 rfl (by decide) (by omega) u8 ys x [.int .i64 x.f0, .int .i64 x.f1.f0, .int .i64 x.f1.f1, .string x.f1.f2, .bool x.f1.f3] (new w) (fun _ => False) rfl ?hxx (PA.k47_mkM _ _ _ _) (fun _ hk => hk.elim) (fun q hq => ?hfr) (Kd.R_alloc HO3.out _) (Below.refl _ _) ?hba ?hsz ?_); (case hxx => show Value.slice (some ⟨w3.heap.size + 1, 0, none⟩) 1 1 = _; simp); (case hfr => simp at hq; exact Nat.le_trans hbase (by omega)); (case hba => simp; omega); (case hsz => omega); intro v4 w4 ho hb hg hat; have HO4 := Aside0.mk ho; have HG4 := Aside0.mk (gb_own (gb_trans HG3.out (gb_alloc _ _ _)) hg (R_own_new HO3.out)); have HP4 := Aside0.mk ((HP3.out.alloc _).grown hg (fun q hq => Nat.lt_of_lt_of_le hP (R_own_new HO3.out q hq))); clear ho hb hg hat HO3 HG3 HP3))
      go_roundw
      case rel => exact ⟨i + 1, ys ++ [x], k + j, by omega, by go_num, ⟨HI.out.step hiN HX.out⟩, ⟨by rw [List.length_append, HYL.out]; rfl⟩, HO4, HG4, ⟨by rw [← Nat.add_assoc]; exact HP4.out⟩⟩
      case measure => simp [intOf]; omega
    · have hNi : i = N := by omega
      subst hNi
      have HE := Aside0.mk (HI.out.done)
      have hd1 : decide (i < i) = false := by simp
      clear hiN
      go_wp2
      go_ret2
      have e := HE.out
      rw [HN.out] at e
      obtain rfl := Option.some.inj e
      obtain ⟨A', c', hv⟩ := Kd.R_slice HO.out
      exact ⟨A', c', by rw [← hv]; rfl, by rw [← hv]; exact HO.out, HG.out, by have := HPL.out; rwa [show p + (k + 4) = p + 4 + k by omega]⟩
set_option maxHeartbeats 1600000 in
set_option maxRecDepth 100000 in
theorem list62_none1 {w0 w : World} {P : Nat} {A : Option Addr} {c : Nat} {bs : List Int} {p : Nat} {ea : Addr} (h : PL w0 w P A c bs p) (hE : HasE w0 ea) (hq : take4 (bs.drop p) = none) :
      Calls Tryz.prog 62 #[.agg #[.pointer (some ⟨P, 0, none⟩)], .func (.func 63) #[.agg #[.pointer (some ⟨P, 0, none⟩)]] #[]] w fun e w' =>
        e = .returned (.tuple #[.slice none 0 0, .iface 345 (.pointer (some ea))]) ∧ w.grownBy w' (some P) := by
  have H1 := h.alloc (.cells #[.pointer (some ⟨P, 0, none⟩)] 82)
  have hnum := num_none H1 hE hq
  have HP := Aside0.mk h
  clear hq h H1
  go_enter Tryz.func62, Tryz.ntmps62
  go_wp2_with fail
  refine hnum.mono ?_
  rintro e w1 ⟨rfl, hb1⟩
  clear hnum
  have he := hE.now (below_then (below_alloc (Below.refl _ _) _) (by simp) hb1 |> fun q => below_then HP.out.bel HP.out.bel.size q)
  have HG := Aside0.mk (gb_trans (gb_alloc w (.cells #[.pointer (some ⟨P, 0, none⟩)] 82) P) (gb_below hb1))
  clear hb1
  go_wp2_with fail
  go_quiet (fail)
  go_wp2
  go_ret2
  exact ⟨rfl, gb_trans HG.out (gb_drewN _ _ _)⟩
set_option maxHeartbeats 1600000 in
set_option maxRecDepth 100000 in
theorem list62_none2 {w0 w : World} {P : Nat} {A : Option Addr} {c : Nat} {bs : List Int} {p : Nat} {ea : Addr} (h : PL w0 w P A c bs p) (hE : HasE w0 ea) {n : Int} {rs : List Int} (hq : take4 (bs.drop p) = some (n, rs)) (hlen : (rs.length : Int) < n) :
      Calls Tryz.prog 62 #[.agg #[.pointer (some ⟨P, 0, none⟩)], .func (.func 63) #[.agg #[.pointer (some ⟨P, 0, none⟩)]] #[]] w fun e w' =>
        e = .returned (.tuple #[.slice none 0 0, .iface 345 (.pointer (some ea))]) ∧ w.grownBy w' (some P) := by
  obtain ⟨h1, h2⟩ := take4_drop hq
  have hnr := take4_range (fun x hx => h.by8 x (List.mem_of_mem_drop hx)) hq
  obtain ⟨N, rfl⟩ := Int.eq_ofNat_of_zero_le hnr.1
  have H1 := h.alloc (.cells #[.pointer (some ⟨P, 0, none⟩)] 82)
  have hnum := num_some H1 hq
  have hrs : rs = bs.drop (p + 4) := by rw [h1, List.drop_drop]
  have HRS := Aside0.mk hrs
  have hP := h.lt
  clear hq h h1 h2 hnr H1 hrs
  go_enter Tryz.func62, Tryz.ntmps62
  go_wp2_with fail
  refine hnum.mono ?_
  rintro e w1 ⟨rfl, hg1, hp1⟩
  clear hnum
  have hlt : w.heap.size < w1.heap.size := by have := hg1.size; simp at this; omega
  have hbox : w1.heap[w.heap.size]? = some (.cells #[.pointer (some ⟨P, 0, none⟩)] 82 (0, 0)) := gb_blk (blk_new w _) hg1 (by omega)
  have hbx := (blk_cell hbox 0).trans rfl
  obtain ⟨A', c', hl, hr, hcall⟩ := rest_calls hp1
  have hgt : decide ((bs.drop (p + 4)).length < N) = true := by rw [← HRS.out]; simp at hlen ⊢; omega
  generalize (bs.drop (p + 4)).length = m at *
  have HG1 := Aside0.mk hg1
  have HP1 := Aside0.mk hp1
  clear hg1 hp1 hbox hr hl hlen
  go_wp2_with fail
  refine hcall.mono ?_
  rintro e w2 ⟨rfl, ⟨m2, rfl⟩⟩
  clear hcall
  have he : w1.cell? ⟨0, 0, none⟩ = some (.iface 345 (.pointer (some ea))) := hE.now HP1.out.bel
  go_wp2_with fail
  go_quiet (fail)
  go_wp2
  go_ret2
  exact ⟨rfl, gb_trans (gb_trans (gb_trans (gb_alloc _ _ _) HG1.out) (gb_drewN _ _ _)) (gb_drewN _ _ _)⟩
set_option maxHeartbeats 1600000 in
set_option maxRecDepth 100000 in
theorem list62_none3 {w0 w : World} {P : Nat} {A : Option Addr} {c : Nat} {bs : List Int} {p : Nat} {ea : Addr} (h : PL w0 w P A c bs p) (hE : HasE w0 ea) {n : Int} {rs : List Int} (hq : take4 (bs.drop p) = some (n, rs)) (hlen : ¬ (rs.length : Int) < n) (ht : dRep dSlot n.toNat rs = none) :
      Calls Tryz.prog 62 #[.agg #[.pointer (some ⟨P, 0, none⟩)], .func (.func 63) #[.agg #[.pointer (some ⟨P, 0, none⟩)]] #[]] w fun e w' =>
        e = .returned (.tuple #[.slice none 0 0, .iface 345 (.pointer (some ea))]) ∧ w.grownBy w' (some P) := by
  obtain ⟨h1, h2⟩ := take4_drop hq
  have hnr := take4_range (fun x hx => h.by8 x (List.mem_of_mem_drop hx)) hq
  obtain ⟨N, rfl⟩ := Int.eq_ofNat_of_zero_le hnr.1
  rw [Int.toNat_natCast] at ht
  have H1 := h.alloc (.cells #[.pointer (some ⟨P, 0, none⟩)] 82)
  have hnum := num_some H1 hq
  have hrs : rs = bs.drop (p + 4) := by rw [h1, List.drop_drop]
  have HN := Aside0.mk ht
  have HRS := Aside0.mk hrs
  have hN : N ≤ 2147483647 := by omega
  have hP := h.lt
  clear hq h h1 h2 hnr H1 hrs ht
  go_enter Tryz.func62, Tryz.ntmps62
  go_wp2_with fail
  refine hnum.mono ?_
  rintro e w1 ⟨rfl, hg1, hp1⟩
  clear hnum
  have hlt : w.heap.size < w1.heap.size := by have := hg1.size; simp at this; omega
  have hbox : w1.heap[w.heap.size]? = some (.cells #[.pointer (some ⟨P, 0, none⟩)] 82 (0, 0)) := gb_blk (blk_new w _) hg1 (by omega)
  have hbx := (blk_cell hbox 0).trans rfl
  obtain ⟨A', c', hl, hr, hcall⟩ := rest_calls hp1
  have hgt : decide ((bs.drop (p + 4)).length < N) = false := by rw [← HRS.out]; simp at hlen ⊢; omega
  generalize (bs.drop (p + 4)).length = m at *
  have HG1 := Aside0.mk hg1
  have HP1 := Aside0.mk hp1
  clear hg1 hp1 hbox hr hl hlen
  go_wp2_with fail
  refine hcall.mono ?_
  rintro e w2 ⟨rfl, ⟨m2, rfl⟩⟩
  clear hcall
  go_wp2_with fail
  go_loopw [8, 28] (fun v8 v28 wr => ∃ (i : Nat) (ys : List PA.S47) (k : Nat), i ≤ N ∧ v28 = .int .i64 (i : Int) ∧ Aside0 (RepInv dSlot rs N i ys k) ∧ Aside0 (ys.length = i) ∧ Aside0 (Kd.R PA.k47 47 wr w.heap.size (new w) v8 ys) ∧ Aside0 (w.grownBy wr (some P)) ∧ Aside0 (PL w0 wr P A c bs (p + 4 + k))) (fun _ v28 _ => N - (intOf v28).toNat)
  case atStart =>
    exact ⟨0, [], 0, Nat.zero_le _, rfl, ⟨RepInv.start _ _ _⟩, ⟨rfl⟩, ⟨Kd.R_nil _ _ _ _ _⟩, ⟨gb_trans (gb_trans (gb_alloc _ _ _) HG1.out) (gb_drewN _ _ _)⟩, ⟨HP1.out.drewN m2⟩⟩
  case round =>
    obtain ⟨i, ys, k, hi, rfl, HI, HYL, HO, HG, HPL⟩ := hrel
    by_cases hiN : i < N
    · cases hx : dSlot (rs.drop k) with
      | some q =>
      obtain ⟨x, j⟩ := q
      have HX := Aside0.mk hx
      have hx2 : dSlot (bs.drop (p + 4 + k)) = some (x, j) := by rw [← List.drop_drop, ← HRS.out]; exact hx
      have hfit := dSlot_fits _ _ _ hx2
      rw [List.length_drop] at hfit
      have hle := HPL.out.le
      have hval := slot_some HPL.out hx2
      have hd1 : decide (i < N) = true := by simpa using hiN
      have hysz : ys.length ≤ 2147483647 := by rw [HYL.out]; omega
      
      clear hx hx2 hle hfit
      go_wp2_with fail
      refine hval.mono ?_
      rintro e w3 ⟨rfl, hg3, hp3⟩
      clear hval
      have HO3 := Aside0.mk (Kd.R_grown HO.out hg3 (fun q hq e => by injection e with e; subst e; exact absurd hq (by simp [new]; omega)))
      have HG3 := Aside0.mk (gb_trans HG.out hg3)
      have HP3 := Aside0.mk hp3
      clear hg3 hp3 HO HG HPL
      have hbase : w.heap.size ≤ w3.heap.size := HG3.out.size
      go_wp2_with (first | ((with_reducible refine gate_builtin (b := .append) (xs := #[.tmp 38, .tmp 40]) rfl ?_); at_builtin; go_loud (refine Kd.R_append PA.k47 (w0 := w3.alloc (.cells #[.int .i64 x.f0, .int .i64 x.f1.f0, .int .i64 x.f1.f1, .string x.f1.f2, .bool x.f1.f3] 47)) w.heap.size rfl (.tmp 38) (.tmp 40) 40 47 (.agg #[(.int .i64 0), (.int .i64 0), (.int .i64 0), (.string ⟨#[]⟩), (.bool false)]) 48 rfl Tryz.underlying40 info47 rfl (by decide) (by omega) u8 ys x [.int .i64 x.f0, .int .i64 x.f1.f0, .int .i64 x.f1.f1, .string x.f1.f2, .bool x.f1.f3] (new w) (fun _ => False) rfl ?hxx (PA.k47_mkM _ _ _ _) (fun _ hk => hk.elim) (fun q hq => ?hfr) (Kd.R_alloc HO3.out _) (Below.refl _ _) ?hba ?hsz ?_); (case hxx => show Value.slice (some ⟨w3.heap.size + 1, 0, none⟩) 1 1 = _; simp); (case hfr => simp at hq; exact Nat.le_trans hbase (by omega)); (case hba => simp; omega); (case hsz => omega); intro v4 w4 ho hb hg hat; have HO4 := Aside0.mk ho; have HG4 := Aside0.mk (gb_own (gb_trans HG3.out (gb_alloc _ _ _)) hg (R_own_new HO3.out)); have HP4 := Aside0.mk ((HP3.out.alloc _).grown hg (fun q hq => Nat.lt_of_lt_of_le hP (R_own_new HO3.out q hq))); clear ho hb hg hat HO3 HG3 HP3))
      go_roundw
      case rel => exact ⟨i + 1, ys ++ [x], k + j, by omega, by go_num, ⟨HI.out.step hiN HX.out⟩, ⟨by rw [List.length_append, HYL.out]; rfl⟩, HO4, HG4, ⟨by rw [← Nat.add_assoc]; exact HP4.out⟩⟩
      case measure => simp [intOf]; omega
      | none =>
      have hx2 : dSlot (bs.drop (p + 4 + k)) = none := by rw [← List.drop_drop, ← HRS.out]; exact hx
      have hval := slot_none HPL.out hE hx2
      have hd1 : decide (i < N) = true := by simpa using hiN
      
      clear hx hx2
      go_wp2_with fail
      refine hval.mono ?_
      rintro e w3 ⟨nn, rfl, hg3⟩
      clear hval
      
      have HG3 := Aside0.mk (gb_trans HG.out hg3)
      clear hg3 HO HG HPL
      go_wp2
      go_ret2
      exact ⟨rfl, gb_trans HG3.out (gb_alloc _ _ _)⟩
    · have hNi : i = N := by omega
      subst hNi
      have e := HI.out.done
      rw [HN.out] at e
      cases e
theorem list62_none {w0 w : World} {P : Nat} {A : Option Addr} {c : Nat} {bs : List Int} {p : Nat} {ea : Addr} (h : PL w0 w P A c bs p) (hE : HasE w0 ea) (hd : dList dSlot (bs.drop p) = none) :
      Calls Tryz.prog 62 #[.agg #[.pointer (some ⟨P, 0, none⟩)], .func (.func 63) #[.agg #[.pointer (some ⟨P, 0, none⟩)]] #[]] w fun e w' =>
        e = .returned (.tuple #[.slice none 0 0, .iface 345 (.pointer (some ea))]) ∧ w.grownBy w' (some P) := by
  rw [dList_eq] at hd
  cases hq : take4 (bs.drop p) with
  | none => exact list62_none1 h hE hq
  | some q =>
    rw [hq] at hd
    simp only at hd
    split at hd
    · rename_i hl; exact list62_none2 h hE (n := q.1) (rs := q.2) hq hl
    · rename_i hl; exact list62_none3 h hE (n := q.1) (rs := q.2) hq hl (by simpa using hd)
end Go.Proofs.YtpidhnnckolapaaGreatDoor.K
