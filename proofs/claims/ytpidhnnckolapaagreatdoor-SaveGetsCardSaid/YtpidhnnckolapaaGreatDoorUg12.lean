/- The writer of package save: numbers, values, rows and Put whole. -/
import Derived.RegionTactic
import Derived.Deep.RegionLaw
import Derived.Deep.QuietTactic
import Derived.BigQuiet
import Derived.Test.YtpidhnnckolapaaGreatDoorUg11
namespace Go.Proofs.YtpidhnnckolapaaGreatDoor.K
open Go.RowKit Go.Proofs.YtpidhnnckolapaaGreatDoorW.PrintWords Go.Proofs.YtpidhnnckolapaaGreatDoorW.PrintLast
set_option linter.unusedVariables false
set_option linter.unusedSimpArgs false
/-- The writer: its block holds the row of bytes and what is wrong. -/
structure WR (w0 w : World) (B : Nat) (v : Value) (bs : List Int) (bad : Int) : Prop where
  blk : w.heap[B]? = some (.cells #[v, .int .i64 bad] 68 (0, 0))
  row : Kd.R (Kd.int .u8) 5 w w0.heap.size (fun k => w0.heap.size ≤ k ∧ k ≠ B) v bs
  base : w0.heap.size ≤ B
  bel : Below w0.heap.size w0 w
/-- What a step of the writer leaves as it was. -/
structure WS (w w1 : World) (B : Nat) (v v1 : Value) : Prop where
  size : w.heap.size ≤ w1.heap.size
  blk : ∀ k, k < w.heap.size → k ≠ B → some k ≠ v.ownBlock → w1.heap[k]? = w.heap[k]?
  own : v1.ownBlock = v.ownBlock ∨ ∃ b, v1.ownBlock = some b ∧ w.heap.size ≤ b
theorem WS.below {w w1 : World} {B : Nat} {v : Value} (h : Below w.heap.size w w1) : WS w w1 B v v :=
  ⟨h.size, fun k hk _ _ => h.block k hk, .inl rfl⟩
theorem WS.trans {w w1 w2 : World} {B : Nat} {v v1 v2 : Value} (h : WS w w1 B v v1) (k : WS w1 w2 B v1 v2) : WS w w2 B v v2 := by
  refine ⟨Nat.le_trans h.size k.size, fun j hj hB hv => (k.blk j (Nat.lt_of_lt_of_le hj h.size) hB ?_).trans (h.blk j hj hB hv), ?_⟩
  · rcases h.own with e | ⟨b, e, hb⟩
    · rw [e]; exact hv
    · rw [e]; intro hh; injection hh with hh; omega
  · rcases k.own with e | ⟨b, e, hb⟩
    · rw [e]; exact h.own
    · exact .inr ⟨b, e, Nat.le_trans h.size hb⟩
theorem WR.below {w0 w w1 : World} {B : Nat} {v : Value} {bs : List Int} {bad : Int} (h : WR w0 w B v bs bad) (hb : Below w.heap.size w w1) : WR w0 w1 B v bs bad :=
  ⟨blk_below h.blk hb, Kd.R_mono (Kd.R_move (Kd.R_bound h.row) (fun k hk => hb.block k hk.2.2.1)) (fun k hk => hk.1), h.base, below_then h.bel h.bel.size hb⟩
/-- A block of one's own, behind a step. -/
theorem WS.keep {w w1 : World} {B g : Nat} {v v1 : Value} {o : Obj} (h : WS w w1 B v v1) (hg : w.heap[g]? = some o) (hB : g ≠ B) (hv : some g ≠ v.ownBlock) : w1.heap[g]? = some o :=
  (h.blk g (blk_lt hg) hB hv).trans hg
theorem WS.far {w w1 : World} {B g : Nat} {v v1 : Value} (h : WS w w1 B v v1) (hg : g < w.heap.size) (hv : some g ≠ v.ownBlock) : some g ≠ v1.ownBlock := by
  rcases h.own with e | ⟨b, e, hb⟩
  · rw [e]; exact hv
  · rw [e]; intro hh; injection hh with hh; omega
theorem WR.new {w0 w : World} {B g : Nat} {v : Value} {bs : List Int} {bad : Int} (h : WR w0 w B v bs bad) (hg : w.heap.size ≤ g) : some g ≠ v.ownBlock := by
  intro e
  have := Kd.R_lt h.row g e.symm
  omega
theorem WR.lt {w0 w : World} {B : Nat} {v : Value} {bs : List Int} {bad : Int} (h : WR w0 w B v bs bad) : B < w.heap.size := blk_lt h.blk
/-- A store into what is wrong. -/
theorem WR.setBad {w0 w : World} {B : Nat} {v : Value} {bs : List Int} {bad : Int} (h : WR w0 w B v bs bad) (e : Int) : WR w0 (w.setCell ⟨B, 1, none⟩ (.int .i64 e)) B v bs e :=
  ⟨(blk_set h.blk 1 _).trans rfl, Kd.R_far (p := ⟨B, 1, none⟩) h.row (fun k hk => hk.2) _, h.base, h.bel.setCell h.base _⟩
theorem WS.setBad (w : World) (B : Nat) (v : Value) (e : Value) : WS w (w.setCell ⟨B, 1, none⟩ e) B v v :=
  ⟨by simp [World.setCell], fun k _ hk _ => Below.heap_setCell w ⟨B, 1, none⟩ e k hk, .inl rfl⟩
/-- A store of the bytes, once these are longer. -/
theorem WR.setRow {w0 w w1 : World} {B : Nat} {v v1 : Value} {bs bs1 : List Int} {bad : Int} (h : WR w0 w B v bs bad) (hg : w.grownBy w1 v.ownBlock) (hr : Kd.R (Kd.int .u8) 5 w1 w0.heap.size (fun k => w0.heap.size ≤ k ∧ k ≠ B) v1 bs1) (hb : Below w0.heap.size w0 w1) : WR w0 (w1.setCell ⟨B, 0, none⟩ v1) B v1 bs1 bad := by
  have hB : some B ≠ v.ownBlock := fun e => ((h.row.1 B e.symm).2 rfl)
  have h1 : w1.heap[B]? = some (.cells #[v, .int .i64 bad] 68 (0, 0)) := (hg.block B h.lt hB).trans h.blk
  exact ⟨(blk_set h1 0 _).trans rfl, Kd.R_far (p := ⟨B, 0, none⟩) hr (fun k hk => hk.2) _, h.base, hb.setCell h.base _⟩
theorem WS.setRow {w w1 : World} {B : Nat} {v v1 : Value} (hg : w.grownBy w1 v.ownBlock) (hat : v1.ownBlock = v.ownBlock ∨ ∃ b, v1.ownBlock = some b ∧ w.heap.size ≤ b) : WS w (w1.setCell ⟨B, 0, none⟩ v1) B v v1 :=
  ⟨by have := hg.size; simpa [World.setCell] using this, fun k hk hB hv => (Below.heap_setCell w1 ⟨B, 0, none⟩ v1 k hB).trans (hg.block k hk hv), hat⟩
def wrongE (bad e : Int) : Int := if bad = 0 then e else if e = 5 then e else bad
def numB (n : Int) : List Int := [n / 16777216 % 256, n / 65536 % 256, n / 256 % 256, n % 256]
def numW (n : Int) (s : List Int × Int) : List Int × Int := if n < 0 ∨ 2147483647 < n then (s.1, wrongE s.2 5) else (s.1 ++ numB n, s.2)
def valW (x : PA.S45) (s : List Int × Int) : List Int × Int := if rightV x = true then (s.1 ++ keyB x, s.2) else (s.1, wrongE s.2 8)
/-- What a call of the writer does to its state. -/
def WPost (w0 w : World) (B : Nat) (v : Value) (s : List Int × Int) (e : Ending) (w' : World) : Prop := e = .returned (.tuple #[]) ∧ ∃ v', WR w0 w' B v' s.1 s.2 ∧ WS w w' B v v'
set_option maxHeartbeats 1000000 in
theorem wrong_calls {w0 w : World} {B : Nat} {v : Value} {bs : List Int} {bad e : Int} (h : WR w0 w B v bs bad) :
    Calls Tryz.prog 35 #[.pointer (some ⟨B, 0, none⟩), .int .i64 e] w (WPost w0 w B v (bs, wrongE bad e)) := by
  have hc1 := (blk_cell h.blk 1).trans rfl
  have hz1 := blk_frozen h.blk 1
  have hH := Aside0.mk h
  clear h
  by_cases h0 : bad = 0
  · subst h0
    go_enter Tryz.func35, Tryz.ntmps35
    go_wp2
    (first | go_end0 | ((try simp only [Exit.inBlock, Exit.then]); refine bodyPost_ret (results_none rfl _ _ _) rfl ?_))
    refine ⟨rfl, v, ?_, WS.setBad _ _ _ _⟩
    simpa [wrongE] using hH.out.setBad e
  · have h0' : (bad == 0) = false := beq_eq_false_iff_ne.mpr h0
    by_cases h5 : e = 5
    · subst h5
      go_enter Tryz.func35, Tryz.ntmps35
      go_wp2
      (first | go_end0 | ((try simp only [Exit.inBlock, Exit.then]); refine bodyPost_ret (results_none rfl _ _ _) rfl ?_))
      refine ⟨rfl, v, ?_, WS.setBad _ _ _ _⟩
      simpa [wrongE, h0] using hH.out.setBad 5
    · have h5' : (e == 5) = false := beq_eq_false_iff_ne.mpr h5
      go_enter Tryz.func35, Tryz.ntmps35
      go_wp2
      (first | go_end0 | ((try simp only [Exit.inBlock, Exit.then]); refine bodyPost_ret (results_none rfl _ _ _) rfl ?_))
      refine ⟨rfl, v, ?_, WS.below (Below.refl _ _)⟩
      simpa [wrongE, h0, h5] using hH.out
theorem C_blockL {w : World} {g : Nat} {cs : Array Value} {xs : List Int} (hl : xs.length ≤ 1000) (h : w.heap[g]? = some (.cells cs 5 (0, 0))) (he : cs = (xs.map (Value.int .u8)).toArray := by rfl) : (Kd.int .u8).C w (some ⟨g, 0, none⟩) xs.length xs := by
  subst he
  have hR : Kd.R (Kd.int .u8) 5 w 0 (fun _ => True) (.slice (some ⟨g, 0, none⟩) xs.length xs.length) xs :=
    Kd.R_of_own ⟨by simp [encs], .inr ⟨g, xs.length, _, rfl, Nat.zero_le _, h, (by simp), (by simp only [maxLen]; omega), (by simp), (by simp [encs, List.take_of_length_le])⟩⟩ (fun _ _ => trivial)
  exact (Kd.R_reads' hR).2.2
set_option maxHeartbeats 4000000 in
set_option maxRecDepth 100000 in
theorem num_calls {w0 w : World} {B : Nat} {v : Value} {bs : List Int} {bad n : Int} (h : WR w0 w B v bs bad) (hl : bs.length ≤ 1000000000) :
    Calls Tryz.prog 15 #[.pointer (some ⟨B, 0, none⟩), .int .i64 n] w (WPost w0 w B v (numW n (bs, bad))) := by
  by_cases hw : n < 0 ∨ 2147483647 < n
  · have hwr := wrong_calls (e := 5) h
    have he : numW n (bs, bad) = (bs, wrongE bad 5) := by unfold numW; rw [if_pos hw]
    rw [he]
    clear he h
    rcases hw with hw | hw
    · go_enter Tryz.func15, Tryz.ntmps15
      go_wp2_with fail
      refine hwr.mono ?_
      rintro e w1 ⟨rfl, hp⟩
      clear hwr
      go_wp2_with fail
      (first | go_end0 | ((try simp only [Exit.inBlock, Exit.then]); refine bodyPost_ret (results_none rfl _ _ _) rfl ?_))
      exact ⟨rfl, hp⟩
    · have h0 : decide (n < 0) = false := decide_eq_false (by omega)
      go_enter Tryz.func15, Tryz.ntmps15
      go_wp2_with fail
      refine hwr.mono ?_
      rintro e w1 ⟨rfl, hp⟩
      clear hwr
      go_wp2_with fail
      (first | go_end0 | ((try simp only [Exit.inBlock, Exit.then]); refine bodyPost_ret (results_none rfl _ _ _) rfl ?_))
      exact ⟨rfl, hp⟩
  · have he : numW n (bs, bad) = (bs ++ numB n, bad) := by unfold numW; rw [if_neg hw]
    rw [he]
    have h0 : decide (n < 0) = false := decide_eq_false (by omega)
    have h1 : decide (2147483647 < n) = false := decide_eq_false (by omega)
    have hnb : numB n = [n / 16777216, n / 65536 % 256, n / 256 % 256, n % 256] := by unfold numB; rw [show n / 16777216 % 256 = n / 16777216 by omega]
    have hC := C_blockL (xs := [n / 16777216, n / 65536 % 256, n / 256 % 256, n % 256]) (by simp) (blk_new w (.cells #[.int .u8 (n / 16777216), .int .u8 (n / 65536 % 256), .int .u8 (n / 256 % 256), .int .u8 (n % 256)] 5))
    rw [← hnb] at hC
    have hnl : (numB n).length = 4 := by rw [hnb]; rfl
    have h' := h.below (below_alloc (Below.refl _ _) (.cells #[.int .u8 (n / 16777216), .int .u8 (n / 65536 % 256), .int .u8 (n / 256 % 256), .int .u8 (n % 256)] 5))
    have hws : WS w (w.alloc (.cells #[.int .u8 (n / 16777216), .int .u8 (n / 65536 % 256), .int .u8 (n / 256 % 256), .int .u8 (n % 256)] 5)) B v v := WS.below (below_alloc (Below.refl _ _) _)
    generalize hN : numB n = nb at *
    have hc0 := (blk_cell h.blk 0).trans rfl
    have hz0 := blk_frozen h.blk 0
    have hlt := h.lt
    have hsz : w0.heap.size ≤ w.heap.size + 1 := Nat.le_trans h.bel.size (by omega)
    have HH := Aside0.mk h'
    rw [hnl] at hC
    have HC := Aside0.mk hC
    have HW := Aside0.mk hws
    have hBne : ∀ k, w.heap.size ≤ k → k ≠ B := fun k hk e => by omega
    obtain ⟨Av, cv, rfl⟩ := Kd.R_slice h.row
    clear he h hN hnb h' hC hws
    go_enter Tryz.func15, Tryz.ntmps15
    go_wp2_with (first | ((with_reducible refine gate_builtin (b := .append) (xs := #[.tmp 16, .tmp 28]) rfl ?_); at_builtin; refine Kd.R_append_rows (Kd.int .u8) (w0 := w0) w0.heap.size rfl (.tmp 16) (.tmp 28) 29 5 (.int .u8 0) 1 rfl Tryz.underlying29 info5 rfl (by decide) (by omega) _ bs nb (some ⟨w.heap.size, 0, none⟩) 4 4 (fun k => w0.heap.size ≤ k ∧ k ≠ B) (fun _ => False) rfl rfl HH.out.row HC.out (fun _ _ h => h) (fun _ h => h.elim) (fun k hk => ⟨by simp at hk; omega, hBne k (by simp at hk; omega)⟩) HH.out.bel (by simp; try omega) (by omega) ?_; intro v2 w2 ho2 hb2 hg2 hat2; obtain ⟨A2, c2, rfl⟩ := Kd.R_slice ho2; have hcB := (hg2.block B (by simp; omega) (fun e => (HH.out.row.1 B e.symm).2 rfl)).trans HH.out.blk; have hk0 := (blk_cell hcB 0).trans rfl; have hkz := blk_frozen hcB 0; have HR := Aside0.mk (HH.out.setRow hg2 ho2 hb2); have HW2 := Aside0.mk (HW.out.trans (WS.setRow (B := B) hg2 hat2)); clear hcB ho2 hb2 hg2 hat2))
    (first | go_end0 | ((try simp only [Exit.inBlock, Exit.then]); refine bodyPost_ret (results_none rfl _ _ _) rfl ?_))
    have h1 := HR.out
    have h2 := HW2.out
    rw [List.length_append, hnl] at h1 h2
    exact ⟨rfl, _, h1, h2⟩
end Go.Proofs.YtpidhnnckolapaaGreatDoor.K
namespace Go.Proofs.YtpidhnnckolapaaGreatDoor.K
open Go.RowKit Go.Proofs.YtpidhnnckolapaaGreatDoorW.PrintWords Go.Proofs.YtpidhnnckolapaaGreatDoorW.PrintLast
set_option linter.unusedVariables false
set_option linter.unusedSimpArgs false
theorem WS.left {w w1 : World} {B : Nat} {v : Value} (h : Below w.heap.size w w1) {w2 : World} {v1 : Value} (k : WS w1 w2 B v v1) : WS w w2 B v v1 := (WS.below h).trans k
set_option maxHeartbeats 4000000 in
set_option maxRecDepth 100000 in
theorem val_bad {w0 w : World} {B : Nat} {v : Value} {bs : List Int} {bad : Int} (h : WR w0 w B v bs bad) {x : PA.S45} (hR : rightV x = false) :
    Calls Tryz.prog 36 #[.pointer (some ⟨B, 0, none⟩), aggV x] w (WPost w0 w B v (valW x (bs, bad))) := by
  have he : valW x (bs, bad) = (bs, wrongE bad 8) := by unfold valW; rw [hR]; rfl
  rw [he]
  have hright := right_calls x (w.alloc (.cells #[.int .i64 x.f0, .int .i64 x.f1, .string x.f2, .bool x.f3] 45))
  rw [hR] at hright
  clear he hR
  obtain ⟨f0, f1, f2, f3⟩ := x
  simp only [aggV] at *
  have h' := fun W hb => h.below (w1 := W) hb
  have H' := Aside0.mk h'
  clear h' h
  go_enter Tryz.func36, Tryz.ntmps36
  go_wp2_with fail
  refine hright.mono ?_
  rintro e w1 ⟨rfl, hb1⟩
  clear hright
  have hbel := below_then (below_alloc (Below.refl _ w) (.cells #[.int .i64 f0, .int .i64 f1, .string f2, .bool f3] 45)) (by simp) hb1
  have hwr := wrong_calls (e := 8) (H'.out _ hbel)
  have HB := Aside0.mk hbel
  clear hb1 hbel
  go_wp2_with fail
  refine hwr.mono ?_
  rintro e w2 ⟨rfl, v', hq1, hq2⟩
  clear hwr
  have HQ1 := Aside0.mk hq1
  have HQ2 := Aside0.mk hq2
  clear hq1 hq2
  go_wp2_with fail
  (first | go_end0 | ((try simp only [Exit.inBlock, Exit.then]); refine bodyPost_ret (results_none rfl _ _ _) rfl ?_))
  exact ⟨rfl, v', HQ1.out, WS.left HB.out HQ2.out⟩
theorem Of_any {x : PA.S45} (hR : rightV x = true) (h1 : -9223372036854775808 ≤ x.f1 ∧ x.f1 ≤ 9223372036854775807) (h2 : x.f2.size ≤ 1000000000) (w : World) (g : Nat) (hb : w.heap[g]? = some (.cells #[.int .i64 x.f0, .int .i64 x.f1, .string x.f2, .bool x.f3] 45 (0, 0))) :
    Calls Tryz.prog 60 #[.slice (some ⟨g, 0, none⟩) 1 1] w fun e w' => ∃ v, e = .returned v ∧ Kd.R (Kd.int .u8) 5 w' w.heap.size (new w) v (keyB x) ∧ Below w.heap.size w w' := Of_calls hb hR h1 h2
set_option maxHeartbeats 8000000 in
set_option maxRecDepth 100000 in
theorem val_ok {w0 w : World} {B : Nat} {v : Value} {bs : List Int} {bad : Int} (h : WR w0 w B v bs bad) {x : PA.S45} (hR : rightV x = true) (h1 : -9223372036854775808 ≤ x.f1 ∧ x.f1 ≤ 9223372036854775807) (h2 : x.f2.size ≤ 1000000000) (hl : bs.length ≤ 1000000000) :
    Calls Tryz.prog 36 #[.pointer (some ⟨B, 0, none⟩), aggV x] w (WPost w0 w B v (valW x (bs, bad))) := by
  have he : valW x (bs, bad) = (bs ++ keyB x, bad) := by unfold valW; rw [hR]; rfl
  rw [he]
  have hright := right_calls x (w.alloc (.cells #[.int .i64 x.f0, .int .i64 x.f1, .string x.f2, .bool x.f3] 45))
  have hOf := Of_any hR h1 h2
  rw [hR] at hright
  have hkl : (keyB x).length ≤ 2000000010 := by
    unfold keyB
    have := textB_len x.f2
    split
    · simp [beB]
    · split
      · simp; omega
      · simp
  clear he hR h1 h2
  generalize keyB x = kb at *
  obtain ⟨f0, f1, f2, f3⟩ := x
  simp only [aggV] at *
  obtain ⟨Av, cv, rfl⟩ := Kd.R_slice h.row
  have H' := Aside0.mk h
  have hlt := h.lt
  clear h
  go_enter Tryz.func36, Tryz.ntmps36
  go_wp2_with fail
  refine hright.mono ?_
  rintro e w1 ⟨rfl, hb1⟩
  clear hright
  have hbel := below_then (below_alloc (Below.refl _ w) (.cells #[.int .i64 f0, .int .i64 f1, .string f2, .bool f3] 45)) (by simp) hb1
  have hbox := blk_below (blk_new w (.cells #[.int .i64 f0, .int .i64 f1, .string f2, .bool f3] 45)) hb1
  have hwr := H'.out.below hbel
  have HB := Aside0.mk hbel
  have HW := Aside0.mk hwr
  have HX := Aside0.mk hbox
  have hc0 := (blk_cell hwr.blk 0).trans rfl
  have hz0 := blk_frozen hwr.blk 0
  have hx0 := (blk_cell hbox 0).trans rfl
  have hx1 := (blk_cell hbox 1).trans rfl
  have hx2 := (blk_cell hbox 2).trans rfl
  have hx3 := (blk_cell hbox 3).trans rfl
  have hBl := hwr.lt
  have hXl := blk_lt hbox
  clear hb1 hbel hbox hwr
  go_wp2_with fail
  go_region_law (first
    | (go_simp; go_at_call 60; refine (hOf _ _ (blk_drew (blk_new w1 _))).mono ?_; rintro e w2 ⟨v2, rfl, hr2, hb2⟩; obtain ⟨A2, c2, rfl⟩ := Kd.R_slice hr2; have hbw : Below w1.heap.size w1 w2 := below_then (below_drew (below_alloc (Below.refl _ w1) _)) (by simp) hb2; have HW2 := Aside0.mk (HW.out.below hbw); have HR2 := Aside0.mk (Kd.R_reads' hr2).2.2; have hc2 := (blk_cell HW2.out.blk 0).trans rfl; have hz2 := blk_frozen HW2.out.blk 0; have hBl2 := HW2.out.lt; have HBW := Aside0.mk hbw; clear hr2 hb2 hbw; simp only [])
    | (refine Kd.R_append_rows_step (Kd.int .u8) (w0 := w0) w0.heap.size ?_ (.tmp 13) (.tmp 16) 29 5 (.int .u8 0) 1 rfl Tryz.underlying29 info5 rfl (by decide) (by omega) (.slice Av bs.length cv) bs kb A2 kb.length c2 (fun k => w0.heap.size ≤ k ∧ k ≠ B) (fun _ => False) rfl rfl HW2.out.row HR2.out (fun _ _ h => h) (fun _ h => h.elim) ?_ HW2.out.bel HW2.out.bel.size ?_ ?_; (simp [Region.wanted]); (intro k hk; have hs2 := HW2.out.bel.size; exact ⟨by omega, by omega⟩); (omega); intro v3 w3 ho3 hb3 hg3 hat3; obtain ⟨A3, c3, rfl⟩ := Kd.R_slice ho3; have hcB := (hg3.block B hBl2 (fun e => (HW2.out.row.1 B e.symm).2 rfl)).trans HW2.out.blk; have hc3 := (blk_cell hcB 0).trans rfl; have hz3 := blk_frozen hcB 0; have HR3 := Aside0.mk (HW2.out.setRow hg3 ho3 hb3); have HWS := Aside0.mk (WS.setRow (B := B) hg3 hat3); clear hcB ho3 hb3 hg3 hat3; simp only []))
  all_goals
    go_wp2_with fail
    (first | go_end0 | ((try simp only [Exit.inBlock, Exit.then]); refine bodyPost_ret (results_none rfl _ _ _) rfl ?_))
    have h1 := HR3.out
    have h2 := HWS.out
    rw [List.length_append] at h1 h2
    exact ⟨rfl, _, h1, WS.left HB.out (WS.left HBW.out h2)⟩
/-- The state's bytes do not become fewer. -/
theorem numW_len (n : Int) (s : List Int × Int) : s.1.length ≤ (numW n s).1.length := by unfold numW; split <;> simp
theorem valW_len (x : PA.S45) (s : List Int × Int) : s.1.length ≤ (valW x s).1.length := by unfold valW; split <;> simp
/-- A value that a machine may have: its number fits, its text is no longer than a text may be here. -/
def wfV (x : PA.S45) : Prop := (-9223372036854775808 ≤ x.f1 ∧ x.f1 ≤ 9223372036854775807) ∧ x.f2.size ≤ 1000000000
theorem val_calls {w0 w : World} {B : Nat} {v : Value} {bs : List Int} {bad : Int} (h : WR w0 w B v bs bad) {x : PA.S45} (hx : wfV x) (hl : bs.length ≤ 1000000000) :
    Calls Tryz.prog 36 #[.pointer (some ⟨B, 0, none⟩), aggV x] w (WPost w0 w B v (valW x (bs, bad))) := by
  cases hR : rightV x
  · exact val_bad h hR
  · exact val_ok h hR hx.1 hx.2 hl
end Go.Proofs.YtpidhnnckolapaaGreatDoor.K
namespace Go.Proofs.YtpidhnnckolapaaGreatDoor.K
open Go.RowKit Go.Proofs.YtpidhnnckolapaaGreatDoorW.PrintWords Go.Proofs.YtpidhnnckolapaaGreatDoorW.PrintLast
set_option linter.unusedVariables false
set_option linter.unusedSimpArgs false
theorem at45 {w : World} {A : Option Addr} {xs : List PA.S45} (h : Kd.C PA.k45 w A xs.length xs) (k : Nat) (hk : k < xs.length) : ∃ ad, A = some ad ∧ w.cell? (ad.add (k * 4)) = some (.int .i64 (xs.getD k PA.z45).f0) ∧ w.cell? ⟨(ad.add (k * 4)).block, (ad.add (k * 4)).off + 1, none⟩ = some (.int .i64 (xs.getD k PA.z45).f1) ∧ w.cell? ⟨(ad.add (k * 4)).block, (ad.add (k * 4)).off + 2, none⟩ = some (.string (xs.getD k PA.z45).f2) ∧ w.cell? ⟨(ad.add (k * 4)).block, (ad.add (k * 4)).off + 3, none⟩ = some (.bool (xs.getD k PA.z45).f3) := by
  have := PA.at_T45 h (k : Int) (by omega) (by omega)
  simpa only [Int.toNat_natCast, PA.rd_T45] using this
theorem getD_mem' {α : Type} {l : List α} {z : α} {k : Nat} (h : k < l.length) : l.getD k z ∈ l := by
  rw [List.getD_eq_getElem?_getD, List.getElem?_eq_getElem h]; exact List.getElem_mem _
def foldW {α : Type} (f : α → List Int × Int → List Int × Int) (l : List α) (s : List Int × Int) : List Int × Int := l.foldl (fun s x => f x s) s
theorem foldW_len {α : Type} {f : α → List Int × Int → List Int × Int} (hf : ∀ x s, s.1.length ≤ (f x s).1.length) (l : List α) : ∀ s, s.1.length ≤ (foldW f l s).1.length := by
  induction l with
  | nil => intro s; exact Nat.le_refl _
  | cons x r ih => intro s; exact Nat.le_trans (hf x s) (ih (f x s))
theorem foldW_step {α : Type} {f : α → List Int × Int → List Int × Int} {l : List α} {s : List Int × Int} {k : Nat} (hk : k < l.length) (z : α) : foldW f (l.take (k + 1)) s = f (l.getD k z) (foldW f (l.take k) s) := by
  unfold foldW
  rw [List.take_succ_eq_append_getElem hk, List.foldl_append, List.getD_eq_getElem?_getD, List.getElem?_eq_getElem hk]; rfl
theorem foldW_le {α : Type} {f : α → List Int × Int → List Int × Int} (hf : ∀ x s, s.1.length ≤ (f x s).1.length) (l : List α) (k : Nat) (s : List Int × Int) : (foldW f (l.take k) s).1.length ≤ (foldW f l s).1.length := by
  have h : foldW f l s = foldW f (l.drop k) (foldW f (l.take k) s) := by
    unfold foldW
    rw [← List.foldl_append, List.take_append_drop]
  rw [h]
  exact foldW_len hf _ _
def valsW (l : List PA.S45) (s : List Int × Int) : List Int × Int := foldW valW l (numW l.length s)
theorem valsW_len (l : List PA.S45) (s : List Int × Int) : s.1.length ≤ (valsW l s).1.length := Nat.le_trans (numW_len _ _) (foldW_len valW_len _ _)
set_option maxHeartbeats 8000000 in
set_option maxRecDepth 100000 in
theorem vals_calls {w0 w : World} {B : Nat} {v : Value} {s : List Int × Int} (h : WR w0 w B v s.1 s.2) {A : Option Addr} {c : Nat} {l : List PA.S45} (hc : Kd.C PA.k45 w0 A l.length l) (hlc : l.length ≤ c) (hx : ∀ x ∈ l, wfV x) (hl : (valsW l s).1.length ≤ 1000000000) :
    Calls Tryz.prog 16 #[.pointer (some ⟨B, 0, none⟩), .slice A l.length c] w (WPost w0 w B v (valsW l s)) := by
  have hnum := num_calls (n := (l.length : Int)) h (Nat.le_trans (valsW_len l s) hl)
  have hm := Kd.C_max hc
  have HC := Aside0.mk hc
  have HX := Aside0.mk hx
  have HL := Aside0.mk hl
  clear h hc hx hl
  go_enter Tryz.func16, Tryz.ntmps16
  go_wp2_with fail
  refine hnum.mono ?_
  rintro e w1 ⟨rfl, v1, hw1, hs1⟩
  clear hnum
  have HW1 := Aside0.mk hw1
  have HS1 := Aside0.mk hs1
  clear hw1 hs1
  go_wp2_with fail
  go_loopw [12] (fun v12 wr => ∃ (k : Nat) (v' : Value), k ≤ l.length ∧ v12 = .int .i64 (k : Int) ∧ Aside0 (WR w0 wr B v' (foldW valW (l.take k) (numW l.length s)).1 (foldW valW (l.take k) (numW l.length s)).2) ∧ Aside0 (WS w wr B v v')) (fun v12 _ => l.length - (intOf v12).toNat)
  case atStart => exact ⟨0, v1, Nat.zero_le _, rfl, HW1, HS1⟩
  case round =>
    obtain ⟨k, v', hk, rfl, HW, HS⟩ := hrel
    clear HW1 HS1
    by_cases hlt : k < l.length
    · have hk1 : k + 1 ≤ 9223372036854775807 := by omega
      have hC := Kd.C_below HC.out HW.out.bel
      obtain ⟨ad, rfl, c0, c1, c2, c3⟩ := at45 hC k hlt
      have hwf := HX.out _ (getD_mem' (z := PA.z45) hlt)
      have hst := foldW_step (f := valW) (s := numW l.length s) hlt PA.z45
      have hle := foldW_le valW_len l (k + 1) (numW l.length s)
      have hle0 := foldW_le valW_len l k (numW l.length s)
      generalize l.getD k PA.z45 = x at *
      have hval := val_calls (HW.out.below (below_alloc (Below.refl _ _) (.cells #[.int .i64 x.f0, .int .i64 x.f1, .string x.f2, .bool x.f3] 45))) hwf (Nat.le_trans hle0 HL.out)
      have HST := Aside0.mk hst
      clear hst hC hle hle0 hwf
      generalize foldW valW (l.take k) (numW l.length s) = st at *
      obtain ⟨f0, f1, f2, f3⟩ := x
      simp only [aggV] at hval c0 c1 c2 c3 HST
      have HAL := Aside0.mk (below_alloc (Below.refl _ wr) (.cells #[.int .i64 f0, .int .i64 f1, .string f2, .bool f3] 45))
      go_wp2_with fail
      refine hval.mono ?_
      rintro e w2 ⟨rfl, v2, hq1, hq2⟩
      clear hval
      have HQ1 := Aside0.mk hq1
      have HQ2 := Aside0.mk hq2
      clear hq1 hq2
      go_wp2_with fail
      go_roundw
      case rel => exact ⟨k + 1, v2, by omega, by go_num, ⟨by rw [HST.out]; exact HQ1.out⟩, ⟨HS.out.trans (WS.left HAL.out HQ2.out)⟩⟩
      case measure => simp [intOf]; omega
    · have hk' : k = l.length := by omega
      subst hk'
      go_wp2_with fail
      (first | go_end0 | ((try simp only [Exit.inBlock, Exit.then]); refine bodyPost_ret (results_none rfl _ _ _) rfl ?_))
      have h1 := HW.out
      rw [List.take_length] at h1
      exact ⟨rfl, v', h1, HS.out⟩
end Go.Proofs.YtpidhnnckolapaaGreatDoor.K
namespace Go.Proofs.YtpidhnnckolapaaGreatDoor.K
open Go.RowKit Go.Proofs.YtpidhnnckolapaaGreatDoorW.PrintWords Go.Proofs.YtpidhnnckolapaaGreatDoorW.PrintLast
set_option linter.unusedVariables false
set_option linter.unusedSimpArgs false
theorem at47 {w0 w : World} (hb : Below w0.heap.size w0 w) {A : Option Addr} {xs : List PA.S47} (h : Kd.C PA.k47 w0 A xs.length xs) (k : Nat) (hk : k < xs.length) : ∃ ad, A = some ad ∧ w.cell? (ad.add (k * 5)) = some (.int .i64 (xs.getD k PA.z47).f0) ∧ w.cell? ⟨(ad.add (k * 5)).block, (ad.add (k * 5)).off + 1, none⟩ = some (.int .i64 (xs.getD k PA.z47).f1.f0) ∧ w.cell? ⟨(ad.add (k * 5)).block, (ad.add (k * 5)).off + 2, none⟩ = some (.int .i64 (xs.getD k PA.z47).f1.f1) ∧ w.cell? ⟨(ad.add (k * 5)).block, (ad.add (k * 5)).off + 3, none⟩ = some (.string (xs.getD k PA.z47).f1.f2) ∧ w.cell? ⟨(ad.add (k * 5)).block, (ad.add (k * 5)).off + 4, none⟩ = some (.bool (xs.getD k PA.z47).f1.f3) := by
  have := PA.at_T47 (Kd.C_below h hb) (k : Int) (by omega) (by omega)
  simpa only [Int.toNat_natCast, PA.rd_T47] using this
theorem at49 {w0 w : World} (hb : Below w0.heap.size w0 w) {A : Option Addr} {xs : List PA.S49} (h : Kd.C PA.k49 w0 A xs.length xs) (k : Nat) (hk : k < xs.length) : ∃ ad A1 c1, A = some ad ∧ w.cell? (ad.add (k * 2)) = some (.int .i64 (xs.getD k PA.z49).f0) ∧ w.cell? ⟨(ad.add (k * 2)).block, (ad.add (k * 2)).off + 1, none⟩ = some (.slice A1 (xs.getD k PA.z49).f1.length c1) ∧ (xs.getD k PA.z49).f1.length ≤ c1 ∧ Kd.C PA.k45 w0 A1 (xs.getD k PA.z49).f1.length (xs.getD k PA.z49).f1 := by
  obtain ⟨ad, A1, c1, e, h1, h2, h3, h4⟩ := PA.at_T49 h (k : Int) (by omega) (by omega)
  simp only [Int.toNat_natCast, PA.rd_T49] at h1 h2 h3 h4
  exact ⟨ad, A1, c1, e, pw_cell_below hb h1, pw_cell_below hb h2, h3, h4⟩
def slotW (x : PA.S47) (s : List Int × Int) : List Int × Int := valW x.f1 (numW x.f0 s)
def confW (x : PA.S49) (s : List Int × Int) : List Int × Int := valsW x.f1 (numW x.f0 s)
theorem slotW_len (x : PA.S47) (s : List Int × Int) : s.1.length ≤ (slotW x s).1.length := Nat.le_trans (numW_len _ _) (valW_len _ _)
theorem confW_len (x : PA.S49) (s : List Int × Int) : s.1.length ≤ (confW x s).1.length := Nat.le_trans (numW_len _ _) (valsW_len _ _)
def rowW2 (l2 : List PA.S49) (s : List Int × Int) : List Int × Int := foldW confW l2 (numW l2.length s)
def rowW (x : PA.S43) (s : List Int × Int) : List Int × Int := rowW2 x.f1 (foldW slotW x.f0 (numW x.f0.length s))
theorem rowW2_len (l2 : List PA.S49) (s : List Int × Int) : s.1.length ≤ (rowW2 l2 s).1.length := Nat.le_trans (numW_len _ _) (foldW_len confW_len _ _)
theorem rowW_len (x : PA.S43) (s : List Int × Int) : s.1.length ≤ (rowW x s).1.length := Nat.le_trans (Nat.le_trans (numW_len _ _) (foldW_len slotW_len _ _)) (rowW2_len _ _)
def wfR (x : PA.S43) : Prop := (∀ y ∈ x.f0, wfV y.f1) ∧ ∀ y ∈ x.f1, ∀ z ∈ y.f1, wfV z
set_option maxHeartbeats 16000000 in
set_option maxRecDepth 100000 in
theorem row_calls {w0 w : World} {B : Nat} {v : Value} {s : List Int × Int} (h : WR w0 w B v s.1 s.2) {A1 A2 : Option Addr} {c1 c2 : Nat} {x : PA.S43} (hc1 : Kd.C PA.k47 w0 A1 x.f0.length x.f0) (hl1 : x.f0.length ≤ c1) (hc2 : Kd.C PA.k49 w0 A2 x.f1.length x.f1) (hl2 : x.f1.length ≤ c2) (hx : wfR x) (hl : (rowW x s).1.length ≤ 1000000000) :
    Calls Tryz.prog 17 #[.pointer (some ⟨B, 0, none⟩), .agg #[.slice A1 x.f0.length c1, .slice A2 x.f1.length c2]] w (WPost w0 w B v (rowW x s)) := by
  obtain ⟨l1, l2⟩ := x
  simp only at *
  have hm1 := Kd.C_max hc1
  have hm2 := Kd.C_max hc2
  have HA := Aside0.mk (below_alloc (Below.refl _ w) (.cells #[.slice A1 l1.length c1, .slice A2 l2.length c2] 43))
  have hBw := h.lt
  have hne := h.new (Nat.le_refl _)
  have HWA := h.below HA.out
  have hnum := num_calls (n := (l1.length : Int)) HWA (by have := rowW_len ⟨l1, l2⟩ s; omega)
  have HC1 := Aside0.mk hc1
  have HC2 := Aside0.mk hc2
  have HX := Aside0.mk hx
  have HL := Aside0.mk hl
  have HN := Aside0.mk hne
  clear h hc1 hc2 hx hl HWA hne
  go_enter Tryz.func17, Tryz.ntmps17
  go_wp2_with fail
  refine hnum.mono ?_
  rintro e w1 ⟨rfl, v1, hw1, hs1⟩
  clear hnum
  have hbx := hs1.keep (blk_new w (.cells #[.slice A1 l1.length c1, .slice A2 l2.length c2] 43)) (by omega) HN.out
  have hx0 := (blk_cell hbx 0).trans rfl
  have hx1 := (blk_cell hbx 1).trans rfl
  have hxl := blk_lt hbx
  have HW1 := Aside0.mk hw1
  have HS1 := Aside0.mk hs1
  clear hw1 hs1 hbx
  go_wp2_with fail
  clear hx0 hx1
  go_loopw [16] (fun v16 wr => ∃ (k : Nat) (v' : Value), k ≤ l1.length ∧ v16 = .int .i64 (k : Int) ∧ Aside0 (WR w0 wr B v' (foldW slotW (l1.take k) (numW l1.length s)).1 (foldW slotW (l1.take k) (numW l1.length s)).2) ∧ Aside0 (WS (w.alloc (.cells #[.slice A1 l1.length c1, .slice A2 l2.length c2] 43)) wr B v v')) (fun v16 _ => l1.length - (intOf v16).toNat)
  case atStart => exact ⟨0, v1, Nat.zero_le _, rfl, HW1, HS1⟩
  case round =>
    obtain ⟨k, v', hk, rfl, HW, HS⟩ := hrel
    clear HW1 HS1
    by_cases hlt : k < l1.length
    · have hk1 : k + 1 ≤ 9223372036854775807 := by omega
      obtain ⟨ad, rfl, d0, d1, d2, d3, d4⟩ := at47 HW.out.bel HC1.out k hlt
      have hwf := HX.out.1 _ (getD_mem' (z := PA.z47) hlt)
      have hst := foldW_step (f := slotW) (s := numW l1.length s) hlt PA.z47
      have hle : (foldW slotW (l1.take (k + 1)) (numW l1.length s)).1.length ≤ 1000000000 := Nat.le_trans (foldW_le slotW_len l1 (k + 1) _) (Nat.le_trans (rowW2_len l2 _) HL.out)
      rw [hst] at hle
      generalize l1.getD k PA.z47 = x at *
      obtain ⟨f0, f1, f2, f3, f4⟩ := x
      simp only at *
      have hle0 := Nat.le_trans (numW_len f0 _) (Nat.le_trans (valW_len ⟨f1, f2, f3, f4⟩ _) hle)
      have hle1 := Nat.le_trans (valW_len ⟨f1, f2, f3, f4⟩ _) hle
      have HST := Aside0.mk hst
      clear hst hle
      generalize foldW slotW (l1.take k) (numW l1.length s) = st at *
      have HAL := Aside0.mk (below_alloc (Below.refl _ wr) (.cells #[.int .i64 f0, .int .i64 f1, .int .i64 f2, .string f3, .bool f4] 47))
      have hnum := num_calls (n := f0) (HW.out.below HAL.out) hle0
      have HBN := Aside0.mk (blk_new wr (.cells #[.int .i64 f0, .int .i64 f1, .int .i64 f2, .string f3, .bool f4] 47))
      have hBr := HW.out.lt
      have HNE := Aside0.mk (HW.out.new (Nat.le_refl _))
      have HWF := Aside0.mk hwf
      have HLE := Aside0.mk hle1
      clear hwf hle0 hle1
      go_wp2_with fail
      refine hnum.mono ?_
      rintro e w2 ⟨rfl, v2, hq1, hq2⟩
      clear hnum d0 d1 d2 d3 d4
      have hb47 := hq2.keep HBN.out (by omega) HNE.out
      have d0 := (blk_cell hb47 0).trans rfl
      have d1 := (blk_cell hb47 1).trans rfl
      have d2 := (blk_cell hb47 2).trans rfl
      have d3 := (blk_cell hb47 3).trans rfl
      have d4 := (blk_cell hb47 4).trans rfl
      have hl47 := blk_lt hb47
      have hval := val_calls (x := ⟨f1, f2, f3, f4⟩) hq1 HWF.out HLE.out
      simp only [aggV] at hval
      have HQ2 := Aside0.mk hq2
      clear hq1 hq2 hb47
      go_wp2_with fail
      refine hval.mono ?_
      rintro e w3 ⟨rfl, v3, hq3, hq4⟩
      clear hval d0 d1 d2 d3 d4
      have HQ3 := Aside0.mk hq3
      have HQ4 := Aside0.mk hq4
      clear hq3 hq4
      go_wp2_with fail
      go_roundw
      case rel => exact ⟨k + 1, v3, by omega, by go_num, ⟨by rw [HST.out]; exact HQ3.out⟩, ⟨HS.out.trans ((WS.left HAL.out HQ2.out).trans HQ4.out)⟩⟩
      case measure => simp [intOf]; omega
    · have hk' : k = l1.length := by omega
      subst hk'
      have hw1 := HW.out
      rw [List.take_length] at hw1
      have hle : (rowW2 l2 (foldW slotW l1 (numW l1.length s))).1.length ≤ 1000000000 := HL.out
      generalize hG : foldW slotW l1 (numW l1.length s) = st at *
      have HG : Aside0 (rowW ⟨l1, l2⟩ s = rowW2 l2 st) := Aside0.mk (by rw [← hG]; rfl)
      clear hG
      have hnum := num_calls (n := (l2.length : Int)) hw1 (Nat.le_trans (rowW2_len l2 _) hle)
      have hbx := HS.out.keep (blk_new w (.cells #[.slice A1 l1.length c1, .slice A2 l2.length c2] 43)) (by omega) HN.out
      have hx1 := (blk_cell hbx 1).trans rfl
      have hxl := blk_lt hbx
      have HLE := Aside0.mk hle
      clear hw1 hle HW hbx
      go_wp2_with fail
      refine hnum.mono ?_
      rintro e w2 ⟨rfl, v2, hw2, hs2⟩
      clear hnum hx1 hxl
      have hbx := (HS.out.trans hs2).keep (blk_new w (.cells #[.slice A1 l1.length c1, .slice A2 l2.length c2] 43)) (by omega) HN.out
      have hx1 := (blk_cell hbx 1).trans rfl
      have hxl := blk_lt hbx
      have HW2 := Aside0.mk hw2
      have HS2 := Aside0.mk (HS.out.trans hs2)
      clear hw2 hs2 hbx HS
      go_wp2_with fail
      clear hx1 hxl
      go_loopw [37] (fun v37 wq => ∃ (k : Nat) (v' : Value), k ≤ l2.length ∧ v37 = .int .i64 (k : Int) ∧ Aside0 (WR w0 wq B v' (foldW confW (l2.take k) (numW l2.length st)).1 (foldW confW (l2.take k) (numW l2.length st)).2) ∧ Aside0 (WS (w.alloc (.cells #[.slice A1 l1.length c1, .slice A2 l2.length c2] 43)) wq B v v')) (fun v37 _ => l2.length - (intOf v37).toNat)
      case atStart => exact ⟨0, v2, Nat.zero_le _, rfl, HW2, HS2⟩
      case round =>
        obtain ⟨k, v', hk, rfl, HW, HS⟩ := hrel
        clear HW2 HS2
        by_cases hlt : k < l2.length
        · have hk1 : k + 1 ≤ 9223372036854775807 := by omega
          obtain ⟨ad, A3, c3, rfl, d0, d1, hl3, hc3⟩ := at49 HW.out.bel HC2.out k hlt
          have hwf := HX.out.2 _ (getD_mem' (z := PA.z49) hlt)
          have hst := foldW_step (f := confW) (s := numW l2.length st) hlt PA.z49
          have hle : (foldW confW (l2.take (k + 1)) (numW l2.length st)).1.length ≤ 1000000000 := Nat.le_trans (foldW_le confW_len l2 (k + 1) _) HLE.out
          rw [hst] at hle
          generalize l2.getD k PA.z49 = x at *
          obtain ⟨f0, fs⟩ := x
          simp only at *
          have hle0 := Nat.le_trans (numW_len f0 _) (Nat.le_trans (valsW_len fs _) hle)
          have hle1 : (valsW fs (numW f0 _)).1.length ≤ 1000000000 := hle
          have HST := Aside0.mk hst
          clear hst hle
          generalize foldW confW (l2.take k) (numW l2.length st) = sr at *
          have HAL := Aside0.mk (below_alloc (Below.refl _ wr) (.cells #[.int .i64 f0, .slice A3 fs.length c3] 49))
          have hnum := num_calls (n := f0) (HW.out.below HAL.out) hle0
          have HBN := Aside0.mk (blk_new wr (.cells #[.int .i64 f0, .slice A3 fs.length c3] 49))
          have hBr := HW.out.lt
          have HNE := Aside0.mk (HW.out.new (Nat.le_refl _))
          have HWF := Aside0.mk hwf
          have HLF := Aside0.mk hle1
          have HC3 := Aside0.mk hc3
          have HL3 := Aside0.mk hl3
          clear hwf hle0 hle1 hc3 hl3
          go_wp2_with fail
          refine hnum.mono ?_
          rintro e w3 ⟨rfl, v3, hq1, hq2⟩
          clear hnum d0 d1
          have hb49 := hq2.keep HBN.out (by omega) HNE.out
          have d0 := (blk_cell hb49 0).trans rfl
          have d1 := (blk_cell hb49 1).trans rfl
          have hl49 := blk_lt hb49
          have hvals := vals_calls hq1 HC3.out HL3.out HWF.out HLF.out
          have HQ2 := Aside0.mk hq2
          clear hq1 hq2 hb49
          go_wp2_with fail
          refine hvals.mono ?_
          rintro e w4 ⟨rfl, v4, hq3, hq4⟩
          clear hvals d0 d1
          have HQ3 := Aside0.mk hq3
          have HQ4 := Aside0.mk hq4
          clear hq3 hq4
          go_wp2_with fail
          go_roundw
          case rel => exact ⟨k + 1, v4, by omega, by go_num, ⟨by rw [HST.out]; exact HQ3.out⟩, ⟨HS.out.trans ((WS.left HAL.out HQ2.out).trans HQ4.out)⟩⟩
          case measure => simp [intOf]; omega
        · have hk' : k = l2.length := by omega
          subst hk'
          go_wp2_with fail
          (first | go_end0 | ((try simp only [Exit.inBlock, Exit.then]); refine bodyPost_ret (results_none rfl _ _ _) rfl ?_))
          have h1 := HW.out
          rw [List.take_length] at h1
          refine ⟨rfl, v', ?_, WS.left HA.out HS.out⟩
          rw [HG.out]
          exact h1
end Go.Proofs.YtpidhnnckolapaaGreatDoor.K
namespace Go.Proofs.YtpidhnnckolapaaGreatDoor.K
open Go.RowKit Go.Proofs.YtpidhnnckolapaaGreatDoorW.PrintWords Go.Proofs.YtpidhnnckolapaaGreatDoorW.PrintLast
set_option linter.unusedVariables false
set_option linter.unusedSimpArgs false
/-- What is put: the writer's state at the end. -/
def putW (a b c d : Int) (l4 : List (List PA.S45)) (l5 : List PA.S43) : List Int × Int :=
  foldW rowW l5 (numW l5.length (foldW valsW l4 (numW l4.length (foldW numW [a, b, c, d] ([81], 0)))))
def PutPost (w : World) (s : List Int × Int) (e : Ending) (w' : World) : Prop :=
  Below w.heap.size w w' ∧ ((s.2 = 0 ∧ ∃ v, e = .returned (.tuple #[v, .int .i64 0]) ∧ Kd.R (Kd.int .u8) 5 w' w.heap.size (new w) v s.1) ∨ (s.2 ≠ 0 ∧ e = .returned (.tuple #[.slice none 0 0, .int .i64 s.2])))
def wfS (l4 : List (List PA.S45)) (l5 : List PA.S43) : Prop := (∀ y ∈ l4, ∀ z ∈ y, wfV z) ∧ ∀ y ∈ l5, wfR y
theorem atL4 {w0 w : World} (hb : Below w0.heap.size w0 w) {A : Option Addr} {xs : List (List PA.S45)} (h : Kd.C (Kd.slice 45 PA.k45) w0 A xs.length xs) (k : Nat) (hk : k < xs.length) : ∃ ad A0 c0, A = some ad ∧ w.cell? (ad.add k) = some (.slice A0 (xs.getD k []).length c0) ∧ (xs.getD k []).length ≤ c0 ∧ Kd.C PA.k45 w0 A0 (xs.getD k []).length (xs.getD k []) := by
  obtain ⟨ad, A1, c1, e, h1, h3, h4⟩ := PA.at_L4 h (k : Int) (by omega) (by omega)
  simp only [Int.toNat_natCast, PA.rd_L4] at h1 h3 h4
  exact ⟨ad, A1, c1, e, pw_cell_below hb h1, h3, h4⟩
theorem at43 {w0 w : World} (hb : Below w0.heap.size w0 w) {A : Option Addr} {xs : List PA.S43} (h : Kd.C PA.k43 w0 A xs.length xs) (k : Nat) (hk : k < xs.length) : ∃ ad A0 c0 A1 c1, A = some ad ∧ w.cell? (ad.add (k * 2)) = some (.slice A0 (xs.getD k PA.z43).f0.length c0) ∧ w.cell? ⟨(ad.add (k * 2)).block, (ad.add (k * 2)).off + 1, none⟩ = some (.slice A1 (xs.getD k PA.z43).f1.length c1) ∧ (xs.getD k PA.z43).f0.length ≤ c0 ∧ Kd.C PA.k47 w0 A0 (xs.getD k PA.z43).f0.length (xs.getD k PA.z43).f0 ∧ (xs.getD k PA.z43).f1.length ≤ c1 ∧ Kd.C PA.k49 w0 A1 (xs.getD k PA.z43).f1.length (xs.getD k PA.z43).f1 := by
  obtain ⟨ad, A0, c0, A1, c1, e, h1, h2, h3, h4, h5, h6⟩ := PA.at_T43 h (k : Int) (by omega) (by omega)
  simp only [Int.toNat_natCast, PA.rd_T43] at h1 h2 h3 h4 h5 h6
  exact ⟨ad, A0, c0, A1, c1, e, pw_cell_below hb h1, pw_cell_below hb h2, h3, h4, h5, h6⟩
/-- The world in which what is put begins to be written. -/
structure PutW (w wB : World) (a b c d : Int) (u4 u5 : Value) : Prop where
  box : wB.heap[w.heap.size]? = some (.cells #[.int .i64 a, .int .i64 b, .int .i64 c, .int .i64 d, u4, u5] 26 (0, 0))
  ns : wB.heap[w.heap.size + 1 + 1 + 1]? = some (.cells #[.int .i64 a, .int .i64 b, .int .i64 c, .int .i64 d] 3 (0, 0))
  wr : WR w wB (w.heap.size + 1 + 1) (.slice (some ⟨w.heap.size + 1, 0, none⟩) 1 1) [81] 0
  sz : wB.heap.size = w.heap.size + 4
theorem PutW.mk' (w : World) (a b c d : Int) (u4 u5 : Value) : PutW w ((((w.alloc (.cells #[.int .i64 a, .int .i64 b, .int .i64 c, .int .i64 d, u4, u5] 26)).alloc (.cells #[.int .u8 81] 5)).alloc (.cells #[.slice (some ⟨w.heap.size + 1, 0, none⟩) 1 1, .int .i64 0] 68)).alloc (.cells #[.int .i64 a, .int .i64 b, .int .i64 c, .int .i64 d] 3)) a b c d u4 u5 := by
  generalize ho : Obj.cells #[.int .i64 a, .int .i64 b, .int .i64 c, .int .i64 d, u4, u5] 26 = o at *
  have h1 : (((w.alloc o).alloc (.cells #[.int .u8 81] 5)).alloc (.cells #[.slice (some ⟨w.heap.size + 1, 0, none⟩) 1 1, .int .i64 0] 68)).heap[w.heap.size + 1 + 1]? = some (.cells #[.slice (some ⟨w.heap.size + 1, 0, none⟩) 1 1, .int .i64 0] 68 (0, 0)) := by
    have := blk_new ((w.alloc o).alloc (.cells #[.int .u8 81] 5)) (.cells #[.slice (some ⟨w.heap.size + 1, 0, none⟩) 1 1, .int .i64 0] 68)
    simpa using this
  have h2 : (((w.alloc o).alloc (.cells #[.int .u8 81] 5)).alloc (.cells #[.slice (some ⟨w.heap.size + 1, 0, none⟩) 1 1, .int .i64 0] 68)).heap[w.heap.size + 1]? = some (.cells #[.int .u8 81] 5 (0, 0)) := by
    refine blk_box ?_
    have := blk_new (w.alloc o) (.cells #[.int .u8 81] 5)
    simpa using this
  refine ⟨blk_box (blk_box (blk_box ?_)), ?_, ?_, ?_⟩
  · subst ho; exact blk_new w _
  · have := blk_new (((w.alloc o).alloc (.cells #[.int .u8 81] 5)).alloc (.cells #[.slice (some ⟨w.heap.size + 1, 0, none⟩) 1 1, .int .i64 0] 68)) (.cells #[.int .i64 a, .int .i64 b, .int .i64 c, .int .i64 d] 3)
    simpa using this
  · refine WR.below ⟨h1, R_block1 h2 (by omega) ⟨by omega, by omega⟩, by omega, ?_⟩ (below_alloc (Below.refl _ _) _)
    exact below_alloc (below_alloc (below_alloc (Below.refl _ _) _) _) _
  · simp
theorem PutW.keep {w wB wr : World} {a b c d : Int} {u4 u5 v' : Value} (h : PutW w wB a b c d u4 u5) (k : WS wB wr (w.heap.size + 1 + 1) (.slice (some ⟨w.heap.size + 1, 0, none⟩) 1 1) v') :
    wr.heap[w.heap.size]? = some (.cells #[.int .i64 a, .int .i64 b, .int .i64 c, .int .i64 d, u4, u5] 26 (0, 0)) ∧ wr.heap[w.heap.size + 1 + 1 + 1]? = some (.cells #[.int .i64 a, .int .i64 b, .int .i64 c, .int .i64 d] 3 (0, 0)) :=
  ⟨k.keep h.box (by omega) (by simp only [Value.ownBlock, ne_eq, Option.some.injEq]; omega), k.keep h.ns (by omega) (by simp only [Value.ownBlock, ne_eq, Option.some.injEq]; omega)⟩
theorem cell4 {w : World} {g : Nat} {a b c d : Int} {t : TypeId} (h : w.heap[g]? = some (.cells #[.int .i64 a, .int .i64 b, .int .i64 c, .int .i64 d] t (0, 0))) (k : Nat) (hk : k < 4) : w.cell? ⟨g, k, none⟩ = some (.int .i64 ([a, b, c, d].getD k 0)) := by
  have : k = 0 ∨ k = 1 ∨ k = 2 ∨ k = 3 := by omega
  rcases this with rfl | rfl | rfl | rfl <;> exact (blk_cell h _).trans rfl
set_option maxHeartbeats 16000000 in
set_option maxRecDepth 100000 in
theorem Put_calls {w : World} {a b c d : Int} {A4 A5 : Option Addr} {c4 c5 : Nat} {l4 : List (List PA.S45)} {l5 : List PA.S43} (hc4 : Kd.C (Kd.slice 45 PA.k45) w A4 l4.length l4) (hl4 : l4.length ≤ c4) (hc5 : Kd.C PA.k43 w A5 l5.length l5) (hl5 : l5.length ≤ c5) (hx : wfS l4 l5) (hl : (putW a b c d l4 l5).1.length ≤ 1000000000) :
    Calls Tryz.prog 7 #[.agg #[.int .i64 a, .int .i64 b, .int .i64 c, .int .i64 d, .slice A4 l4.length c4, .slice A5 l5.length c5]] w (PutPost w (putW a b c d l4 l5)) := by
  have hm4 := Kd.C_max hc4
  have hm5 := Kd.C_max hc5
  have HC4 := Aside0.mk hc4
  have HC5 := Aside0.mk hc5
  have HX := Aside0.mk hx
  have HL := Aside0.mk hl
  have HP := Aside0.mk (PutW.mk' w a b c d (.slice A4 l4.length c4) (.slice A5 l5.length c5))
  clear hc4 hc5 hx hl
  go_enter Tryz.func7, Tryz.ntmps7
  go_wp2_with fail
  generalize hW : (((w.alloc (.cells #[.int .i64 a, .int .i64 b, .int .i64 c, .int .i64 d, .slice A4 l4.length c4, .slice A5 l5.length c5] 26)).alloc (.cells #[.int .u8 81] 5)).alloc (.cells #[.slice (some ⟨w.heap.size + 1, 0, none⟩) 1 1, .int .i64 0] 68)).alloc (.cells #[.int .i64 a, .int .i64 b, .int .i64 c, .int .i64 d] 3) = wB at *
  clear hW
  have hwB := HP.out.wr.bel.size
  have hsz := HP.out.sz
  go_loopw [24] (fun v24 wr => ∃ (k : Nat) (v' : Value), k ≤ 4 ∧ v24 = .int .i64 (k : Int) ∧ Aside0 (WR w wr (w.heap.size + 1 + 1) v' (foldW numW ([a, b, c, d].take k) ([81], 0)).1 (foldW numW ([a, b, c, d].take k) ([81], 0)).2) ∧ Aside0 (WS wB wr (w.heap.size + 1 + 1) (.slice (some ⟨w.heap.size + 1, 0, none⟩) 1 1) v')) (fun v24 _ => 4 - (intOf v24).toNat)
  case atStart => exact ⟨0, _, Nat.zero_le _, rfl, ⟨HP.out.wr⟩, ⟨WS.below (Below.refl _ _)⟩⟩
  case round =>
    obtain ⟨k, v', hk, rfl, HW, HS⟩ := hrel
    by_cases hlt : k < 4
    · obtain ⟨_, hns⟩ := HP.out.keep HS.out
      have d0 := cell4 hns k hlt
      have hnl := blk_lt hns
      have hst := foldW_step (f := numW) (l := [a, b, c, d]) (s := ([81], 0)) hlt 0
      have hle : (foldW numW ([a, b, c, d].take k) ([81], 0)).1.length ≤ 1000000000 := Nat.le_trans (foldW_le numW_len [a, b, c, d] k _) (Nat.le_trans (Nat.le_trans (numW_len _ _) (Nat.le_trans (foldW_len valsW_len _ _) (Nat.le_trans (numW_len _ _) (foldW_len rowW_len _ _)))) HL.out)
      generalize [a, b, c, d].getD k 0 = n at *
      have HST := Aside0.mk hst
      generalize foldW numW ([a, b, c, d].take k) ([81], 0) = st at *
      have hnum := num_calls (n := n) HW.out hle
      clear hst hle hns
      go_wp2_with fail
      refine hnum.mono ?_
      rintro e w2 ⟨rfl, v2, hq1, hq2⟩
      clear hnum d0
      have HQ1 := Aside0.mk hq1
      have HQ2 := Aside0.mk hq2
      clear hq1 hq2
      go_wp2_with fail
      go_roundw
      case rel => exact ⟨k + 1, v2, by omega, by go_num, ⟨by rw [HST.out]; exact HQ1.out⟩, ⟨HS.out.trans HQ2.out⟩⟩
      case measure => simp [intOf]; omega
    · have hk' : k = 4 := by omega
      subst hk'
      have hw1 := HW.out
      rw [show [a, b, c, d].take 4 = [a, b, c, d] from rfl] at hw1
      have hle : (foldW rowW l5 (numW l5.length (foldW valsW l4 (numW l4.length (foldW numW [a, b, c, d] ([81], 0)))))).1.length ≤ 1000000000 := HL.out
      have hG : putW a b c d l4 l5 = foldW rowW l5 (numW l5.length (foldW valsW l4 (numW l4.length (foldW numW [a, b, c, d] ([81], 0))))) := rfl
      generalize foldW numW [a, b, c, d] ([81], 0) = st at *
      have hle1 := Nat.le_trans (Nat.le_trans (numW_len l4.length st) (Nat.le_trans (foldW_len valsW_len _ _) (Nat.le_trans (numW_len _ _) (foldW_len rowW_len _ _)))) hle
      have hnum := num_calls (n := (l4.length : Int)) hw1 hle1
      obtain ⟨hbx, _⟩ := HP.out.keep HS.out
      have x4 := (blk_cell hbx 4).trans rfl
      have hxl := blk_lt hbx
      have HLE := Aside0.mk hle
      have HG := Aside0.mk hG
      clear hw1 hle hle1 hG hbx HW
      go_wp2_with fail
      refine hnum.mono ?_
      rintro e w2 ⟨rfl, v2, hw2, hs2⟩
      clear hnum x4 hxl
      have HW2 := Aside0.mk hw2
      have HS2 := Aside0.mk (HS.out.trans hs2)
      obtain ⟨hbx, _⟩ := HP.out.keep HS2.out
      have x4 := (blk_cell hbx 4).trans rfl
      have hxl := blk_lt hbx
      clear hw2 hs2 hbx HS
      go_wp2_with fail
      clear x4 hxl
      go_loopw [40] (fun v40 wr => ∃ (k : Nat) (v' : Value), k ≤ l4.length ∧ v40 = .int .i64 (k : Int) ∧ Aside0 (WR w wr (w.heap.size + 1 + 1) v' (foldW valsW (l4.take k) (numW l4.length st)).1 (foldW valsW (l4.take k) (numW l4.length st)).2) ∧ Aside0 (WS wB wr (w.heap.size + 1 + 1) (.slice (some ⟨w.heap.size + 1, 0, none⟩) 1 1) v')) (fun v40 _ => l4.length - (intOf v40).toNat)
      case atStart => exact ⟨0, v2, Nat.zero_le _, rfl, HW2, HS2⟩
      case round =>
        obtain ⟨k, v', hk, rfl, HW, HS⟩ := hrel
        clear HW2 HS2
        by_cases hlt : k < l4.length
        · have hk1 : k + 1 ≤ 9223372036854775807 := by omega
          obtain ⟨ad, A0, c0, rfl, d0, hl0, hc0⟩ := atL4 HW.out.bel HC4.out k hlt
          have hwf := HX.out.1 _ (getD_mem' (z := []) hlt)
          have hst := foldW_step (f := valsW) (s := numW l4.length st) hlt []
          have hle : (foldW valsW (l4.take (k + 1)) (numW l4.length st)).1.length ≤ 1000000000 := Nat.le_trans (foldW_le valsW_len l4 (k + 1) _) (Nat.le_trans (Nat.le_trans (numW_len _ _) (foldW_len rowW_len _ _)) HLE.out)
          rw [hst] at hle
          generalize l4.getD k [] = xs at *
          have HST := Aside0.mk hst
          generalize foldW valsW (l4.take k) (numW l4.length st) = sr at *
          have hvals := vals_calls HW.out hc0 hl0 hwf hle
          clear hst hle hwf hc0 hl0
          go_wp2_with fail
          refine hvals.mono ?_
          rintro e w3 ⟨rfl, v3, hq1, hq2⟩
          clear hvals d0
          have HQ1 := Aside0.mk hq1
          have HQ2 := Aside0.mk hq2
          clear hq1 hq2
          go_wp2_with fail
          go_roundw
          case rel => exact ⟨k + 1, v3, by omega, by go_num, ⟨by rw [HST.out]; exact HQ1.out⟩, ⟨HS.out.trans HQ2.out⟩⟩
          case measure => simp [intOf]; omega
        · have hk' : k = l4.length := by omega
          subst hk'
          have hw1 := HW.out
          rw [List.take_length] at hw1
          have hle := HLE.out
          have hG := HG.out
          generalize foldW valsW l4 (numW l4.length st) = sv at *
          have hle1 := Nat.le_trans (Nat.le_trans (numW_len l5.length sv) (foldW_len rowW_len _ _)) hle
          have hnum := num_calls (n := (l5.length : Int)) hw1 hle1
          obtain ⟨hbx, _⟩ := HP.out.keep HS.out
          have x5 := (blk_cell hbx 5).trans rfl
          have hxl := blk_lt hbx
          have HLF := Aside0.mk hle
          have HG' := Aside0.mk hG
          clear hw1 hle hle1 hG hbx HW HG HLE
          go_wp2_with fail
          refine hnum.mono ?_
          rintro e w2 ⟨rfl, v2, hw2, hs2⟩
          clear hnum x5 hxl
          have HW2 := Aside0.mk hw2
          have HS2 := Aside0.mk (HS.out.trans hs2)
          obtain ⟨hbx, _⟩ := HP.out.keep HS2.out
          have x5 := (blk_cell hbx 5).trans rfl
          have hxl := blk_lt hbx
          clear hw2 hs2 hbx HS
          go_wp2_with fail
          clear x5 hxl
          go_loopw [56] (fun v56 wr => ∃ (k : Nat) (v' : Value), k ≤ l5.length ∧ v56 = .int .i64 (k : Int) ∧ Aside0 (WR w wr (w.heap.size + 1 + 1) v' (foldW rowW (l5.take k) (numW l5.length sv)).1 (foldW rowW (l5.take k) (numW l5.length sv)).2) ∧ Aside0 (WS wB wr (w.heap.size + 1 + 1) (.slice (some ⟨w.heap.size + 1, 0, none⟩) 1 1) v')) (fun v56 _ => l5.length - (intOf v56).toNat)
          case atStart => exact ⟨0, v2, Nat.zero_le _, rfl, HW2, HS2⟩
          case round =>
            obtain ⟨k, v', hk, rfl, HW, HS⟩ := hrel
            clear HW2 HS2
            by_cases hlt : k < l5.length
            · have hk1 : k + 1 ≤ 9223372036854775807 := by omega
              obtain ⟨ad, A0, c0, A1, c1, rfl, d0, d1, hl0, hc0, hl1, hc1⟩ := at43 HW.out.bel HC5.out k hlt
              have hwf := HX.out.2 _ (getD_mem' (z := PA.z43) hlt)
              have hst := foldW_step (f := rowW) (s := numW l5.length sv) hlt PA.z43
              have hle : (foldW rowW (l5.take (k + 1)) (numW l5.length sv)).1.length ≤ 1000000000 := Nat.le_trans (foldW_le rowW_len l5 (k + 1) _) HLF.out
              rw [hst] at hle
              generalize l5.getD k PA.z43 = x at *
              have HST := Aside0.mk hst
              generalize foldW rowW (l5.take k) (numW l5.length sv) = sr at *
              have HAL := Aside0.mk (below_alloc (Below.refl _ wr) (.cells #[.slice A0 x.f0.length c0, .slice A1 x.f1.length c1] 43))
              have hrow := row_calls (HW.out.below HAL.out) hc0 hl0 hc1 hl1 hwf hle
              clear hst hle hwf hc0 hl0 hc1 hl1
              go_wp2_with fail
              refine hrow.mono ?_
              rintro e w3 ⟨rfl, v3, hq1, hq2⟩
              clear hrow d0 d1
              have HQ1 := Aside0.mk hq1
              have HQ2 := Aside0.mk hq2
              clear hq1 hq2
              go_wp2_with fail
              go_roundw
              case rel => exact ⟨k + 1, v3, by omega, by go_num, ⟨by rw [HST.out]; exact HQ1.out⟩, ⟨HS.out.trans (WS.left HAL.out HQ2.out)⟩⟩
              case measure => simp [intOf]; omega
            · have hk' : k = l5.length := by omega
              subst hk'
              have hw1 := HW.out
              rw [List.take_length] at hw1
              have hG := HG'.out
              generalize foldW rowW l5 (numW l5.length sv) = sf at *
              obtain ⟨out, bad⟩ := sf
              simp only at hw1
              have b0 := (blk_cell hw1.blk 0).trans rfl
              have b1 := (blk_cell hw1.blk 1).trans rfl
              have hbl := hw1.lt
              have HF := Aside0.mk hw1
              have HGG := Aside0.mk hG
              clear hw1 hG HG' HW HS HLF HL
              by_cases hz : bad = 0
              · subst hz
                go_wp2
                go_ret2
                rw [HGG.out]
                exact ⟨HF.out.bel, .inl ⟨rfl, v', rfl, Kd.R_mono HF.out.row (fun k hk => hk.1)⟩⟩
              · have hz1 : (bad != 0) = true := bne_iff_ne.mpr hz
                have HZ := Aside0.mk hz
                clear hz
                go_wp2_with fail
                go_quiet (fail)
                go_wp2
                go_ret2
                rw [HGG.out]
                exact ⟨pw_below_drewN HF.out.bel _, .inr ⟨HZ.out, rfl⟩⟩
end Go.Proofs.YtpidhnnckolapaaGreatDoor.K
