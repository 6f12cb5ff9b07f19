/- The law's closed automaton (awake): entries and tables. -/
import Derived.Laws.EntriesVeiled
import Derived.Test.YtpidhnnckolapaaGreatDoorUg13
namespace Go.Proofs.YtpidhnnckolapaaGreatDoor.K
open Go.RowKit Go.Proofs.YtpidhnnckolapaaGreatDoorW.PrintWords Go.Proofs.YtpidhnnckolapaaGreatDoorW.PrintLast
set_option linter.unusedVariables false
set_option linter.unusedSimpArgs false
theorem info9 : (Tryz.prog.info? 9).map (fun i => (i.zero, i.size, i.bytes)) = some (some (.string ⟨#[]⟩), 1, 16) := by kernel_rfl
theorem StAt.of_C {w : World} {A : Option Addr} {n : Nat} (h : Kd.C Kd.string w A n [⟨#[115]⟩]) : n = 1 ∧ ∃ a, A = some a ∧ StAt w a := by
  obtain ⟨h1, _, h2⟩ := h
  have hn : n = 1 := h1.symm
  subst hn
  obtain ⟨ad, rfl, h3⟩ := h2 (by omega)
  obtain ⟨c, _, hR, hc⟩ := h3 0 _ rfl
  have : c = [.string ⟨#[115]⟩] := hR
  subst this
  refine ⟨rfl, ad, rfl, ?_⟩
  have := hc 0 _ rfl
  rwa [Nat.zero_mul, Nat.add_zero, addz] at this
set_option maxHeartbeats 4000000 in
set_option maxRecDepth 100000 in
theorem head_q {w : World} {g : Nat} (hg : w.heap[g]? = some (.cells #[.string ⟨#[115]⟩, .bool false, .bool false] 51 (0, 0))) (hW : WordsAt w) : Calls Tryz.prog 52 #[.agg #[.string ⟨#[113]⟩, .slice none 0 0, .slice none 0 0, .slice none 0 0, .slice (some ⟨g, 0, none⟩) 1 1, .int .i64 0, .slice none 0 0, .slice none 0 0, .slice none 0 0]] w fun e w' => e = .returned (.bool true) ∧ Below w.heap.size w w' := by
  have hg0 := (blk_cell hg 0).trans rfl
  have hg1 := (blk_cell hg 1).trans rfl
  have hg2 := (blk_cell hg 2).trans rfl
  have hgl := blk_lt hg
  have HW := Aside0.mk hW
  have HB0 := Aside0.mk (below_alloc (below_alloc (Below.refl _ w) (.cells #[.string ⟨#[113]⟩, .slice none 0 0, .slice none 0 0, .slice none 0 0, .slice (some ⟨g, 0, none⟩) 1 1, .int .i64 0, .slice none 0 0, .slice none 0 0, .slice none 0 0] 60)) (.cells #[.string ⟨#[115]⟩, .bool false, .bool false] 51))
  have HX := Aside0.mk (blk_box (o := (.cells #[.string ⟨#[115]⟩, .bool false, .bool false] 51)) (blk_new w (.cells #[.string ⟨#[113]⟩, .slice none 0 0, .slice none 0 0, .slice none 0 0, .slice (some ⟨g, 0, none⟩) 1 1, .int .i64 0, .slice none 0 0, .slice none 0 0, .slice none 0 0] 60)))
  clear hg hW
  go_enter Tryz.func52, Tryz.ntmps52
  go_wp2_with fail
  refine wp_loop_rounds 1 ?_
  rw [rounds_succ]
  go_wp2_with fail
  refine wp_loop_rounds 1 ?_
  rw [rounds_succ]
  go_wp2_with fail
  refine wp_loop_rounds 2 ?_
  rw [rounds_succ]
  go_wp2_with (first | ((with_reducible refine gate_builtin (b := .append) (xs := #[.tmp 46, .tmp 49]) rfl ?_); at_builtin; go_loud (refine Kd.R_append Kd.string (w0 := w) w.heap.size rfl (.tmp 46) (.tmp 49) 182 9 (.string ⟨#[]⟩) 16 rfl Tryz.underlying182 info9 rfl (by decide) (by omega) (.slice none 0 0) [] ⟨#[115]⟩ [.string ⟨#[115]⟩] (new w) (fun _ => False) rfl (Eq.trans (b := Value.slice (some ⟨w.heap.size + 1 + 1, 0, none⟩) 1 1) rfl (by simp)) rfl (fun _ hk => hk.elim) (fun k hk => by simp only [new]; simp at hk; omega) (Kd.R_nil Kd.string 9 _ w.heap.size (new w)) HB0.out (by simp; try omega) (by simp) ?_); intro v1 w1 ho hb1 hgr hat; have HO := Aside0.mk ho; have HB1 := Aside0.mk hb1; have HX1 := Aside0.mk ((hgr.block w.heap.size (by simp; try omega) (by simp [Value.ownBlock])).trans HX.out); clear ho hb1 hgr hat))
  clear hg0 hg1 hg2
  obtain ⟨Av, cv, rfl⟩ := Kd.R_slice HO.out
  obtain ⟨hn1, a, rfl, hst⟩ := StAt.of_C (Kd.R_reads' HO.out).2.2
  have HST := Aside0.mk hst
  have hq0 := (blk_cell HX1.out 0).trans rfl
  have hq1 := (blk_cell HX1.out 1).trans rfl
  have hq2 := (blk_cell HX1.out 2).trans rfl
  have hq3 := (blk_cell HX1.out 3).trans rfl
  have hq4 := (blk_cell HX1.out 4).trans rfl
  have hq5 := (blk_cell HX1.out 5).trans rfl
  have hql := blk_lt HX1.out
  have HW1 := Aside0.mk (HW.out.below HB1.out)
  clear hst
  rw [rounds_succ]
  go_wp2_with fail
  refine (check0 _).mono ?_
  rintro e w2 ⟨rfl, rfl⟩
  go_wp2_with fail
  refine (Name_q HW1.out).mono ?_
  rintro e w2 ⟨rfl, hb2⟩
  have HX2 := Aside0.mk (blk_below HX1.out hb2)
  have HB2 := Aside0.mk hb2
  clear hb2
  go_wp2_with fail
  refine (names0 _).mono ?_
  rintro e w3 ⟨rfl, hb3⟩
  have HX3 := Aside0.mk (blk_below HX2.out hb3)
  have HB3 := Aside0.mk (below_then HB2.out HB2.out.size hb3)
  clear hb3
  go_wp2_with fail
  refine (names_s (w := w3) (show StAt w3 a from pw_cell_below HB3.out HST.out) (HW1.out.below HB3.out)).mono ?_
  rintro e w4 ⟨rfl, hb4⟩
  have HX4 := Aside0.mk (blk_below HX3.out hb4)
  have HB4 := Aside0.mk (below_then HB3.out HB3.out.size hb4)
  clear hb4 hq0 hq1 hq2 hq3 hq4 hq5 hql
  have hq2 := (blk_cell HX4.out 2).trans rfl
  have hq3 := (blk_cell HX4.out 3).trans rfl
  have hq4 := (blk_cell HX4.out 4).trans rfl
  have hq5 := (blk_cell HX4.out 5).trans rfl
  have hql := blk_lt HX4.out
  go_wp2_with fail
  refine (allQ _ _).mono ?_
  rintro e w5 ⟨rfl, rfl⟩
  go_wp2_with fail
  refine (allF _ _).mono ?_
  rintro e w5 ⟨rfl, rfl⟩
  go_wp2_with fail
  go_ret
  exact ⟨rfl, below_then HB1.out HB1.out.size HB4.out⟩
theorem info196 : (Tryz.prog.info? 196).map (fun i => (i.zero, i.size, i.bytes)) = some (some (.agg #[.int .i64 0, .int .i64 0, .int .i64 0]), 3, 24) := by kernel_rfl
set_option maxHeartbeats 4000000 in
set_option maxRecDepth 100000 in
theorem exprs_q (w : World) (g : Nat) : Calls Tryz.prog 76 #[.agg #[.string ⟨#[113]⟩, .slice none 0 0, .slice none 0 0, .slice none 0 0, .slice (some ⟨g, 0, none⟩) 1 1, .int .i64 0, .slice none 0 0, .slice none 0 0, .slice none 0 0]] w fun e w' => ∃ A c, e = .returned (.slice A 0 c) ∧ Below w.heap.size w w' := by
  obtain ⟨i0, hi, hz0, hz1, hz2⟩ := info_parts info196
  have hmk : ∀ u : World, (Instr.makeSlice 193 (.int .i64 0) (.int .i64 0)).run Tryz.prog u = .ok (.slice (some ⟨u.heap.size, 0, none⟩) 0 0) (u.alloc (.cells (madeCells #[.int .i64 0, .int .i64 0, .int .i64 0] 0) 196)) := fun u => by
    have h := run_make (P := Tryz.prog) u 193 196 i0 (.agg #[.int .i64 0, .int .i64 0, .int .i64 0]) Tryz.underlying193 hi hz0 .i64 .i64 0 0 (by omega) (Int.le_refl _) (by rw [hz2]; omega) (by omega)
    simpa [hz1, Value.cells] using h
  clear hi hz0 hz1 hz2
  go_enter Tryz.func76, Tryz.ntmps76
  go_wp2_with fail
  refine wp_loop_rounds 1 ?_
  rw [rounds_succ]
  go_wp2_with fail
  go_ret
  exact ⟨_, _, rfl, below_alloc (below_alloc (Below.refl _ _) _) _⟩
set_option maxHeartbeats 4000000 in
set_option maxRecDepth 100000 in
theorem trans_q (w : World) (g : Nat) : Calls Tryz.prog 53 #[.agg #[.string ⟨#[113]⟩, .slice none 0 0, .slice none 0 0, .slice none 0 0, .slice (some ⟨g, 0, none⟩) 1 1, .int .i64 0, .slice none 0 0, .slice none 0 0, .slice none 0 0]] w fun e w' => e = .returned (.bool true) ∧ Below w.heap.size w w' := by
  have h1 := exprs_q (w.alloc (.cells #[.string ⟨#[113]⟩, .slice none 0 0, .slice none 0 0, .slice none 0 0, .slice (some ⟨g, 0, none⟩) 1 1, .int .i64 0, .slice none 0 0, .slice none 0 0, .slice none 0 0] 60)) g
  have HX := Aside0.mk (blk_new w (.cells #[.string ⟨#[113]⟩, .slice none 0 0, .slice none 0 0, .slice none 0 0, .slice (some ⟨g, 0, none⟩) 1 1, .int .i64 0, .slice none 0 0, .slice none 0 0, .slice none 0 0] 60))
  have HB := Aside0.mk (below_alloc (Below.refl _ w) (.cells #[.string ⟨#[113]⟩, .slice none 0 0, .slice none 0 0, .slice none 0 0, .slice (some ⟨g, 0, none⟩) 1 1, .int .i64 0, .slice none 0 0, .slice none 0 0, .slice none 0 0] 60))
  have hmf : ∀ (fn : Fn) (first cap : Array Value) (w : World), (Instr.makeFunc fn first cap).run Tryz.prog w = .ok (.func fn first cap) w := fun _ _ _ _ => rfl
  go_enter Tryz.func53, Tryz.ntmps53
  go_wp2_with fail
  refine h1.mono ?_
  rintro e w1 ⟨A, c, rfl, hb1⟩
  clear h1
  have hx := blk_below HX.out hb1
  have hq8 : w1.cell? ⟨w.heap.size, 8, none⟩ = some (.slice none 0 0) := (blk_cell hx 8).trans rfl
  have hql := blk_lt hx
  have hql1 : w.heap.size ≤ w1.heap.size := by omega
  have hql2 : w.heap.size ≤ w1.heap.size + 1 := by omega
  have hql3 : w.heap.size < w1.heap.size + 1 := by omega
  have hql4 : w.heap.size < w1.heap.size + 1 + 1 := by omega
  have HB1 := Aside0.mk (below_then HB.out HB.out.size hb1)
  clear hx hb1
  go_wp2_with fail
  refine (allT _ _).mono ?_
  rintro e w2 ⟨rfl, rfl⟩
  go_wp2_with fail
  go_ret
  exact ⟨rfl, below_alloc (below_alloc (below_alloc HB1.out _) _) _⟩
set_option maxHeartbeats 4000000 in
set_option maxRecDepth 100000 in
theorem symbols_q (w : World) (g : Nat) : Calls Tryz.prog 54 #[.agg #[.string ⟨#[113]⟩, .slice none 0 0, .slice none 0 0, .slice none 0 0, .slice (some ⟨g, 0, none⟩) 1 1, .int .i64 0, .slice none 0 0, .slice none 0 0, .slice none 0 0]] w fun e w' => e = .returned (.bool true) ∧ Below w.heap.size w w' := by
  have hmf : ∀ (fn : Fn) (first cap : Array Value) (w : World), (Instr.makeFunc fn first cap).run Tryz.prog w = .ok (.func fn first cap) w := fun _ _ _ _ => rfl
  go_enter Tryz.func54, Tryz.ntmps54
  go_wp2_with fail
  refine wp_loop_rounds 1 ?_
  rw [rounds_succ]
  go_wp2_with fail
  refine (allI _ _).mono ?_
  rintro e w2 ⟨rfl, rfl⟩
  go_wp2_with fail
  refine (allSy _ _).mono ?_
  rintro e w2 ⟨rfl, rfl⟩
  go_wp2_with fail
  refine (allQ _ _).mono ?_
  rintro e w2 ⟨rfl, rfl⟩
  go_wp2_with fail
  go_ret
  exact ⟨rfl, below_alloc (below_alloc (Below.refl _ _) _) _⟩
set_option maxHeartbeats 4000000 in
set_option maxRecDepth 100000 in
theorem Right_q {w : World} {g : Nat} (hg : w.heap[g]? = some (.cells #[.string ⟨#[115]⟩, .bool false, .bool false] 51 (0, 0))) (hW : WordsAt w) : Calls Tryz.prog 27 #[.agg #[.string ⟨#[113]⟩, .slice none 0 0, .slice none 0 0, .slice none 0 0, .slice (some ⟨g, 0, none⟩) 1 1, .int .i64 0, .slice none 0 0, .slice none 0 0, .slice none 0 0]] w fun e w' => e = .returned (.bool true) ∧ Below w.heap.size w w' := by
  have hal := below_alloc (Below.refl _ w) (.cells #[.string ⟨#[113]⟩, .slice none 0 0, .slice none 0 0, .slice none 0 0, .slice (some ⟨g, 0, none⟩) 1 1, .int .i64 0, .slice none 0 0, .slice none 0 0, .slice none 0 0] 60)
  have h1 := few_q (w.alloc (.cells #[.string ⟨#[113]⟩, .slice none 0 0, .slice none 0 0, .slice none 0 0, .slice (some ⟨g, 0, none⟩) 1 1, .int .i64 0, .slice none 0 0, .slice none 0 0, .slice none 0 0] 60)) g
  have HX := Aside0.mk (blk_new w (.cells #[.string ⟨#[113]⟩, .slice none 0 0, .slice none 0 0, .slice none 0 0, .slice (some ⟨g, 0, none⟩) 1 1, .int .i64 0, .slice none 0 0, .slice none 0 0, .slice none 0 0] 60))
  have HG := Aside0.mk (blk_below hg hal)
  have HW := Aside0.mk (hW.below hal)
  have HB := Aside0.mk hal
  clear hal hg hW
  go_enter Tryz.func27, Tryz.ntmps27
  go_wp2_with fail
  refine h1.mono ?_
  rintro e w1 ⟨rfl, hb1⟩
  clear h1
  have hx := blk_below HX.out hb1
  have hq0 := (blk_cell hx 0).trans (rfl : _ = some (.string ⟨#[113]⟩ : Value))
  have hq1 := (blk_cell hx 1).trans (rfl : _ = some (.slice none 0 0 : Value))
  have hq2 := (blk_cell hx 2).trans (rfl : _ = some (.slice none 0 0 : Value))
  have hq3 := (blk_cell hx 3).trans (rfl : _ = some (.slice none 0 0 : Value))
  have hq4 := (blk_cell hx 4).trans (rfl : _ = some (.slice (some ⟨g, 0, none⟩) 1 1 : Value))
  have hq5 := (blk_cell hx 5).trans (rfl : _ = some (.int .i64 0 : Value))
  have hq6 := (blk_cell hx 6).trans (rfl : _ = some (.slice none 0 0 : Value))
  have hq7 := (blk_cell hx 7).trans (rfl : _ = some (.slice none 0 0 : Value))
  have hq8 := (blk_cell hx 8).trans (rfl : _ = some (.slice none 0 0 : Value))
  have hql := blk_lt hx
  have HX1 := Aside0.mk hx
  have HB1 := Aside0.mk hb1
  clear hx hb1
  go_wp2_with fail
  refine (head_q (blk_below HG.out HB1.out) (HW.out.below HB1.out)).mono ?_
  rintro e w2 ⟨rfl, hb2⟩
  have hx := blk_below HX1.out hb2
  clear hq0 hq1 hq2 hq3 hq4 hq5 hq6 hq7 hq8 hql
  have hq0 := (blk_cell hx 0).trans (rfl : _ = some (.string ⟨#[113]⟩ : Value))
  have hq1 := (blk_cell hx 1).trans (rfl : _ = some (.slice none 0 0 : Value))
  have hq2 := (blk_cell hx 2).trans (rfl : _ = some (.slice none 0 0 : Value))
  have hq3 := (blk_cell hx 3).trans (rfl : _ = some (.slice none 0 0 : Value))
  have hq4 := (blk_cell hx 4).trans (rfl : _ = some (.slice (some ⟨g, 0, none⟩) 1 1 : Value))
  have hq5 := (blk_cell hx 5).trans (rfl : _ = some (.int .i64 0 : Value))
  have hq6 := (blk_cell hx 6).trans (rfl : _ = some (.slice none 0 0 : Value))
  have hq7 := (blk_cell hx 7).trans (rfl : _ = some (.slice none 0 0 : Value))
  have hq8 := (blk_cell hx 8).trans (rfl : _ = some (.slice none 0 0 : Value))
  have hql := blk_lt hx
  have HX2 := Aside0.mk hx
  have HB2 := Aside0.mk (below_then HB1.out HB1.out.size hb2)
  clear hx hb2
  go_wp2_with fail
  refine (trans_q _ _).mono ?_
  rintro e w3 ⟨rfl, hb3⟩
  have hx := blk_below HX2.out hb3
  clear hq0 hq1 hq2 hq3 hq4 hq5 hq6 hq7 hq8 hql
  have hq0 := (blk_cell hx 0).trans (rfl : _ = some (.string ⟨#[113]⟩ : Value))
  have hq1 := (blk_cell hx 1).trans (rfl : _ = some (.slice none 0 0 : Value))
  have hq2 := (blk_cell hx 2).trans (rfl : _ = some (.slice none 0 0 : Value))
  have hq3 := (blk_cell hx 3).trans (rfl : _ = some (.slice none 0 0 : Value))
  have hq4 := (blk_cell hx 4).trans (rfl : _ = some (.slice (some ⟨g, 0, none⟩) 1 1 : Value))
  have hq5 := (blk_cell hx 5).trans (rfl : _ = some (.int .i64 0 : Value))
  have hq6 := (blk_cell hx 6).trans (rfl : _ = some (.slice none 0 0 : Value))
  have hq7 := (blk_cell hx 7).trans (rfl : _ = some (.slice none 0 0 : Value))
  have hq8 := (blk_cell hx 8).trans (rfl : _ = some (.slice none 0 0 : Value))
  have hql := blk_lt hx
  have HB3 := Aside0.mk (below_then HB2.out HB2.out.size hb3)
  clear hx hb3
  go_wp2_with fail
  refine (symbols_q _ _).mono ?_
  rintro e w4 ⟨rfl, hb4⟩
  have HB4 := Aside0.mk (below_then HB.out HB.out.size (below_then HB3.out HB3.out.size hb4))
  clear hb4
  go_wp2_with fail
  go_ret
  exact ⟨rfl, HB4.out⟩
end Go.Proofs.YtpidhnnckolapaaGreatDoor.K
namespace Go.Proofs.YtpidhnnckolapaaGreatDoor.K
open Go.RowKit Go.Proofs.YtpidhnnckolapaaGreatDoorW.PrintWords Go.Proofs.YtpidhnnckolapaaGreatDoorW.PrintLast
set_option linter.unusedVariables false
set_option linter.unusedSimpArgs false
set_option maxHeartbeats 4000000 in
set_option maxRecDepth 100000 in
theorem indexT (w : World) (f : Value) : Calls Tryz.prog 140 #[.slice none 0 0, f] w fun e w' => e = .returned (.int .i64 (-1)) ∧ w = w' := by
  go_enter Tryz.func140, Tryz.ntmps140
  go_wp2_with fail
  refine wp_loop_rounds 1 ?_
  rw [rounds_succ]
  go_wp2_with fail
  go_ret
  exact ⟨rfl, rfl⟩
set_option maxHeartbeats 4000000 in
set_option maxRecDepth 100000 in
theorem containsT (w : World) (f : Value) : Calls Tryz.prog 104 #[.slice none 0 0, f] w fun e w' => e = .returned (.bool false) ∧ w = w' := by
  go_enter Tryz.func104, Tryz.ntmps104
  go_wp2_with fail
  refine (indexT _ _).mono ?_
  rintro e w2 ⟨rfl, rfl⟩
  go_wp2_with fail
  go_ret
  exact ⟨rfl, rfl⟩
set_option maxHeartbeats 4000000 in
set_option maxRecDepth 100000 in
theorem Plain_q (w : World) (g : Nat) : Calls Tryz.prog 56 #[.agg #[.string ⟨#[113]⟩, .slice none 0 0, .slice none 0 0, .slice none 0 0, .slice (some ⟨g, 0, none⟩) 1 1, .int .i64 0, .slice none 0 0, .slice none 0 0, .slice none 0 0]] w fun e w' => e = .returned (.bool true) ∧ Below w.heap.size w w' := by
  go_enter Tryz.func56, Tryz.ntmps56
  go_wp2_with fail
  refine (containsT _ _).mono ?_
  rintro e w2 ⟨rfl, rfl⟩
  go_wp2_with fail
  go_ret
  exact ⟨rfl, below_alloc (Below.refl _ _) _⟩
set_option maxHeartbeats 4000000 in
set_option maxRecDepth 100000 in
theorem subset_q {w : World} {g : Nat} (hg : w.heap[g]? = some (.cells #[.string ⟨#[115]⟩, .bool false, .bool false] 51 (0, 0))) (hW : WordsAt w) : Calls Tryz.prog 31 #[.agg #[.string ⟨#[113]⟩, .slice none 0 0, .slice none 0 0, .slice none 0 0, .slice (some ⟨g, 0, none⟩) 1 1, .int .i64 0, .slice none 0 0, .slice none 0 0, .slice none 0 0]] w fun e w' => ∃ p, e = .returned (.pointer (some p)) ∧ Below w.heap.size w w' := by
  have hal := below_alloc (Below.refl _ w) (.cells #[.string ⟨#[113]⟩, .slice none 0 0, .slice none 0 0, .slice none 0 0, .slice (some ⟨g, 0, none⟩) 1 1, .int .i64 0, .slice none 0 0, .slice none 0 0, .slice none 0 0] 60)
  have h1 := Right_q (blk_below hg hal) (hW.below hal)
  have HX := Aside0.mk (blk_new w (.cells #[.string ⟨#[113]⟩, .slice none 0 0, .slice none 0 0, .slice none 0 0, .slice (some ⟨g, 0, none⟩) 1 1, .int .i64 0, .slice none 0 0, .slice none 0 0, .slice none 0 0] 60))
  have HB := Aside0.mk hal
  have hmm := @run_makeMap Tryz.prog
  clear hal hg hW
  go_enter Tryz.func31, Tryz.ntmps31
  go_wp2_with fail
  refine h1.mono ?_
  rintro e w1 ⟨rfl, hb1⟩
  clear h1
  have hx := blk_below HX.out hb1
  have hq0 := (blk_cell hx 0).trans (rfl : _ = some (.string ⟨#[113]⟩ : Value))
  have hq1 := (blk_cell hx 1).trans (rfl : _ = some (.slice none 0 0 : Value))
  have hq2 := (blk_cell hx 2).trans (rfl : _ = some (.slice none 0 0 : Value))
  have hq3 := (blk_cell hx 3).trans (rfl : _ = some (.slice none 0 0 : Value))
  have hq4 := (blk_cell hx 4).trans (rfl : _ = some (.slice (some ⟨g, 0, none⟩) 1 1 : Value))
  have hq5 := (blk_cell hx 5).trans (rfl : _ = some (.int .i64 0 : Value))
  have hq6 := (blk_cell hx 6).trans (rfl : _ = some (.slice none 0 0 : Value))
  have hq7 := (blk_cell hx 7).trans (rfl : _ = some (.slice none 0 0 : Value))
  have hq8 := (blk_cell hx 8).trans (rfl : _ = some (.slice none 0 0 : Value))
  have hql := blk_lt hx
  have HX1 := Aside0.mk hx
  have HB1 := Aside0.mk (below_then HB.out HB.out.size hb1)
  clear hx hb1
  go_wp2_with fail
  refine (Plain_q _ _).mono ?_
  rintro e w2 ⟨rfl, hb2⟩
  have hx := blk_below HX1.out hb2
  clear hq0 hq1 hq2 hq3 hq4 hq5 hq6 hq7 hq8 hql
  have hq0 := (blk_cell hx 0).trans (rfl : _ = some (.string ⟨#[113]⟩ : Value))
  have hq1 := (blk_cell hx 1).trans (rfl : _ = some (.slice none 0 0 : Value))
  have hq2 := (blk_cell hx 2).trans (rfl : _ = some (.slice none 0 0 : Value))
  have hq3 := (blk_cell hx 3).trans (rfl : _ = some (.slice none 0 0 : Value))
  have hq4 := (blk_cell hx 4).trans (rfl : _ = some (.slice (some ⟨g, 0, none⟩) 1 1 : Value))
  have hq5 := (blk_cell hx 5).trans (rfl : _ = some (.int .i64 0 : Value))
  have hq6 := (blk_cell hx 6).trans (rfl : _ = some (.slice none 0 0 : Value))
  have hq7 := (blk_cell hx 7).trans (rfl : _ = some (.slice none 0 0 : Value))
  have hq8 := (blk_cell hx 8).trans (rfl : _ = some (.slice none 0 0 : Value))
  have hql := blk_lt hx
  have hql1 : w.heap.size < w2.heap.size + 1 := by omega
  have HB2 := Aside0.mk (below_then HB1.out HB1.out.size hb2)
  clear hx hb2
  go_wp2_with fail
  go_ret
  exact ⟨_, rfl, below_alloc (below_alloc HB2.out _) _⟩
theorem info38' : (Tryz.prog.info? 38).map (fun i => (i.zero, i.size, i.bytes)) = some (some (.slice none 0 0), 1, 24) := by kernel_rfl
set_option maxHeartbeats 4000000 in
set_option maxRecDepth 100000 in
theorem Of_q (w : World) (g : Nat) : Calls Tryz.prog 29 #[.agg #[.string ⟨#[113]⟩, .slice none 0 0, .slice none 0 0, .slice none 0 0, .slice (some ⟨g, 0, none⟩) 1 1, .int .i64 0, .slice none 0 0, .slice none 0 0, .slice none 0 0], .slice none 0 0] w fun e w' => ∃ A c, e = .returned (.slice A 0 c) ∧ Below w.heap.size w w' := by
  obtain ⟨i0, hi, hz0, hz1, hz2⟩ := info_parts info38'
  have hmk : ∀ u : World, (Instr.makeSlice 23 (.int .i64 0) (.int .i64 0)).run Tryz.prog u = .ok (.slice (some ⟨u.heap.size, 0, none⟩) 0 0) (u.alloc (.cells (madeCells #[.slice none 0 0] 0) 38)) := fun u => by
    have h := run_make (P := Tryz.prog) u 23 38 i0 (.slice none 0 0) Tryz.underlying23 hi hz0 .i64 .i64 0 0 (by omega) (Int.le_refl _) (by rw [hz2]; omega) (by omega)
    simpa [hz1, Value.cells] using h
  clear hi hz0 hz1 hz2
  go_enter Tryz.func29, Tryz.ntmps29
  go_wp2_with fail
  refine wp_loop_rounds 1 ?_
  rw [rounds_succ]
  go_wp2_with fail
  go_ret
  exact ⟨_, _, rfl, below_alloc (below_alloc (Below.refl _ _) _) _⟩
/-- The table, in the world: two maps and a struct, one behind the other. -/
structure TbAt (w : World) (T a b : Nat) (ea eb : Obj) (last : Int) : Prop where
  tb : w.heap[T]? = some (.cells #[.map (some a), .map (some b), .int .i64 3, .int .i64 last] 138 (0, 0))
  ma : w.heap[a]? = some ea
  mb : w.heap[b]? = some eb
  ab : a < b
  bt : b < T
theorem TbAt.below {w w1 : World} {T a b : Nat} {ea eb : Obj} {last : Int} (h : TbAt w T a b ea eb last) (hb : Below w.heap.size w w1) : TbAt w1 T a b ea eb last :=
  ⟨blk_below h.tb hb, blk_below h.ma hb, blk_below h.mb hb, h.ab, h.bt⟩
set_option maxHeartbeats 4000000 in
set_option maxRecDepth 100000 in
theorem New_t (w : World) : Calls Tryz.prog 28 #[.int .i64 3] w fun e w' => ∃ T a b, e = .returned (.pointer (some ⟨T, 0, none⟩)) ∧ w.heap.size ≤ a ∧ TbAt w' T a b (.map #[] 0) (.map #[] 0) 0 ∧ Below w.heap.size w w' := by
  have hmm := @run_makeMap Tryz.prog
  have h0 := blk_box (o := .cells #[.map (some w.heap.size), .map (some (w.heap.size + 1)), .int .i64 3, .int .i64 0] 138) (blk_box (o := .map #[] 0) (blk_new w (.map #[] 0)))
  have h1 := blk_box (o := .cells #[.map (some w.heap.size), .map (some (w.heap.size + 1)), .int .i64 3, .int .i64 0] 138) (blk_new (w.alloc (.map #[] 0)) (.map #[] 0))
  have h2 := blk_new ((w.alloc (.map #[] 0)).alloc (.map #[] 0)) (.cells #[.map (some w.heap.size), .map (some (w.heap.size + 1)), .int .i64 3, .int .i64 0] 138)
  have hs1 : (w.alloc (.map #[] 0)).heap.size = w.heap.size + 1 := by simp
  have hs2 : ((w.alloc (.map #[] 0)).alloc (.map #[] 0)).heap.size = w.heap.size + 1 + 1 := by simp
  rw [hs1] at h1
  rw [hs2] at h2
  have H0 := Aside0.mk h0
  have H1 := Aside0.mk h1
  have H2 := Aside0.mk h2
  clear h0 h1 h2 hs1 hs2
  go_enter Tryz.func28, Tryz.ntmps28
  go_wp2_with fail
  go_ret
  exact ⟨_, _, _, rfl, Nat.le_refl _, ⟨H2.out, H0.out, H1.out, by omega, by omega⟩, below_alloc (below_alloc (below_alloc (Below.refl _ _) _) _) _⟩
set_option maxHeartbeats 4000000 in
set_option maxRecDepth 100000 in
theorem Room_t {w : World} {T a b : Nat} {ea eb : Obj} {last : Int} (h : TbAt w T a b ea eb last) : Calls Tryz.prog 30 #[.pointer (some ⟨T, 0, none⟩)] w fun e w' => e = .returned (.int .i64 3) ∧ w = w' := by
  have h2 := (blk_cell h.tb 2).trans (rfl : _ = some (.int .i64 3 : Value))
  clear h
  go_enter Tryz.func30, Tryz.ntmps30
  go_wp2_with fail
  go_ret
  exact ⟨rfl, rfl⟩
/-- The set at first: one configuration, of the first state, without values. -/
def StartAt (w : World) (A : Nat) : Prop := w.heap[A]? = some (.cells #[.int .i64 0, .slice none 0 0] 49 (0, 0))
set_option maxHeartbeats 4000000 in
set_option maxRecDepth 100000 in
theorem Start_q (w : World) (g : Nat) : Calls Tryz.prog 34 #[.agg #[.string ⟨#[113]⟩, .slice none 0 0, .slice none 0 0, .slice none 0 0, .slice (some ⟨g, 0, none⟩) 1 1, .int .i64 0, .slice none 0 0, .slice none 0 0, .slice none 0 0]] w fun e w' => ∃ A, e = .returned (.slice (some ⟨A, 0, none⟩) 1 1) ∧ StartAt w' A ∧ w.heap.size ≤ A ∧ Below w.heap.size w w' := by
  have h2 := blk_new ((w.alloc (.cells #[.string ⟨#[113]⟩, .slice none 0 0, .slice none 0 0, .slice none 0 0, .slice (some ⟨g, 0, none⟩) 1 1, .int .i64 0, .slice none 0 0, .slice none 0 0, .slice none 0 0] 60)).alloc (.cells #[.int .i64 0, .slice none 0 0] 49)) (.cells #[.int .i64 0, .slice none 0 0] 49)
  have hs2 : ((w.alloc (.cells #[.string ⟨#[113]⟩, .slice none 0 0, .slice none 0 0, .slice none 0 0, .slice (some ⟨g, 0, none⟩) 1 1, .int .i64 0, .slice none 0 0, .slice none 0 0, .slice none 0 0] 60)).alloc (.cells #[.int .i64 0, .slice none 0 0] 49)).heap.size = w.heap.size + 1 + 1 := by simp
  rw [hs2] at h2
  have H2 := Aside0.mk h2
  clear h2 hs2
  go_enter Tryz.func34, Tryz.ntmps34
  go_wp2_with fail
  refine wp_loop_rounds 1 ?_
  rw [rounds_succ]
  go_wp2_with fail
  go_ret
  exact ⟨_, rfl, H2.out, by omega, below_alloc (below_alloc (below_alloc (Below.refl _ _) _) _) _⟩
end Go.Proofs.YtpidhnnckolapaaGreatDoor.K
