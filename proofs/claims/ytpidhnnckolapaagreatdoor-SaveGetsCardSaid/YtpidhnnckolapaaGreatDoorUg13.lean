/- The law's closed automaton (awake): the words and what a word spells. -/
import Derived.Laws.RangeString
import Derived.Test.YtpidhnnckolapaaGreatDoorUg12
namespace Go.Proofs.YtpidhnnckolapaaGreatDoor.K
open Go.RowKit Go.Proofs.YtpidhnnckolapaaGreatDoorW.PrintWords Go.Proofs.YtpidhnnckolapaaGreatDoorW.PrintLast
set_option linter.unusedVariables false
set_option linter.unusedSimpArgs false
def wordAt : Nat → ByteArray
  | 0 => ⟨#[97, 99, 99, 101, 112, 116]⟩
  | 1 => ⟨#[97, 108, 115, 111]⟩
  | 2 => ⟨#[97, 110, 100]⟩
  | 3 => ⟨#[98, 111, 111, 108]⟩
  | 4 => ⟨#[100, 111]⟩
  | 5 => ⟨#[101, 118, 101, 110, 116]⟩
  | 6 => ⟨#[101, 120, 105, 115, 116, 115]⟩
  | 7 => ⟨#[102, 97, 108, 115, 101]⟩
  | 8 => ⟨#[102, 111, 114, 97, 108, 108]⟩
  | 9 => ⟨#[102, 114, 101, 101]⟩
  | 10 => ⟨#[105, 102]⟩
  | 11 => ⟨#[105, 110, 116]⟩
  | 12 => ⟨#[110, 101, 120, 116]⟩
  | 13 => ⟨#[110, 111, 116]⟩
  | 14 => ⟨#[111, 110]⟩
  | 15 => ⟨#[111, 114]⟩
  | 16 => ⟨#[113, 101, 97]⟩
  | 17 => ⟨#[115, 107, 105, 112]⟩
  | 18 => ⟨#[115, 116, 97, 114, 116]⟩
  | 19 => ⟨#[115, 116, 114, 105, 110, 103]⟩
  | 20 => ⟨#[116, 111]⟩
  | 21 => ⟨#[116, 114, 117, 101]⟩
  | _ => ⟨#[]⟩
/-- The words of package schema, as they lie in memory. -/
def WordsAt (w : World) : Prop := ∀ j : Nat, j < 22 → w.cell? ⟨1, j, none⟩ = some (.string (wordAt j))
theorem WordsAt.below {w w1 : World} (h : WordsAt w) (hb : Below w.heap.size w w1) : WordsAt w1 := fun j hj => pw_cell_below hb (h j hj)
set_option maxHeartbeats 4000000 in
set_option maxRecDepth 100000 in
theorem spelt1_q (w : World) : Calls Tryz.prog 153 #[.int .i32 113] w fun e w' => e = .returned (.bool false) ∧ w = w' := by
  go_enter Tryz.func153, Tryz.ntmps153
  go_wp2
  go_ret
  exact ⟨rfl, rfl⟩
theorem next_q0 (w : World) (ty : TypeId) : (Instr.next (.pointer (some ⟨w.heap.size, 0, none⟩)) true ty).run Tryz.prog (w.iter ⟨#[113]⟩ 0) = .ok (.tuple #[.bool true, .int .i64 0, .int .i32 113]) (w.iter ⟨#[113]⟩ 1) :=
  run_next_ascii (P := Tryz.prog) w ⟨#[113]⟩ 0 ty (by decide) (by decide)
theorem next_q1 (w : World) (ty : TypeId) : (Instr.next (.pointer (some ⟨w.heap.size, 0, none⟩)) true ty).run Tryz.prog (w.iter ⟨#[113]⟩ 1) = .ok (.tuple #[.bool false]) (w.iter ⟨#[113]⟩ 1) :=
  run_next_end (P := Tryz.prog) w ⟨#[113]⟩ 1 ty (by decide)
set_option maxHeartbeats 4000000 in
set_option maxRecDepth 100000 in
theorem indexFunc_q (w : World) : Calls Tryz.prog 181 #[.string ⟨#[113]⟩, .func (.func 153) #[] #[], .bool true] w fun e w' => e = .returned (.int .i64 (-1)) ∧ Below w.heap.size w w' := by
  have h1 := spelt1_q
  have n0 := next_q0 w
  have n1 := next_q1 w
  go_enter Tryz.func181, Tryz.ntmps181
  go_wp2_with fail
  refine wp_loop_rounds 2 ?_
  rw [rounds_succ]
  go_wp2_with fail
  refine (h1 _).mono ?_
  rintro e w1 ⟨rfl, rfl⟩
  go_wp2_with fail
  rw [rounds_succ]
  go_wp2_with fail
  go_ret
  exact ⟨rfl, below_alloc (Below.refl _ _) _⟩
set_option maxHeartbeats 4000000 in
set_option maxRecDepth 100000 in
theorem IndexFunc_q (w : World) : Calls Tryz.prog 154 #[.string ⟨#[113]⟩, .func (.func 153) #[] #[]] w fun e w' => e = .returned (.int .i64 (-1)) ∧ Below w.heap.size w w' := by
  have h1 := indexFunc_q w
  go_enter Tryz.func154, Tryz.ntmps154
  go_wp2_with fail
  refine h1.mono ?_
  rintro e w1 ⟨rfl, hb⟩
  have HB := Aside0.mk hb
  clear hb h1
  go_wp2_with fail
  go_ret
  exact ⟨rfl, HB.out⟩
set_option maxHeartbeats 4000000 in
set_option maxRecDepth 100000 in
theorem Spelt_q (w : World) : Calls Tryz.prog 121 #[.string ⟨#[113]⟩] w fun e w' => e = .returned (.bool true) ∧ Below w.heap.size w w' := by
  have h1 := IndexFunc_q w
  go_enter Tryz.func121, Tryz.ntmps121
  go_wp2_with fail
  refine h1.mono ?_
  rintro e w1 ⟨rfl, hb⟩
  have HB := Aside0.mk hb
  clear hb h1
  go_wp2_with fail
  go_ret
  exact ⟨rfl, HB.out⟩
set_option maxHeartbeats 4000000 in
set_option maxRecDepth 100000 in
theorem words_q {w : World} (hW : WordsAt w) : Calls Tryz.prog 125 #[.slice (some ⟨1, 0, none⟩) 22 22, .string ⟨#[113]⟩] w fun e w' => e = .returned (.int .i64 (-1)) ∧ w = w' := by
  have c0 : w.cell? ⟨1, 0, none⟩ = some (.string ⟨#[97, 99, 99, 101, 112, 116]⟩) := hW 0 (by decide)
  have c1 : w.cell? ⟨1, 1, none⟩ = some (.string ⟨#[97, 108, 115, 111]⟩) := hW 1 (by decide)
  have c2 : w.cell? ⟨1, 2, none⟩ = some (.string ⟨#[97, 110, 100]⟩) := hW 2 (by decide)
  have c3 : w.cell? ⟨1, 3, none⟩ = some (.string ⟨#[98, 111, 111, 108]⟩) := hW 3 (by decide)
  have c4 : w.cell? ⟨1, 4, none⟩ = some (.string ⟨#[100, 111]⟩) := hW 4 (by decide)
  have c5 : w.cell? ⟨1, 5, none⟩ = some (.string ⟨#[101, 118, 101, 110, 116]⟩) := hW 5 (by decide)
  have c6 : w.cell? ⟨1, 6, none⟩ = some (.string ⟨#[101, 120, 105, 115, 116, 115]⟩) := hW 6 (by decide)
  have c7 : w.cell? ⟨1, 7, none⟩ = some (.string ⟨#[102, 97, 108, 115, 101]⟩) := hW 7 (by decide)
  have c8 : w.cell? ⟨1, 8, none⟩ = some (.string ⟨#[102, 111, 114, 97, 108, 108]⟩) := hW 8 (by decide)
  have c9 : w.cell? ⟨1, 9, none⟩ = some (.string ⟨#[102, 114, 101, 101]⟩) := hW 9 (by decide)
  have c10 : w.cell? ⟨1, 10, none⟩ = some (.string ⟨#[105, 102]⟩) := hW 10 (by decide)
  have c11 : w.cell? ⟨1, 11, none⟩ = some (.string ⟨#[105, 110, 116]⟩) := hW 11 (by decide)
  have c12 : w.cell? ⟨1, 12, none⟩ = some (.string ⟨#[110, 101, 120, 116]⟩) := hW 12 (by decide)
  have c13 : w.cell? ⟨1, 13, none⟩ = some (.string ⟨#[110, 111, 116]⟩) := hW 13 (by decide)
  have c14 : w.cell? ⟨1, 14, none⟩ = some (.string ⟨#[111, 110]⟩) := hW 14 (by decide)
  have c15 : w.cell? ⟨1, 15, none⟩ = some (.string ⟨#[111, 114]⟩) := hW 15 (by decide)
  have c16 : w.cell? ⟨1, 16, none⟩ = some (.string ⟨#[113, 101, 97]⟩) := hW 16 (by decide)
  have c17 : w.cell? ⟨1, 17, none⟩ = some (.string ⟨#[115, 107, 105, 112]⟩) := hW 17 (by decide)
  have c18 : w.cell? ⟨1, 18, none⟩ = some (.string ⟨#[115, 116, 97, 114, 116]⟩) := hW 18 (by decide)
  have c19 : w.cell? ⟨1, 19, none⟩ = some (.string ⟨#[115, 116, 114, 105, 110, 103]⟩) := hW 19 (by decide)
  have c20 : w.cell? ⟨1, 20, none⟩ = some (.string ⟨#[116, 111]⟩) := hW 20 (by decide)
  have c21 : w.cell? ⟨1, 21, none⟩ = some (.string ⟨#[116, 114, 117, 101]⟩) := hW 21 (by decide)
  clear hW
  go_enter Tryz.func125, Tryz.ntmps125
  go_wp2_with fail
  refine wp_loop_rounds 23 ?_
  rw [rounds_succ]
  go_wp2_with fail
  rw [rounds_succ]
  go_wp2_with fail
  rw [rounds_succ]
  go_wp2_with fail
  rw [rounds_succ]
  go_wp2_with fail
  rw [rounds_succ]
  go_wp2_with fail
  rw [rounds_succ]
  go_wp2_with fail
  rw [rounds_succ]
  go_wp2_with fail
  rw [rounds_succ]
  go_wp2_with fail
  rw [rounds_succ]
  go_wp2_with fail
  rw [rounds_succ]
  go_wp2_with fail
  rw [rounds_succ]
  go_wp2_with fail
  rw [rounds_succ]
  go_wp2_with fail
  rw [rounds_succ]
  go_wp2_with fail
  rw [rounds_succ]
  go_wp2_with fail
  rw [rounds_succ]
  go_wp2_with fail
  rw [rounds_succ]
  go_wp2_with fail
  rw [rounds_succ]
  go_wp2_with fail
  rw [rounds_succ]
  go_wp2_with fail
  rw [rounds_succ]
  go_wp2_with fail
  rw [rounds_succ]
  go_wp2_with fail
  rw [rounds_succ]
  go_wp2_with fail
  rw [rounds_succ]
  go_wp2_with fail
  rw [rounds_succ]
  go_wp2_with fail
  go_ret
  exact ⟨rfl, rfl⟩
set_option maxHeartbeats 4000000 in
set_option maxRecDepth 100000 in
theorem Contains_q {w : World} (hW : WordsAt w) : Calls Tryz.prog 155 #[.slice (some ⟨1, 0, none⟩) 22 22, .string ⟨#[113]⟩] w fun e w' => e = .returned (.bool false) ∧ w = w' := by
  have h1 := words_q hW
  clear hW
  go_enter Tryz.func155, Tryz.ntmps155
  go_wp2_with fail
  refine h1.mono ?_
  rintro e w1 ⟨rfl, rfl⟩
  go_wp2_with fail
  go_ret
  exact ⟨rfl, rfl⟩
set_option maxHeartbeats 4000000 in
set_option maxRecDepth 100000 in
theorem Word_q {w : World} (hW : WordsAt w) : Calls Tryz.prog 122 #[.string ⟨#[113]⟩] w fun e w' => e = .returned (.bool false) ∧ Below w.heap.size w w' := by
  have h1 := Spelt_q w
  have HW := Aside0.mk hW
  clear hW
  go_enter Tryz.func122, Tryz.ntmps122
  go_wp2_with fail
  refine h1.mono ?_
  rintro e w1 ⟨rfl, hb⟩
  have h2 := Contains_q (HW.out.below hb)
  have HB := Aside0.mk hb
  clear hb h1
  go_wp2_with fail
  refine h2.mono ?_
  rintro e w2 ⟨rfl, rfl⟩
  clear h2
  go_wp2_with fail
  go_ret
  exact ⟨rfl, HB.out⟩
set_option maxHeartbeats 4000000 in
set_option maxRecDepth 100000 in
theorem Name_q {w : World} (hW : WordsAt w) : Calls Tryz.prog 69 #[.string ⟨#[113]⟩] w fun e w' => e = .returned (.bool true) ∧ Below w.heap.size w w' := by
  have h1 := Spelt_q w
  have HW := Aside0.mk hW
  clear hW
  go_enter Tryz.func69, Tryz.ntmps69
  go_wp2_with fail
  refine h1.mono ?_
  rintro e w1 ⟨rfl, hb⟩
  have h2 := Word_q (HW.out.below hb)
  have HB := Aside0.mk hb
  clear hb h1
  go_wp2_with fail
  refine h2.mono ?_
  rintro e w2 ⟨rfl, hb2⟩
  clear h2
  have HB2 := Aside0.mk (below_then HB.out HB.out.size hb2)
  clear hb2
  go_wp2_with fail
  go_ret
  exact ⟨rfl, HB2.out⟩
set_option maxHeartbeats 4000000 in
set_option maxRecDepth 100000 in
theorem spelt1_s (w : World) : Calls Tryz.prog 153 #[.int .i32 115] w fun e w' => e = .returned (.bool false) ∧ w = w' := by
  go_enter Tryz.func153, Tryz.ntmps153
  go_wp2
  go_ret
  exact ⟨rfl, rfl⟩
theorem next_s0 (w : World) (ty : TypeId) : (Instr.next (.pointer (some ⟨w.heap.size, 0, none⟩)) true ty).run Tryz.prog (w.iter ⟨#[115]⟩ 0) = .ok (.tuple #[.bool true, .int .i64 0, .int .i32 115]) (w.iter ⟨#[115]⟩ 1) :=
  run_next_ascii (P := Tryz.prog) w ⟨#[115]⟩ 0 ty (by decide) (by decide)
theorem next_s1 (w : World) (ty : TypeId) : (Instr.next (.pointer (some ⟨w.heap.size, 0, none⟩)) true ty).run Tryz.prog (w.iter ⟨#[115]⟩ 1) = .ok (.tuple #[.bool false]) (w.iter ⟨#[115]⟩ 1) :=
  run_next_end (P := Tryz.prog) w ⟨#[115]⟩ 1 ty (by decide)
set_option maxHeartbeats 4000000 in
set_option maxRecDepth 100000 in
theorem indexFunc_s (w : World) : Calls Tryz.prog 181 #[.string ⟨#[115]⟩, .func (.func 153) #[] #[], .bool true] w fun e w' => e = .returned (.int .i64 (-1)) ∧ Below w.heap.size w w' := by
  have h1 := spelt1_s
  have n0 := next_s0 w
  have n1 := next_s1 w
  go_enter Tryz.func181, Tryz.ntmps181
  go_wp2_with fail
  refine wp_loop_rounds 2 ?_
  rw [rounds_succ]
  go_wp2_with fail
  refine (h1 _).mono ?_
  rintro e w1 ⟨rfl, rfl⟩
  go_wp2_with fail
  rw [rounds_succ]
  go_wp2_with fail
  go_ret
  exact ⟨rfl, below_alloc (Below.refl _ _) _⟩
set_option maxHeartbeats 4000000 in
set_option maxRecDepth 100000 in
theorem IndexFunc_s (w : World) : Calls Tryz.prog 154 #[.string ⟨#[115]⟩, .func (.func 153) #[] #[]] w fun e w' => e = .returned (.int .i64 (-1)) ∧ Below w.heap.size w w' := by
  have h1 := indexFunc_s w
  go_enter Tryz.func154, Tryz.ntmps154
  go_wp2_with fail
  refine h1.mono ?_
  rintro e w1 ⟨rfl, hb⟩
  have HB := Aside0.mk hb
  clear hb h1
  go_wp2_with fail
  go_ret
  exact ⟨rfl, HB.out⟩
set_option maxHeartbeats 4000000 in
set_option maxRecDepth 100000 in
theorem Spelt_s (w : World) : Calls Tryz.prog 121 #[.string ⟨#[115]⟩] w fun e w' => e = .returned (.bool true) ∧ Below w.heap.size w w' := by
  have h1 := IndexFunc_s w
  go_enter Tryz.func121, Tryz.ntmps121
  go_wp2_with fail
  refine h1.mono ?_
  rintro e w1 ⟨rfl, hb⟩
  have HB := Aside0.mk hb
  clear hb h1
  go_wp2_with fail
  go_ret
  exact ⟨rfl, HB.out⟩
set_option maxHeartbeats 4000000 in
set_option maxRecDepth 100000 in
theorem words_s {w : World} (hW : WordsAt w) : Calls Tryz.prog 125 #[.slice (some ⟨1, 0, none⟩) 22 22, .string ⟨#[115]⟩] w fun e w' => e = .returned (.int .i64 (-1)) ∧ w = w' := by
  have c0 : w.cell? ⟨1, 0, none⟩ = some (.string ⟨#[97, 99, 99, 101, 112, 116]⟩) := hW 0 (by decide)
  have c1 : w.cell? ⟨1, 1, none⟩ = some (.string ⟨#[97, 108, 115, 111]⟩) := hW 1 (by decide)
  have c2 : w.cell? ⟨1, 2, none⟩ = some (.string ⟨#[97, 110, 100]⟩) := hW 2 (by decide)
  have c3 : w.cell? ⟨1, 3, none⟩ = some (.string ⟨#[98, 111, 111, 108]⟩) := hW 3 (by decide)
  have c4 : w.cell? ⟨1, 4, none⟩ = some (.string ⟨#[100, 111]⟩) := hW 4 (by decide)
  have c5 : w.cell? ⟨1, 5, none⟩ = some (.string ⟨#[101, 118, 101, 110, 116]⟩) := hW 5 (by decide)
  have c6 : w.cell? ⟨1, 6, none⟩ = some (.string ⟨#[101, 120, 105, 115, 116, 115]⟩) := hW 6 (by decide)
  have c7 : w.cell? ⟨1, 7, none⟩ = some (.string ⟨#[102, 97, 108, 115, 101]⟩) := hW 7 (by decide)
  have c8 : w.cell? ⟨1, 8, none⟩ = some (.string ⟨#[102, 111, 114, 97, 108, 108]⟩) := hW 8 (by decide)
  have c9 : w.cell? ⟨1, 9, none⟩ = some (.string ⟨#[102, 114, 101, 101]⟩) := hW 9 (by decide)
  have c10 : w.cell? ⟨1, 10, none⟩ = some (.string ⟨#[105, 102]⟩) := hW 10 (by decide)
  have c11 : w.cell? ⟨1, 11, none⟩ = some (.string ⟨#[105, 110, 116]⟩) := hW 11 (by decide)
  have c12 : w.cell? ⟨1, 12, none⟩ = some (.string ⟨#[110, 101, 120, 116]⟩) := hW 12 (by decide)
  have c13 : w.cell? ⟨1, 13, none⟩ = some (.string ⟨#[110, 111, 116]⟩) := hW 13 (by decide)
  have c14 : w.cell? ⟨1, 14, none⟩ = some (.string ⟨#[111, 110]⟩) := hW 14 (by decide)
  have c15 : w.cell? ⟨1, 15, none⟩ = some (.string ⟨#[111, 114]⟩) := hW 15 (by decide)
  have c16 : w.cell? ⟨1, 16, none⟩ = some (.string ⟨#[113, 101, 97]⟩) := hW 16 (by decide)
  have c17 : w.cell? ⟨1, 17, none⟩ = some (.string ⟨#[115, 107, 105, 112]⟩) := hW 17 (by decide)
  have c18 : w.cell? ⟨1, 18, none⟩ = some (.string ⟨#[115, 116, 97, 114, 116]⟩) := hW 18 (by decide)
  have c19 : w.cell? ⟨1, 19, none⟩ = some (.string ⟨#[115, 116, 114, 105, 110, 103]⟩) := hW 19 (by decide)
  have c20 : w.cell? ⟨1, 20, none⟩ = some (.string ⟨#[116, 111]⟩) := hW 20 (by decide)
  have c21 : w.cell? ⟨1, 21, none⟩ = some (.string ⟨#[116, 114, 117, 101]⟩) := hW 21 (by decide)
  clear hW
  go_enter Tryz.func125, Tryz.ntmps125
  go_wp2_with fail
  refine wp_loop_rounds 23 ?_
  rw [rounds_succ]
  go_wp2_with fail
  rw [rounds_succ]
  go_wp2_with fail
  rw [rounds_succ]
  go_wp2_with fail
  rw [rounds_succ]
  go_wp2_with fail
  rw [rounds_succ]
  go_wp2_with fail
  rw [rounds_succ]
  go_wp2_with fail
  rw [rounds_succ]
  go_wp2_with fail
  rw [rounds_succ]
  go_wp2_with fail
  rw [rounds_succ]
  go_wp2_with fail
  rw [rounds_succ]
  go_wp2_with fail
  rw [rounds_succ]
  go_wp2_with fail
  rw [rounds_succ]
  go_wp2_with fail
  rw [rounds_succ]
  go_wp2_with fail
  rw [rounds_succ]
  go_wp2_with fail
  rw [rounds_succ]
  go_wp2_with fail
  rw [rounds_succ]
  go_wp2_with fail
  rw [rounds_succ]
  go_wp2_with fail
  rw [rounds_succ]
  go_wp2_with fail
  rw [rounds_succ]
  go_wp2_with fail
  rw [rounds_succ]
  go_wp2_with fail
  rw [rounds_succ]
  go_wp2_with fail
  rw [rounds_succ]
  go_wp2_with fail
  rw [rounds_succ]
  go_wp2_with fail
  go_ret
  exact ⟨rfl, rfl⟩
set_option maxHeartbeats 4000000 in
set_option maxRecDepth 100000 in
theorem Contains_s {w : World} (hW : WordsAt w) : Calls Tryz.prog 155 #[.slice (some ⟨1, 0, none⟩) 22 22, .string ⟨#[115]⟩] w fun e w' => e = .returned (.bool false) ∧ w = w' := by
  have h1 := words_s hW
  clear hW
  go_enter Tryz.func155, Tryz.ntmps155
  go_wp2_with fail
  refine h1.mono ?_
  rintro e w1 ⟨rfl, rfl⟩
  go_wp2_with fail
  go_ret
  exact ⟨rfl, rfl⟩
set_option maxHeartbeats 4000000 in
set_option maxRecDepth 100000 in
theorem Word_s {w : World} (hW : WordsAt w) : Calls Tryz.prog 122 #[.string ⟨#[115]⟩] w fun e w' => e = .returned (.bool false) ∧ Below w.heap.size w w' := by
  have h1 := Spelt_s w
  have HW := Aside0.mk hW
  clear hW
  go_enter Tryz.func122, Tryz.ntmps122
  go_wp2_with fail
  refine h1.mono ?_
  rintro e w1 ⟨rfl, hb⟩
  have h2 := Contains_s (HW.out.below hb)
  have HB := Aside0.mk hb
  clear hb h1
  go_wp2_with fail
  refine h2.mono ?_
  rintro e w2 ⟨rfl, rfl⟩
  clear h2
  go_wp2_with fail
  go_ret
  exact ⟨rfl, HB.out⟩
set_option maxHeartbeats 4000000 in
set_option maxRecDepth 100000 in
theorem Name_s {w : World} (hW : WordsAt w) : Calls Tryz.prog 69 #[.string ⟨#[115]⟩] w fun e w' => e = .returned (.bool true) ∧ Below w.heap.size w w' := by
  have h1 := Spelt_s w
  have HW := Aside0.mk hW
  clear hW
  go_enter Tryz.func69, Tryz.ntmps69
  go_wp2_with fail
  refine h1.mono ?_
  rintro e w1 ⟨rfl, hb⟩
  have h2 := Word_s (HW.out.below hb)
  have HB := Aside0.mk hb
  clear hb h1
  go_wp2_with fail
  refine h2.mono ?_
  rintro e w2 ⟨rfl, hb2⟩
  clear h2
  have HB2 := Aside0.mk (below_then HB.out HB.out.size hb2)
  clear hb2
  go_wp2_with fail
  go_ret
  exact ⟨rfl, HB2.out⟩
end Go.Proofs.YtpidhnnckolapaaGreatDoor.K
namespace Go.Proofs.YtpidhnnckolapaaGreatDoor.K
open Go.RowKit Go.Proofs.YtpidhnnckolapaaGreatDoorW.PrintWords Go.Proofs.YtpidhnnckolapaaGreatDoorW.PrintLast
set_option linter.unusedVariables false
set_option linter.unusedSimpArgs false
set_option maxHeartbeats 4000000 in
set_option maxRecDepth 100000 in
theorem allQ (w : World) (f : Value) : Calls Tryz.prog 71 #[.slice none 0 0, f] w fun e w' => e = .returned (.bool true) ∧ w = w' := by
  go_enter Tryz.func71, Tryz.ntmps71
  go_wp2_with fail
  refine wp_loop_rounds 1 ?_
  rw [rounds_succ]
  go_wp2_with fail
  go_ret
  exact ⟨rfl, rfl⟩
set_option maxHeartbeats 4000000 in
set_option maxRecDepth 100000 in
theorem allF (w : World) (f : Value) : Calls Tryz.prog 74 #[.slice none 0 0, f] w fun e w' => e = .returned (.bool true) ∧ w = w' := by
  go_enter Tryz.func74, Tryz.ntmps74
  go_wp2_with fail
  refine wp_loop_rounds 1 ?_
  rw [rounds_succ]
  go_wp2_with fail
  go_ret
  exact ⟨rfl, rfl⟩
set_option maxHeartbeats 4000000 in
set_option maxRecDepth 100000 in
theorem allT (w : World) (f : Value) : Calls Tryz.prog 86 #[.slice none 0 0, f] w fun e w' => e = .returned (.bool true) ∧ w = w' := by
  go_enter Tryz.func86, Tryz.ntmps86
  go_wp2_with fail
  refine wp_loop_rounds 1 ?_
  rw [rounds_succ]
  go_wp2_with fail
  go_ret
  exact ⟨rfl, rfl⟩
set_option maxHeartbeats 4000000 in
set_option maxRecDepth 100000 in
theorem allI (w : World) (f : Value) : Calls Tryz.prog 93 #[.slice none 0 0, f] w fun e w' => e = .returned (.bool true) ∧ w = w' := by
  go_enter Tryz.func93, Tryz.ntmps93
  go_wp2_with fail
  refine wp_loop_rounds 1 ?_
  rw [rounds_succ]
  go_wp2_with fail
  go_ret
  exact ⟨rfl, rfl⟩
set_option maxHeartbeats 4000000 in
set_option maxRecDepth 100000 in
theorem allSy (w : World) (f : Value) : Calls Tryz.prog 95 #[.slice none 0 0, f] w fun e w' => e = .returned (.bool true) ∧ w = w' := by
  go_enter Tryz.func95, Tryz.ntmps95
  go_wp2_with fail
  refine wp_loop_rounds 1 ?_
  rw [rounds_succ]
  go_wp2_with fail
  go_ret
  exact ⟨rfl, rfl⟩
set_option maxHeartbeats 4000000 in
set_option maxRecDepth 100000 in
theorem allStr0 (w : World) (f : Value) : Calls Tryz.prog 123 #[.slice none 0 0, f] w fun e w' => e = .returned (.bool true) ∧ w = w' := by
  go_enter Tryz.func123, Tryz.ntmps123
  go_wp2_with fail
  refine wp_loop_rounds 1 ?_
  rw [rounds_succ]
  go_wp2_with fail
  go_ret
  exact ⟨rfl, rfl⟩
set_option maxHeartbeats 4000000 in
set_option maxRecDepth 100000 in
theorem check0 (w : World) : Calls Tryz.prog 68 #[.slice none 0 0] w fun e w' => e = .returned (.tuple #[.int .i64 (-1), .int .i64 0]) ∧ w = w' := by
  go_enter Tryz.func68, Tryz.ntmps68
  go_wp2_with fail
  refine wp_loop_rounds 1 ?_
  rw [rounds_succ]
  go_wp2_with fail
  go_ret2
  exact ⟨rfl, rfl⟩
set_option maxHeartbeats 4000000 in
set_option maxRecDepth 100000 in
theorem few_q (w : World) (g : Nat) : Calls Tryz.prog 51 #[.agg #[.string ⟨#[113]⟩, .slice none 0 0, .slice none 0 0, .slice none 0 0, .slice (some ⟨g, 0, none⟩) 1 1, .int .i64 0, .slice none 0 0, .slice none 0 0, .slice none 0 0]] w fun e w' => e = .returned (.bool true) ∧ Below w.heap.size w w' := by
  go_enter Tryz.func51, Tryz.ntmps51
  go_wp2
  go_ret
  exact ⟨rfl, below_alloc (Below.refl _ _) _⟩
set_option maxHeartbeats 4000000 in
set_option maxRecDepth 100000 in
theorem names0 (w : World) : Calls Tryz.prog 70 #[.slice none 0 0] w fun e w' => e = .returned (.bool true) ∧ Below w.heap.size w w' := by
  have h1 := allStr0 (w.alloc (.cells #[.slice none 0 0] 182)) (.func (.func 124) #[] #[.pointer (some ⟨w.heap.size, 0, none⟩)])
  have hmf : ∀ (fn : Fn) (first cap : Array Value) (w : World), (Instr.makeFunc fn first cap).run Tryz.prog w = .ok (.func fn first cap) w := fun _ _ _ _ => rfl
  go_enter Tryz.func70, Tryz.ntmps70
  go_wp2_with fail
  refine h1.mono ?_
  rintro e w1 ⟨rfl, rfl⟩
  clear h1
  go_wp2_with fail
  go_ret
  exact ⟨rfl, below_alloc (Below.refl _ _) _⟩
/-- The one state's name, in a row of its own. -/
def StAt (w : World) (a : Addr) : Prop := w.cell? a = some (.string ⟨#[115]⟩)
set_option maxHeartbeats 4000000 in
set_option maxRecDepth 100000 in
theorem index_s {w : World} {a : Addr} {c : Nat} (h : StAt w a) : Calls Tryz.prog 125 #[.slice (some a) 1 c, .string ⟨#[115]⟩] w fun e w' => e = .returned (.int .i64 0) ∧ w = w' := by
  have h0 : w.cell? a = some (.string ⟨#[115]⟩) := h
  clear h
  go_enter Tryz.func125, Tryz.ntmps125
  go_wp2_with fail
  refine wp_loop_rounds 1 ?_
  rw [rounds_succ]
  go_wp2_with fail
  go_ret
  exact ⟨rfl, rfl⟩
set_option maxHeartbeats 4000000 in
set_option maxRecDepth 100000 in
theorem names1_s {w : World} {a : Addr} {c b : Nat} (h : StAt w a) (hb : w.heap[b]? = some (.cells #[.slice (some a) 1 c] 182 (0, 0))) (hW : WordsAt w) : Calls Tryz.prog 124 #[.int .i64 0, .string ⟨#[115]⟩, .pointer (some ⟨b, 0, none⟩)] w fun e w' => e = .returned (.bool true) ∧ Below w.heap.size w w' := by
  have h1 := Name_s hW
  have HH := Aside0.mk h
  have HB := Aside0.mk hb
  clear h hb hW
  go_enter Tryz.func124, Tryz.ntmps124
  go_wp2_with fail
  refine h1.mono ?_
  rintro e w1 ⟨rfl, hb1⟩
  clear h1
  have hbx := blk_below HB.out hb1
  have hc0 := (blk_cell hbx 0).trans rfl
  have h2 := index_s (c := c) (show StAt w1 a from pw_cell_below hb1 HH.out)
  have HB1 := Aside0.mk hb1
  clear hb1 hbx
  go_wp2_with fail
  refine h2.mono ?_
  rintro e w2 ⟨rfl, rfl⟩
  clear h2
  go_wp2_with fail
  go_ret
  exact ⟨rfl, HB1.out⟩
set_option maxHeartbeats 4000000 in
set_option maxRecDepth 100000 in
theorem allStr_s {w : World} {a : Addr} {c b : Nat} (h : StAt w a) (hb : w.heap[b]? = some (.cells #[.slice (some a) 1 c] 182 (0, 0))) (hW : WordsAt w) : Calls Tryz.prog 123 #[.slice (some a) 1 c, .func (.func 124) #[] #[.pointer (some ⟨b, 0, none⟩)]] w fun e w' => e = .returned (.bool true) ∧ Below w.heap.size w w' := by
  have h1 := names1_s h hb hW
  have h0 : w.cell? a = some (.string ⟨#[115]⟩) := h
  clear h hb hW
  go_enter Tryz.func123, Tryz.ntmps123
  go_wp2_with fail
  refine wp_loop_rounds 2 ?_
  rw [rounds_succ]
  go_wp2_with fail
  refine h1.mono ?_
  rintro e w1 ⟨rfl, hb1⟩
  clear h1 h0
  have HB1 := Aside0.mk hb1
  clear hb1
  go_wp2_with fail
  rw [rounds_succ]
  go_wp2_with fail
  go_ret
  exact ⟨rfl, HB1.out⟩
set_option maxHeartbeats 4000000 in
set_option maxRecDepth 100000 in
theorem names_s {w : World} {a : Addr} {c : Nat} (h : StAt w a) (hW : WordsAt w) : Calls Tryz.prog 70 #[.slice (some a) 1 c] w fun e w' => e = .returned (.bool true) ∧ Below w.heap.size w w' := by
  have hal := below_alloc (Below.refl _ w) (.cells #[.slice (some a) 1 c] 182)
  have h1 := allStr_s (w := w.alloc (.cells #[.slice (some a) 1 c] 182)) (c := c) (show StAt _ a from pw_cell_below hal h) (blk_new w _) (hW.below hal)
  have hmf : ∀ (fn : Fn) (first cap : Array Value) (w : World), (Instr.makeFunc fn first cap).run Tryz.prog w = .ok (.func fn first cap) w := fun _ _ _ _ => rfl
  have HAL := Aside0.mk hal
  clear hal h hW
  go_enter Tryz.func70, Tryz.ntmps70
  go_wp2_with fail
  refine h1.mono ?_
  rintro e w1 ⟨rfl, hb1⟩
  clear h1
  have HB1 := Aside0.mk (below_then HAL.out HAL.out.size hb1)
  clear hb1
  go_wp2_with fail
  go_ret
  exact ⟨rfl, HB1.out⟩
end Go.Proofs.YtpidhnnckolapaaGreatDoor.K
