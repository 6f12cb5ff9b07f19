/- The law's closed automaton (awake): awake answers true wherever the words and the sentinel are laid. -/
import Derived.Deep.RegionHeld3
import Derived.Deep.CutRange
import Derived.Deep.AppendLies
import Derived.Test.YtpidhnnckolapaaGreatDoorUg15
namespace Go.Proofs.YtpidhnnckolapaaGreatDoor.K
open Go.RowKit Go.Proofs.YtpidhnnckolapaaGreatDoorW.PrintWords Go.Proofs.YtpidhnnckolapaaGreatDoorW.PrintLast
set_option linter.unusedVariables false
set_option linter.unusedSimpArgs false
/-- The monitor in memory: its struct, its counts. -/
structure MonAt (w : World) (g M C T : Nat) (A : Option Addr) (c : Nat) (I : Value) : Prop where
  mb : w.heap[M]? = some (.cells #[.pointer (some ⟨C, 0, none⟩), .string ⟨#[113]⟩, .slice none 0 0, .slice none 0 0, .slice none 0 0, .slice (some ⟨g, 0, none⟩) 1 1, .int .i64 0, .slice none 0 0, .slice none 0 0, .slice none 0 0, .bool false, .bool false, .bool false, .int .i64 3, .pointer (some ⟨T, 0, none⟩), .pointer none, .slice A 0 c, .iface 98 I, .int .i64 0] 103 (0, 0))
  cb : w.heap[C]? = some (.cells #[.int .i64 0, .int .i64 1, .int .i64 0] 93 (0, 0))
/-- The monitor, and its table, once they are made. -/
def NewR (w1 wx : World) (g M C T a b : Nat) (A : Option Addr) (c : Nat) : Prop :=
  MonAt wx g M C T A c (.agg #[.string ⟨#[113]⟩, .slice none 0 0, .slice none 0 0, .slice none 0 0, .slice (some ⟨g, 0, none⟩) 1 1, .int .i64 0, .slice none 0 0, .slice none 0 0, .slice none 0 0]) ∧ TbAt wx T a b (.map #[] 0) (.map #[] 0) 0 ∧ Below w1.heap.size w1 wx ∧ w1.heap.size ≤ a ∧ T < M ∧ C < M ∧ (C < a ∨ T < C) ∧ w1.heap.size ≤ C
theorem newR1 {w1 w2 w3 : World} {g T a b : Nat} {A : Option Addr} {c : Nat} (htb : TbAt w2 T a b (.map #[] 0) (.map #[] 0) 0) (ha : (w1.alloc (.cells #[.int .i64 0, .int .i64 1, .int .i64 0] 93)).drew.heap.size ≤ a) (hb1 : Below (w1.alloc (.cells #[.int .i64 0, .int .i64 1, .int .i64 0] 93)).drew.heap.size (w1.alloc (.cells #[.int .i64 0, .int .i64 1, .int .i64 0] 93)).drew w2) (hb2 : Below w2.heap.size w2 w3) :
    NewR w1 (w3.alloc (.cells #[.pointer (some ⟨w1.heap.size, 0, none⟩), .string ⟨#[113]⟩, .slice none 0 0, .slice none 0 0, .slice none 0 0, .slice (some ⟨g, 0, none⟩) 1 1, .int .i64 0, .slice none 0 0, .slice none 0 0, .slice none 0 0, .bool false, .bool false, .bool false, .int .i64 3, .pointer (some ⟨T, 0, none⟩), .pointer none, .slice A 0 c, .iface 98 (.agg #[.string ⟨#[113]⟩, .slice none 0 0, .slice none 0 0, .slice none 0 0, .slice (some ⟨g, 0, none⟩) 1 1, .int .i64 0, .slice none 0 0, .slice none 0 0, .slice none 0 0]), .int .i64 0] 103)) g w3.heap.size w1.heap.size T a b A c := by
  have hs : (w1.alloc (.cells #[.int .i64 0, .int .i64 1, .int .i64 0] 93)).drew.heap.size = w1.heap.size + 1 := by simp [World.drew]
  have hT := blk_lt (htb.below hb2).tb
  have hlow : Below w1.heap.size w1 w3 := below_then (below_then (below_drew (below_alloc (Below.refl _ w1) _)) (by rw [hs]; omega) hb1) (by have := hb1.size; omega) hb2
  have hC := blk_below (blk_below (blk_drew (blk_new w1 (.cells #[.int .i64 0, .int .i64 1, .int .i64 0] 93))) hb1) hb2
  have hCl := blk_lt hC
  exact ⟨⟨blk_new w3 _, blk_box hC⟩, (htb.below hb2).below (below_alloc (Below.refl _ _) _), below_alloc hlow _, by omega, hT, hCl, .inl (by omega), Nat.le_refl _⟩
theorem newR2 {w1 w2 w3 : World} {g T a b : Nat} {A : Option Addr} {c : Nat} (htb : TbAt w2 T a b (.map #[] 0) (.map #[] 0) 0) (ha : w1.drew.heap.size ≤ a) (hb1 : Below w1.drew.heap.size w1.drew w2) (hb2 : Below (w2.alloc (.cells #[.int .i64 0, .int .i64 1, .int .i64 0] 93)).heap.size (w2.alloc (.cells #[.int .i64 0, .int .i64 1, .int .i64 0] 93)) w3) :
    NewR w1 (w3.alloc (.cells #[.pointer (some ⟨w2.heap.size, 0, none⟩), .string ⟨#[113]⟩, .slice none 0 0, .slice none 0 0, .slice none 0 0, .slice (some ⟨g, 0, none⟩) 1 1, .int .i64 0, .slice none 0 0, .slice none 0 0, .slice none 0 0, .bool false, .bool false, .bool false, .int .i64 3, .pointer (some ⟨T, 0, none⟩), .pointer none, .slice A 0 c, .iface 98 (.agg #[.string ⟨#[113]⟩, .slice none 0 0, .slice none 0 0, .slice none 0 0, .slice (some ⟨g, 0, none⟩) 1 1, .int .i64 0, .slice none 0 0, .slice none 0 0, .slice none 0 0]), .int .i64 0] 103)) g w3.heap.size w2.heap.size T a b A c := by
  have hs : w1.drew.heap.size = w1.heap.size := rfl
  have hT := blk_lt htb.tb
  have hlow : Below w1.heap.size w1 w3 := below_then (below_alloc (below_then (below_drew (Below.refl _ w1)) (by rw [hs]; omega) hb1) _) (by have := hb1.size; simp; omega) hb2
  have hC := blk_below (blk_new w2 (.cells #[.int .i64 0, .int .i64 1, .int .i64 0] 93)) hb2
  have hCl := blk_lt hC
  have h2 := hb1.size
  exact ⟨⟨blk_new w3 _, blk_box hC⟩, ((htb.below (below_alloc (Below.refl _ _) _)).below hb2).below (below_alloc (Below.refl _ _) _), below_alloc hlow _, by omega, by omega, hCl, .inr (by omega), by omega⟩
theorem newR3 {w1 w2 w3 : World} {g T a b : Nat} {A : Option Addr} {c : Nat} (htb : TbAt w2 T a b (.map #[] 0) (.map #[] 0) 0) (ha : w1.drew.heap.size ≤ a) (hb1 : Below w1.drew.heap.size w1.drew w2) (hb2 : Below w2.heap.size w2 w3) :
    NewR w1 ((w3.alloc (.cells #[.int .i64 0, .int .i64 1, .int .i64 0] 93)).alloc (.cells #[.pointer (some ⟨w3.heap.size, 0, none⟩), .string ⟨#[113]⟩, .slice none 0 0, .slice none 0 0, .slice none 0 0, .slice (some ⟨g, 0, none⟩) 1 1, .int .i64 0, .slice none 0 0, .slice none 0 0, .slice none 0 0, .bool false, .bool false, .bool false, .int .i64 3, .pointer (some ⟨T, 0, none⟩), .pointer none, .slice A 0 c, .iface 98 (.agg #[.string ⟨#[113]⟩, .slice none 0 0, .slice none 0 0, .slice none 0 0, .slice (some ⟨g, 0, none⟩) 1 1, .int .i64 0, .slice none 0 0, .slice none 0 0, .slice none 0 0]), .int .i64 0] 103)) g (w3.heap.size + 1) w3.heap.size T a b A c := by
  have hs : w1.drew.heap.size = w1.heap.size := rfl
  have hT := blk_lt (htb.below hb2).tb
  have hlow : Below w1.heap.size w1 w3 := below_then (below_then (below_drew (Below.refl _ w1)) (by rw [hs]; omega) hb1) (by have := hb1.size; omega) hb2
  have hC := blk_new w3 (.cells #[.int .i64 0, .int .i64 1, .int .i64 0] 93)
  have h2 := hb1.size
  have h3 := hb2.size
  have hM := blk_new (w3.alloc (.cells #[.int .i64 0, .int .i64 1, .int .i64 0] 93)) (.cells #[.pointer (some ⟨w3.heap.size, 0, none⟩), .string ⟨#[113]⟩, .slice none 0 0, .slice none 0 0, .slice none 0 0, .slice (some ⟨g, 0, none⟩) 1 1, .int .i64 0, .slice none 0 0, .slice none 0 0, .slice none 0 0, .bool false, .bool false, .bool false, .int .i64 3, .pointer (some ⟨T, 0, none⟩), .pointer none, .slice A 0 c, .iface 98 (.agg #[.string ⟨#[113]⟩, .slice none 0 0, .slice none 0 0, .slice none 0 0, .slice (some ⟨g, 0, none⟩) 1 1, .int .i64 0, .slice none 0 0, .slice none 0 0, .slice none 0 0]), .int .i64 0] 103)
  have hs3 : (w3.alloc (.cells #[.int .i64 0, .int .i64 1, .int .i64 0] 93)).heap.size = w3.heap.size + 1 := by simp
  rw [hs3] at hM
  exact ⟨⟨hM, blk_box hC⟩, ((htb.below hb2).below (below_alloc (Below.refl _ _) _)).below (below_alloc (Below.refl _ _) _), below_alloc (below_alloc hlow _) _, by omega, by omega, by omega, .inr (by omega), by omega⟩
end Go.Proofs.YtpidhnnckolapaaGreatDoor.K
namespace Go.Proofs.YtpidhnnckolapaaGreatDoor.K
open Go.RowKit Go.Proofs.YtpidhnnckolapaaGreatDoorW.PrintWords Go.Proofs.YtpidhnnckolapaaGreatDoorW.PrintLast
set_option linter.unusedVariables false
set_option linter.unusedSimpArgs false
/-- What engine.New leaves. -/
def NewP (w : World) (g : Nat) (e : Ending) (w' : World) : Prop := ∃ M C T a b A c I g' c', e = .returned (.pointer (some ⟨M, 0, none⟩)) ∧ MonAt w' g M C T A c I ∧ TbAt w' T a b (.map #[⟨.int .i64 1, .agg #[.slice none 0 0, .slice (some ⟨g', 0, none⟩) 1 c'], 0⟩] 1) (.map #[⟨.string ⟨#[]⟩, .int .i64 1, 0⟩] 1) 1 ∧ CfB w' g' ∧ 1 ≤ c' ∧ Below w.heap.size w w'
set_option maxHeartbeats 4000000 in
set_option maxRecDepth 100000 in
theorem New_m {w : World} {g : Nat} (hg : w.heap[g]? = some (.cells #[.string ⟨#[115]⟩, .bool false, .bool false] 51 (0, 0))) (hW : WordsAt w) : Calls Tryz.prog 14 #[.agg #[.string ⟨#[113]⟩, .slice none 0 0, .slice none 0 0, .slice none 0 0, .slice (some ⟨g, 0, none⟩) 1 1, .int .i64 0, .slice none 0 0, .slice none 0 0, .slice none 0 0], .agg #[.bool false, .bool false, .bool false, .int .i64 3]] w fun e w' => NewP w g e w' := by
  have hal := below_alloc (below_alloc (Below.refl _ w) (.cells #[.string ⟨#[113]⟩, .slice none 0 0, .slice none 0 0, .slice none 0 0, .slice (some ⟨g, 0, none⟩) 1 1, .int .i64 0, .slice none 0 0, .slice none 0 0, .slice none 0 0] 60)) (.cells #[.bool false, .bool false, .bool false, .int .i64 3] 65)
  have h1 := Right_q (blk_below hg hal) (hW.below hal)
  have HX := Aside0.mk (blk_box (o := (.cells #[.bool false, .bool false, .bool false, .int .i64 3] 65)) (blk_new w (.cells #[.string ⟨#[113]⟩, .slice none 0 0, .slice none 0 0, .slice none 0 0, .slice (some ⟨g, 0, none⟩) 1 1, .int .i64 0, .slice none 0 0, .slice none 0 0, .slice none 0 0] 60)))
  have hy := blk_new (w.alloc (.cells #[.string ⟨#[113]⟩, .slice none 0 0, .slice none 0 0, .slice none 0 0, .slice (some ⟨g, 0, none⟩) 1 1, .int .i64 0, .slice none 0 0, .slice none 0 0, .slice none 0 0] 60)) (.cells #[.bool false, .bool false, .bool false, .int .i64 3] 65)
  have hs1 : (w.alloc (.cells #[.string ⟨#[113]⟩, .slice none 0 0, .slice none 0 0, .slice none 0 0, .slice (some ⟨g, 0, none⟩) 1 1, .int .i64 0, .slice none 0 0, .slice none 0 0, .slice none 0 0] 60)).heap.size = w.heap.size + 1 := by simp
  rw [hs1] at hy
  have HY := Aside0.mk hy
  have HB := Aside0.mk hal
  have HG := Aside0.mk hg
  have HW := Aside0.mk hW
  clear hal hg hW hy hs1
  go_enter Tryz.func14, Tryz.ntmps14
  go_wp2_with fail
  refine h1.mono ?_
  rintro e w1 ⟨rfl, hb1⟩
  clear h1
  have hx := blk_below HX.out hb1
  have hy := blk_below HY.out hb1
  have hq0 := (blk_cell hx 0).trans (rfl : _ = some (.string ⟨#[113]⟩ : Value))
  have hq1 := (blk_cell hx 1).trans (rfl : _ = some (.slice none 0 0 : Value))
  have hq2 := (blk_cell hx 2).trans (rfl : _ = some (.slice none 0 0 : Value))
  have hq3 := (blk_cell hx 3).trans (rfl : _ = some (.slice none 0 0 : Value))
  have hq4 := (blk_cell hx 4).trans (rfl : _ = some (.slice (some ⟨g, 0, none⟩) 1 1 : Value))
  have hq5 := (blk_cell hx 5).trans (rfl : _ = some (.int .i64 0 : Value))
  have hq6 := (blk_cell hx 6).trans (rfl : _ = some (.slice none 0 0 : Value))
  have hq7 := (blk_cell hx 7).trans (rfl : _ = some (.slice none 0 0 : Value))
  have hq8 := (blk_cell hx 8).trans (rfl : _ = some (.slice none 0 0 : Value))
  have ho0 := (blk_cell hy 0).trans (rfl : _ = some (.bool false : Value))
  have ho1 := (blk_cell hy 1).trans (rfl : _ = some (.bool false : Value))
  have ho2 := (blk_cell hy 2).trans (rfl : _ = some (.bool false : Value))
  have ho3 := (blk_cell hy 3).trans (rfl : _ = some (.int .i64 3 : Value))
  have hyl := blk_lt hy
  have HX1 := Aside0.mk hx
  have HY1 := Aside0.mk hy
  have HB1 := Aside0.mk (below_then HB.out HB.out.size hb1)
  clear hx hy hb1
  go_wp2_with fail
  go_cut [5] from 10 to 23 (fun v5 wx => ∃ M C T a b A c, v5 = .pointer (some ⟨M, 0, none⟩) ∧ Aside0 (NewR w1 wx g M C T a b A c))
  case first =>
   go_region_held3 (fun w' => w'.cell? ⟨w.heap.size, 0, none⟩ = some (.string ⟨#[113]⟩) ∧ w'.cell? ⟨w.heap.size, 1, none⟩ = some (.slice none 0 0) ∧ w'.cell? ⟨w.heap.size, 2, none⟩ = some (.slice none 0 0) ∧ w'.cell? ⟨w.heap.size, 3, none⟩ = some (.slice none 0 0) ∧ w'.cell? ⟨w.heap.size, 4, none⟩ = some (.slice (some ⟨g, 0, none⟩) 1 1) ∧ w'.cell? ⟨w.heap.size, 5, none⟩ = some (.int .i64 0) ∧ w'.cell? ⟨w.heap.size, 6, none⟩ = some (.slice none 0 0) ∧ w'.cell? ⟨w.heap.size, 7, none⟩ = some (.slice none 0 0) ∧ w'.cell? ⟨w.heap.size, 8, none⟩ = some (.slice none 0 0) ∧ w'.cell? ⟨w.heap.size + 1, 0, none⟩ = some (.bool false) ∧ w'.cell? ⟨w.heap.size + 1, 1, none⟩ = some (.bool false) ∧ w'.cell? ⟨w.heap.size + 1, 2, none⟩ = some (.bool false) ∧ w'.cell? ⟨w.heap.size + 1, 3, none⟩ = some (.int .i64 3))
     (first | go_keep | (go_split_ands; refine ⟨?_, ?_, ?_, ?_, ?_, ?_, ?_, ?_, ?_, ?_, ?_, ?_, ?_⟩ <;> (first | exact pw_cell_below hbR (by assumption) | exact pw_cell_below hbP (by assumption))))
     (first | (go_at_call 28; refine (New_t _).mono ?_; rintro e w2 ⟨T, a, b, rfl, ha, htb, hbP⟩; have HTB := Aside0.mk htb; have HTA := Aside0.mk ha; clear htb ha) | (go_at_call 29; refine (Of_q _ _).mono ?_; rintro e w3 ⟨A, c, rfl, hbR⟩))
   all_goals
     go_wp2_with fail
     go_meet
     case rel => first
       | exact ⟨_, _, _, _, _, _, _, rfl, ⟨newR1 HTB.out HTA.out hbP hbR⟩⟩
       | exact ⟨_, _, _, _, _, _, _, rfl, ⟨newR2 HTB.out HTA.out hbP hbR⟩⟩
       | exact ⟨_, _, _, _, _, _, _, rfl, ⟨newR3 HTB.out HTA.out hbP hbR⟩⟩
  case rest =>
    obtain ⟨M, C, T, a, b, A, c, rfl, hN⟩ := hcut
    obtain ⟨hm, htb, hbl, ha, hTM, hCM, hCa, hC1⟩ := hN.out
    have hab := htb.ab
    have hbt := htb.bt
    have hws := HB1.out.size
    have m14 := (blk_cell hm.mb 14).trans (rfl : _ = some (.pointer (some ⟨T, 0, none⟩) : Value))
    have m13 := (blk_cell hm.mb 13).trans (rfl : _ = some (.int .i64 3 : Value))
    have z13 := blk_frozen hm.mb 13
    have hMl := blk_lt hm.mb
    have hroom := Room_t htb
    have hmd : MonAt (wc.setCell ⟨M, 13, none⟩ (.int .i64 3)) g M C T A c (.agg #[.string ⟨#[113]⟩, .slice none 0 0, .slice none 0 0, .slice none 0 0, .slice (some ⟨g, 0, none⟩) 1 1, .int .i64 0, .slice none 0 0, .slice none 0 0, .slice none 0 0]) := ⟨(blk_set hm.mb 13 _).trans rfl, (Below.heap_setCell wc ⟨M, 13, none⟩ (.int .i64 3) C (by show C ≠ M; omega)).trans hm.cb⟩
    have htd : TbAt (wc.setCell ⟨M, 13, none⟩ (.int .i64 3)) T a b (.map #[] 0) (.map #[] 0) 0 :=
      ⟨(Below.heap_setCell wc ⟨M, 13, none⟩ (.int .i64 3) T (by show T ≠ M; omega)).trans htb.tb, (Below.heap_setCell wc ⟨M, 13, none⟩ (.int .i64 3) a (by show a ≠ M; omega)).trans htb.ma, (Below.heap_setCell wc ⟨M, 13, none⟩ (.int .i64 3) b (by show b ≠ M; omega)).trans htb.mb, hab, hbt⟩
    have hbd : Below w1.heap.size w1 (wc.setCell ⟨M, 13, none⟩ (.int .i64 3)) := hbl.setCell (p := ⟨M, 13, none⟩) (by show w1.heap.size ≤ M; omega) _
    have HMD := Aside0.mk hmd
    have HTD := Aside0.mk htd
    have HBD := Aside0.mk hbd
    clear hN hm htb hbl hmd htd hbd hq0 hq1 hq2 hq3 hq4 hq5 hq6 hq7 hq8 ho0 ho1 ho2 ho3
    go_wp2_with fail
    refine hroom.mono ?_
    rintro e w2 ⟨rfl, rfl⟩
    clear hroom
    have hx := blk_below HX1.out HBD.out
    have hq0 := (blk_cell hx 0).trans (rfl : _ = some (.string ⟨#[113]⟩ : Value))
    have hq1 := (blk_cell hx 1).trans (rfl : _ = some (.slice none 0 0 : Value))
    have hq2 := (blk_cell hx 2).trans (rfl : _ = some (.slice none 0 0 : Value))
    have hq3 := (blk_cell hx 3).trans (rfl : _ = some (.slice none 0 0 : Value))
    have hq4 := (blk_cell hx 4).trans (rfl : _ = some (.slice (some ⟨g, 0, none⟩) 1 1 : Value))
    have hq5 := (blk_cell hx 5).trans (rfl : _ = some (.int .i64 0 : Value))
    have hq6 := (blk_cell hx 6).trans (rfl : _ = some (.slice none 0 0 : Value))
    have hq7 := (blk_cell hx 7).trans (rfl : _ = some (.slice none 0 0 : Value))
    have hq8 := (blk_cell hx 8).trans (rfl : _ = some (.slice none 0 0 : Value))
    have hxl := blk_lt hx
    have HX2 := Aside0.mk hx
    have hsub := subset_q (blk_below HG.out (below_then HB1.out HB1.out.size HBD.out)) (HW.out.below (below_then HB1.out HB1.out.size HBD.out))
    clear hx
    go_wp2_with fail
    clear m14 m13 z13
    generalize hwd : wc.setCell ⟨M, 13, none⟩ (.int .i64 3) = wd at *
    clear hwd
    refine hsub.mono ?_
    rintro e w3 ⟨p3, rfl, hb3⟩
    clear hsub hq0 hq1 hq2 hq3 hq4 hq5 hq6 hq7 hq8 hxl
    have hx := blk_below HX2.out hb3
    have hy := blk_below (blk_below HY1.out HBD.out) hb3
    have hq0 := (blk_cell hx 0).trans (rfl : _ = some (.string ⟨#[113]⟩ : Value))
    have hq1 := (blk_cell hx 1).trans (rfl : _ = some (.slice none 0 0 : Value))
    have hq2 := (blk_cell hx 2).trans (rfl : _ = some (.slice none 0 0 : Value))
    have hq3 := (blk_cell hx 3).trans (rfl : _ = some (.slice none 0 0 : Value))
    have hq4 := (blk_cell hx 4).trans (rfl : _ = some (.slice (some ⟨g, 0, none⟩) 1 1 : Value))
    have hq5 := (blk_cell hx 5).trans (rfl : _ = some (.int .i64 0 : Value))
    have hq6 := (blk_cell hx 6).trans (rfl : _ = some (.slice none 0 0 : Value))
    have hq7 := (blk_cell hx 7).trans (rfl : _ = some (.slice none 0 0 : Value))
    have hq8 := (blk_cell hx 8).trans (rfl : _ = some (.slice none 0 0 : Value))
    have ho0 := (blk_cell hy 0).trans (rfl : _ = some (.bool false : Value))
    have ho1 := (blk_cell hy 1).trans (rfl : _ = some (.bool false : Value))
    have ho2 := (blk_cell hy 2).trans (rfl : _ = some (.bool false : Value))
    have ho3 := (blk_cell hy 3).trans (rfl : _ = some (.int .i64 3 : Value))
    have hxl := blk_lt hx
    have hyl3 := blk_lt hy
    have HX3 := Aside0.mk hx
    have HB3 := Aside0.mk hb3
    clear hx hy hb3
    go_wp2_with fail
    refine (Start_q _ _).mono ?_
    rintro e w4 ⟨A4, rfl, hst, hA4, hb4⟩
    have HB4 := Aside0.mk (below_then HB3.out HB3.out.size hb4)
    have hm4 := HMD.out.mb
    have hM4 := blk_below HMD.out.mb HB4.out
    have HST := Aside0.mk hst
    have hput := put_m (w0 := w) (c := 1) ((blk_cell hM4 14).trans rfl) ((blk_cell hM4 15).trans rfl) (HTD.out.below HB4.out) hst.cf (below_then (below_then HB1.out HB1.out.size HBD.out) (below_then HB1.out HB1.out.size HBD.out).size HB4.out) (show w.heap.size ≤ a by omega) (show M ≠ T by omega) (show M ≠ a by omega) (show M ≠ b by omega)
    clear hst hb4 hm4 hM4 hA4
    go_wp2_with fail
    refine hput.mono ?_
    rintro e w5 ⟨rfl, g5, c5, hc5, hcf, htb5, hbl5, hfr⟩
    clear hput hq0 hq1 hq2 hq3 hq4 hq5 hq6 hq7 hq8 ho0 ho1 ho2 ho3
    have HF := Aside0.mk hfr
    have HC5 := Aside0.mk hc5
    have HCF := Aside0.mk hcf
    have HT5 := Aside0.mk htb5
    have HB5 := Aside0.mk hbl5
    clear hfr hc5 hcf htb5 hbl5
    go_wp2_with fail
    go_ret
    have hM4 := blk_below HMD.out.mb HB4.out
    have hC4 := blk_below HMD.out.cb HB4.out
    exact ⟨M, C, T, a, b, A, c, _, g5, c5, rfl, ⟨(HF.out M (blk_lt hM4) (by omega) (by omega) (by omega)).trans hM4, (HF.out C (blk_lt hC4) (by omega) (by omega) (by omega)).trans hC4⟩, HT5.out, HCF.out, HC5.out, HB5.out⟩
end Go.Proofs.YtpidhnnckolapaaGreatDoor.K
namespace Go.Proofs.YtpidhnnckolapaaGreatDoor.K
open Go.RowKit Go.Proofs.YtpidhnnckolapaaGreatDoorW.PrintWords Go.Proofs.YtpidhnnckolapaaGreatDoorW.PrintLast
set_option linter.unusedVariables false
set_option linter.unusedSimpArgs false
theorem nx_one {w : World} {r a : Nat} {k v : Value} (ty : TypeId) (hr : w.heap[r]? = some (.mapIter (some a) 1 #[] 1)) (ha : w.heap[a]? = some (.map #[⟨k, v, 0⟩] 1)) : (Instr.next (.pointer (some ⟨r, 0, none⟩)) false ty).run Tryz.prog w = .ok (.tuple #[.bool true, k, v]) (setB w r (.mapIter (some a) 1 #[0] 1)) := by
  simp [Instr.next, getObj, setObj, choose, Sem.run, hr, ha, Result.andThen, Question.forced, setB]
theorem nx_end {w : World} {r a : Nat} {k v : Value} (ty : TypeId) (hr : w.heap[r]? = some (.mapIter (some a) 1 #[0] 1)) (ha : w.heap[a]? = some (.map #[⟨k, v, 0⟩] 1)) : (Instr.next (.pointer (some ⟨r, 0, none⟩)) false ty).run Tryz.prog w = .ok (.tuple #[.bool false]) w := by
  simp [Instr.next, getObj, choose, Sem.run, hr, ha, Result.andThen, Question.forced]
theorem en_one {w : World} {r a : Nat} {k v : Value} (hr : w.heap[r]? = some (.mapIter (some a) 1 #[0] 1)) (ha : w.heap[a]? = some (.map #[⟨k, v, 0⟩] 1)) : (Instr.entry (.pointer (some ⟨r, 0, none⟩))).run Tryz.prog w = .ok (.tuple #[k, v]) w := by
  simp [Instr.entry, getObj, Sem.run, hr, ha, Result.andThen]
theorem rg_one {w : World} {a : Nat} {es : Array MapEntry} {c : Nat} (ha : w.heap[a]? = some (.map es c)) : (Instr.range 135 (.map (some a))).run Tryz.prog w = .ok (.pointer (some ⟨w.heap.size, 0, none⟩)) (w.alloc (.mapIter (some a) c #[] c)) := by
  simp [Instr.range, run_underlying Tryz.underlying135, Go.MapKept.run_getObj_map ha]
set_option maxHeartbeats 4000000 in
set_option maxRecDepth 100000 in
theorem Len64_1 (w : World) : Calls Tryz.prog 177 #[.int .u64 1] w fun e w' => ∃ l : Int, e = .returned (.int .i64 l) ∧ w = w' := by
  go_enter Tryz.func177, Tryz.ntmps177
  go_wp2
  go_ret
  exact ⟨_, rfl, rfl⟩
set_option maxHeartbeats 4000000 in
set_option maxRecDepth 100000 in
theorem Len_1 (w : World) : Calls Tryz.prog 149 #[.int .u64 1] w fun e w' => ∃ l : Int, e = .returned (.int .i64 l) ∧ w = w' := by
  go_enter Tryz.func149, Tryz.ntmps149
  go_wp2_with fail
  refine (Len64_1 _).mono ?_
  rintro e w1 ⟨l, rfl, rfl⟩
  go_wp2_with fail
  go_ret
  exact ⟨_, rfl, rfl⟩
set_option maxHeartbeats 4000000 in
set_option maxRecDepth 100000 in
theorem ins_1 (w : World) (s f : Value) : Calls Tryz.prog 168 #[s, .int .i64 0, .int .i64 1, f] w fun e w' => e = .returned (.tuple #[]) ∧ w = w' := by
  go_enter Tryz.func168, Tryz.ntmps168
  go_wp2_with fail
  refine wp_loop_rounds 1 ?_
  rw [rounds_succ]
  go_wp2_with fail
  (first | go_end0 | ((try simp only [Exit.inBlock, Exit.then]); refine bodyPost_ret (results_none rfl _ _ _) rfl ?_))
  exact ⟨rfl, rfl⟩
set_option maxHeartbeats 4000000 in
set_option maxRecDepth 100000 in
theorem pdq_1 (w : World) (s f : Value) (l : Int) : Calls Tryz.prog 148 #[s, .int .i64 0, .int .i64 1, .int .i64 l, f] w fun e w' => e = .returned (.tuple #[]) ∧ w = w' := by
  go_enter Tryz.func148, Tryz.ntmps148
  go_wp2_with fail
  refine wp_loop_rounds 1 ?_
  rw [rounds_succ]
  go_wp2_with fail
  refine (ins_1 _ _ _).mono ?_
  rintro e w1 ⟨rfl, rfl⟩
  go_wp2_with fail
  (first | go_end0 | ((try simp only [Exit.inBlock, Exit.then]); refine bodyPost_ret (results_none rfl _ _ _) rfl ?_))
  exact ⟨rfl, rfl⟩
set_option maxHeartbeats 4000000 in
set_option maxRecDepth 100000 in
theorem sort_1 (w : World) (A : Option Addr) (c : Nat) (f : Value) : Calls Tryz.prog 117 #[.slice A 1 c, f] w fun e w' => e = .returned (.tuple #[]) ∧ w = w' := by
  go_enter Tryz.func117, Tryz.ntmps117
  go_wp2_with fail
  refine (Len_1 _).mono ?_
  rintro e w1 ⟨l, rfl, rfl⟩
  go_wp2_with fail
  refine (pdq_1 _ _ _ _).mono ?_
  rintro e w1 ⟨rfl, rfl⟩
  go_wp2_with fail
  (first | go_end0 | ((try simp only [Exit.inBlock, Exit.then]); refine bodyPost_ret (results_none rfl _ _ _) rfl ?_))
  exact ⟨rfl, rfl⟩
set_option maxHeartbeats 4000000 in
set_option maxRecDepth 100000 in
theorem Domains_m {w : World} {M c : Nat} {A : Option Addr} (h : w.cell? ⟨M, 16, none⟩ = some (.slice A 0 c)) : Calls Tryz.prog 49 #[.pointer (some ⟨M, 0, none⟩)] w fun e w' => e = .returned (.slice none 0 0) ∧ w = w' := by
  go_enter Tryz.func49, Tryz.ntmps49
  go_wp2_with fail
  refine wp_loop_rounds 1 ?_
  rw [rounds_succ]
  go_wp2_with fail
  go_ret
  exact ⟨rfl, rfl⟩
theorem below_none {w w1 : World} (h : w.grownBy w1 none) : Below w.heap.size w w1 := Below.grown (Below.refl _ w) h (Nat.le_refl _) (fun j e => by cases e)
theorem info43' : (Tryz.prog.info? 43).map (fun i => (i.zero, i.size, i.bytes)) = some (some (.agg #[(.slice none 0 0), (.slice none 0 0)]), 2, 48) := by kernel_rfl
/-- A row without slots, of one configuration, in a block. -/
def RowB (w : World) (r : Nat) : Prop := ∃ g c, w.cell? ⟨r, 0, none⟩ = some (.slice none 0 0) ∧ w.cell? ⟨r, 1, none⟩ = some (.slice (some ⟨g, 0, none⟩) 1 c) ∧ 1 ≤ c ∧ CfB w g
theorem RowB.below {w w1 : World} {r : Nat} (h : RowB w r) (hb : Below w.heap.size w w1) : RowB w1 r := by
  obtain ⟨g, c, h1, h2, h3, h4⟩ := h
  exact ⟨g, c, pw_cell_below hb h1, pw_cell_below hb h2, h3, h4.below hb⟩
set_option maxHeartbeats 4000000 in
set_option maxRecDepth 100000 in
theorem Rows_t {w : World} {T a b g c : Nat} {k : Value} {eb : Obj} {last : Int} (h : TbAt w T a b (.map #[⟨k, .agg #[.slice none 0 0, .slice (some ⟨g, 0, none⟩) 1 c], 0⟩] 1) eb last) (hg : CfB w g) : Calls Tryz.prog 67 #[.pointer (some ⟨T, 0, none⟩)] w fun e w' => ∃ r c', e = .returned (.slice (some ⟨r, 0, none⟩) 1 c') ∧ 1 ≤ c' ∧ RowB w' r ∧ Below w.heap.size w w' := by
  obtain ⟨i0, hi, hz0, hz1, hz2⟩ := info_parts info43'
  have t0 := h.c0
  have hTl := blk_lt h.tb
  have hrg := rg_one h.ma
  have hma := h.ma
  have hal := blk_lt h.ma
  generalize hv : Value.agg #[.slice none 0 0, .slice (some ⟨g, 0, none⟩) 1 c] = v at *
  have hr0 := blk_new w (.mapIter (some a) 1 #[] 1)
  have ha0 : (w.alloc (.mapIter (some a) 1 #[] 1)).heap[a]? = some (.map #[⟨k, v, 0⟩] 1) := (Below.block (below_alloc (Below.refl _ w) _) a hal).trans hma
  have hn0 := fun ty => nx_one ty hr0 ha0
  have hne : a ≠ w.heap.size := by omega
  have hr1 : (setB (w.alloc (.mapIter (some a) 1 #[] 1)) w.heap.size (.mapIter (some a) 1 #[0] 1)).heap[w.heap.size]? = some (.mapIter (some a) 1 #[0] 1) := setB_same hr0
  have ha1 : (setB (w.alloc (.mapIter (some a) 1 #[] 1)) w.heap.size (.mapIter (some a) 1 #[0] 1)).heap[a]? = some (.map #[⟨k, v, 0⟩] 1) := (setB_far _ hne).trans ha0
  have hen := en_one hr1 ha1
  have hb1 : Below w.heap.size w (setB (w.alloc (.mapIter (some a) 1 #[] 1)) w.heap.size (.mapIter (some a) 1 #[0] 1)) := below_setB _ (below_alloc (Below.refl _ w) _) (Nat.le_refl _)
  have hs1 : (setB (w.alloc (.mapIter (some a) 1 #[] 1)) w.heap.size (.mapIter (some a) 1 #[0] 1)).heap.size = w.heap.size + 1 := by rw [setB_size]; simp
  have HR1 := Aside0.mk hr1
  have HA1 := Aside0.mk ha1
  have HB1 := Aside0.mk hb1
  have HG1 := Aside0.mk (hg.below hb1)
  have HS1 := Aside0.mk hs1
  clear h hma hr0 ha0 hr1 ha1 hb1 hg hne hs1
  subst hv
  go_enter Tryz.func67, Tryz.ntmps67
  go_wp2_with fail
  refine wp_loop_rounds 2 ?_
  rw [rounds_succ]
  go_wp2_with fail
  generalize hW : setB (w.alloc (.mapIter (some a) 1 #[] 1)) w.heap.size (.mapIter (some a) 1 #[0] 1) = w1 at *
  clear hW hn0 hrg hen
  have hws := HS1.out
  refine (copied_q (HG1.out.below (below_alloc (Below.refl _ w1) _))).mono ?_
  rintro e w2 ⟨g2, c2, rfl, hc2, hg2, hcf, hb2⟩
  have hb12 := below_then (below_alloc (Below.refl _ w1) (.cells #[.slice none 0 0, .slice (some ⟨g, 0, none⟩) 1 c] 43)) (by simp) hb2
  have HB12 := Aside0.mk (below_alloc hb12 (.cells #[.slice none 0 0, .slice (some ⟨g2, 0, none⟩) 1 c2] 43))
  have hown : (w2.alloc (.cells #[.slice none 0 0, .slice (some ⟨g2, 0, none⟩) 1 c2] 43)).ownsRow w1.heap.size 43 2 (.slice none 0 0) 0 [] := ⟨rfl, .inl ⟨rfl, rfl⟩⟩
  have hnew : ∀ (j : Nat) (u : Value), [Value.slice none 0 0, Value.slice (some ⟨g2, 0, none⟩) 1 c2][j]? = some u → (w2.alloc (.cells #[.slice none 0 0, .slice (some ⟨g2, 0, none⟩) 1 c2] 43)).cell? ((⟨w2.heap.size, 0, none⟩ : Addr).add j) = some u := by
    intro j u hj
    have hx := blk_new w2 (.cells #[.slice none 0 0, .slice (some ⟨g2, 0, none⟩) 1 c2] 43)
    have : j = 0 ∨ j = 1 := by have := (List.getElem?_eq_some_iff.1 hj).1; simp at this; omega
    rcases this with rfl | rfl
    · rw [addz]; cases hj; exact (blk_cell hx 0).trans rfl
    · rw [adds]; cases hj; simp
  have hsz2 : w1.heap.size ≤ (w2.alloc (.cells #[.slice none 0 0, .slice (some ⟨g2, 0, none⟩) 1 c2] 43)).heap.size := HB12.out.size
  have HO := Aside0.mk hown
  have HN := Aside0.mk hnew
  have HCF := Aside0.mk (hcf.below (below_alloc (Below.refl _ w2) (.cells #[.slice none 0 0, .slice (some ⟨g2, 0, none⟩) 1 c2] 43)))
  have HC2 := Aside0.mk hc2
  have HZ2 := Aside0.mk hsz2
  clear hown hnew hb2 hb12 hcf hc2 hg2 hsz2
  go_wp2_with (first | ((with_reducible refine gate_builtin (b := .append) (xs := #[.tmp 17, .tmp 23]) rfl ?_); at_builtin; go_loud (refine wpList_append_lies _ rfl (.tmp 17) (.tmp 23) 24 rfl w1.heap.size 43 i0 _ 2 48 Tryz.underlying24 hi hz0 hz1 hz2 rfl (by decide) (.slice none 0 0) 0 [] rfl HO.out ⟨w2.heap.size, 0, none⟩ 1 1 [.slice none 0 0, .slice (some ⟨g2, 0, none⟩) 1 c2] rfl rfl HN.out (by simp [Value.oneCell']) (by decide) (by decide) (by decide) HZ2.out _ rfl ?_); intro g3 cap w3 ho3 hg3 hat3 hlt3; have HO3 := Aside0.mk ho3; have hbel3 := below_none hg3; have hb13 := below_then HB12.out HZ2.out hbel3; have HB13 := Aside0.mk hb13; have HCF3 := Aside0.mk (HCF.out.below hbel3); have hrX := blk_below HR1.out hb13; have haX := blk_below HA1.out hb13; have hnE := fun ty => nx_end ty hrX haX; clear ho3 hg3 hat3 hlt3 hbel3 hb13 hrX haX))
  rw [rounds_succ]
  go_wp2_with fail
  refine (sort_1 _ _ _ _).mono ?_
  rintro e w4 ⟨rfl, rfl⟩
  go_wp2_with fail
  go_ret
  obtain ⟨_, h2, h3, h4, h5⟩ := owns2 HO3.out
  exact ⟨_, _, rfl, h2, ⟨g2, c2, h4, h5, HC2.out, HCF3.out⟩, below_then HB1.out HB1.out.size HB13.out⟩
end Go.Proofs.YtpidhnnckolapaaGreatDoor.K
namespace Go.Proofs.YtpidhnnckolapaaGreatDoor.K
open Go.RowKit Go.Proofs.YtpidhnnckolapaaGreatDoorW.PrintWords Go.Proofs.YtpidhnnckolapaaGreatDoorW.PrintLast
set_option linter.unusedVariables false
set_option linter.unusedSimpArgs false
theorem far6 {w : World} {g P j : Nat} (h : P ≠ g) (a b c d e f : Value) : ((((((w.setCell ⟨g, 0, none⟩ a).setCell ⟨g, 1, none⟩ b).setCell ⟨g, 2, none⟩ c).setCell ⟨g, 3, none⟩ d).setCell ⟨g, 4, none⟩ e).setCell ⟨g, 5, none⟩ f).cell? ⟨P, j, none⟩ = w.cell? ⟨P, j, none⟩ := by
  rw [cell_far (by exact h), cell_far (by exact h), cell_far (by exact h), cell_far (by exact h), cell_far (by exact h), cell_far (by exact h)]
set_option maxHeartbeats 4000000 in
set_option maxRecDepth 100000 in
theorem Rows_m {w : World} {M T a b g c : Nat} {k : Value} {eb : Obj} {last : Int} (m14 : w.cell? ⟨M, 14, none⟩ = some (.pointer (some ⟨T, 0, none⟩))) (h : TbAt w T a b (.map #[⟨k, .agg #[.slice none 0 0, .slice (some ⟨g, 0, none⟩) 1 c], 0⟩] 1) eb last) (hg : CfB w g) : Calls Tryz.prog 50 #[.pointer (some ⟨M, 0, none⟩)] w fun e w' => ∃ r c', e = .returned (.slice (some ⟨r, 0, none⟩) 1 c') ∧ 1 ≤ c' ∧ RowB w' r ∧ Below w.heap.size w w' := by
  have h1 := Rows_t h hg
  clear h hg
  go_enter Tryz.func50, Tryz.ntmps50
  go_wp2_with fail
  refine h1.mono ?_
  rintro e w1 ⟨r, c', rfl, hc, hr, hb⟩
  have HC := Aside0.mk hc
  have HR := Aside0.mk hr
  have HB := Aside0.mk hb
  clear hc hr hb h1
  go_wp2_with fail
  go_ret
  exact ⟨r, c', rfl, HC.out, HR.out, HB.out⟩
set_option maxHeartbeats 4000000 in
set_option maxRecDepth 100000 in
theorem Snap_m {w : World} {g M C T a b gg c cc : Nat} {A : Option Addr} {I k : Value} {eb : Obj} {last : Int} (hm : MonAt w g M C T A c I) (h : TbAt w T a b (.map #[⟨k, .agg #[.slice none 0 0, .slice (some ⟨gg, 0, none⟩) 1 cc], 0⟩] 1) eb last) (hg : CfB w gg) : Calls Tryz.prog 26 #[.pointer (some ⟨M, 0, none⟩)] w fun e w' => ∃ r c', e = .returned (.agg #[.int .i64 0, .int .i64 1, .int .i64 0, .int .i64 0, .slice none 0 0, .slice (some ⟨r, 0, none⟩) 1 c']) ∧ 1 ≤ c' ∧ RowB w' r ∧ Below w.heap.size w w' := by
  have hal := below_alloc (Below.refl _ w) (.cells #[.int .i64 0, .int .i64 0, .int .i64 0, .int .i64 0, .slice none 0 0, .slice none 0 0] 26)
  have HX := Aside0.mk (blk_new w (.cells #[.int .i64 0, .int .i64 0, .int .i64 0, .int .i64 0, .slice none 0 0, .slice none 0 0] 26))
  have m0 := (blk_cell hm.mb 0).trans (rfl : _ = some (.pointer (some ⟨C, 0, none⟩) : Value))
  have m14 := (blk_cell hm.mb 14).trans (rfl : _ = some (.pointer (some ⟨T, 0, none⟩) : Value))
  have m16 := (blk_cell hm.mb 16).trans (rfl : _ = some (.slice A 0 c : Value))
  have m18 := (blk_cell hm.mb 18).trans (rfl : _ = some (.int .i64 0 : Value))
  have n0 := (blk_cell hm.cb 0).trans (rfl : _ = some (.int .i64 0 : Value))
  have n1 := (blk_cell hm.cb 1).trans (rfl : _ = some (.int .i64 1 : Value))
  have n2 := (blk_cell hm.cb 2).trans (rfl : _ = some (.int .i64 0 : Value))
  have hMl := blk_lt hm.mb
  have hMne : M ≠ w.heap.size := by omega
  have hCl := blk_lt hm.cb
  have hCne : C ≠ w.heap.size := by omega
  have HT := Aside0.mk (h.below (below_drew hal))
  have HG := Aside0.mk (hg.below (below_drew hal))
  have HB := Aside0.mk (below_drew hal)
  clear hal hm h hg
  go_enter Tryz.func26, Tryz.ntmps26
  go_wp2_with fail
  go_region_held3 (fun w' => w'.cell? ⟨M, 0, none⟩ = some (.pointer (some ⟨C, 0, none⟩)) ∧ w'.cell? ⟨M, 14, none⟩ = some (.pointer (some ⟨T, 0, none⟩)) ∧ w'.cell? ⟨M, 16, none⟩ = some (.slice A 0 c) ∧ w'.cell? ⟨M, 18, none⟩ = some (.int .i64 0) ∧ w'.cell? ⟨C, 0, none⟩ = some (.int .i64 0) ∧ w'.cell? ⟨C, 1, none⟩ = some (.int .i64 1) ∧ w'.cell? ⟨C, 2, none⟩ = some (.int .i64 0))
    (first | (with_reducible exact ⟨pw_cell_below hbR (pw_cell_below HB.out m0), pw_cell_below hbR (pw_cell_below HB.out m14), pw_cell_below hbR (pw_cell_below HB.out m16), pw_cell_below hbR (pw_cell_below HB.out m18), pw_cell_below hbR (pw_cell_below HB.out n0), pw_cell_below hbR (pw_cell_below HB.out n1), pw_cell_below hbR (pw_cell_below HB.out n2)⟩) | (with_reducible exact ⟨(hk6 M 0 hMne).trans (pw_cell_below hbR (pw_cell_below HB.out m0)), (hk6 M 14 hMne).trans (pw_cell_below hbR (pw_cell_below HB.out m14)), (hk6 M 16 hMne).trans (pw_cell_below hbR (pw_cell_below HB.out m16)), (hk6 M 18 hMne).trans (pw_cell_below hbR (pw_cell_below HB.out m18)), (hk6 C 0 hCne).trans (pw_cell_below hbR (pw_cell_below HB.out n0)), (hk6 C 1 hCne).trans (pw_cell_below hbR (pw_cell_below HB.out n1)), (hk6 C 2 hCne).trans (pw_cell_below hbR (pw_cell_below HB.out n2))⟩) | go_keep)
    (first | (go_at_call 49; refine (Domains_m (pw_cell_below HB.out m16)).mono ?_; rintro e w2 ⟨rfl, rfl⟩) | (go_at_call 50; refine (Rows_m (pw_cell_below HB.out m14) HT.out HG.out).mono ?_; rintro e w3 ⟨r, c', rfl, hc3, hr3, hbR⟩; have hx3 := blk_below (blk_drew HX.out) hbR; have hxc0 := (blk_cell hx3 0).trans (rfl : _ = some (.int .i64 0 : Value)); have hxz0 := blk_frozen hx3 0; have hxc1 := (blk_cell hx3 1).trans (rfl : _ = some (.int .i64 0 : Value)); have hxz1 := blk_frozen hx3 1; have hxc2 := (blk_cell hx3 2).trans (rfl : _ = some (.int .i64 0 : Value)); have hxz2 := blk_frozen hx3 2; have hxc3 := (blk_cell hx3 3).trans (rfl : _ = some (.int .i64 0 : Value)); have hxz3 := blk_frozen hx3 3; have hxc4 := (blk_cell hx3 4).trans (rfl : _ = some (.slice none 0 0 : Value)); have hxz4 := blk_frozen hx3 4; have hxc5 := (blk_cell hx3 5).trans (rfl : _ = some (.slice none 0 0 : Value)); have hxz5 := blk_frozen hx3 5; have hxl3 := blk_lt hx3; have hk6 : ∀ (P j : Nat), P ≠ w.heap.size → ((((((w3.setCell ⟨w.heap.size, 0, none⟩ (.int .i64 0)).setCell ⟨w.heap.size, 1, none⟩ (.int .i64 1)).setCell ⟨w.heap.size, 2, none⟩ (.int .i64 0)).setCell ⟨w.heap.size, 3, none⟩ (.int .i64 0)).setCell ⟨w.heap.size, 4, none⟩ (.slice none 0 0)).setCell ⟨w.heap.size, 5, none⟩ (.slice (some ⟨r, 0, none⟩) 1 c')).cell? ⟨P, j, none⟩ = w3.cell? ⟨P, j, none⟩ := fun P j hP => far6 hP _ _ _ _ _ _; have HX3 := Aside0.mk hx3; have HB3 := Aside0.mk hbR; have HC3 := Aside0.mk hc3; have HR3 := Aside0.mk hr3; clear hc3 hr3 hx3))
  go_wp2_with fail
  have h0 := (blk_cell HX3.out 0).trans (rfl : _ = some (.int .i64 0 : Value))
  have h1 := (blk_cell HX3.out 1).trans (rfl : _ = some (.int .i64 0 : Value))
  obtain ⟨g3, c3, r1, r2, r3, r4⟩ := HR3.out
  have hr : r ≠ w.heap.size := by intro e; rw [e, h0] at r1; cases r1
  have hg3 : g3 ≠ w.heap.size := by intro e; have := r4.2; rw [e, h1] at this; cases this
  refine bodyPost_ret (results_single rfl (.cell w.heap.size 26 _ (0, 0) _ rfl (put6 HX3.out _ _ _ _ _ _) Tryz.underlying26 rfl (by kernel_rfl) .nil)) rfl ⟨r, c', rfl, HC3.out, ⟨g3, c3, (far6 hr _ _ _ _ _ _).trans r1, (far6 hr _ _ _ _ _ _).trans r2, r3, (far6 hg3 _ _ _ _ _ _).trans r4.1, (far6 hg3 _ _ _ _ _ _).trans r4.2⟩, ?_⟩
  have hlow := below_then HB.out HB.out.size HB3.out
  exact (((((hlow.setCell (p := ⟨w.heap.size, 0, none⟩) (Nat.le_refl _) _).setCell (p := ⟨w.heap.size, 1, none⟩) (Nat.le_refl _) _).setCell (p := ⟨w.heap.size, 2, none⟩) (Nat.le_refl _) _).setCell (p := ⟨w.heap.size, 3, none⟩) (Nat.le_refl _) _).setCell (p := ⟨w.heap.size, 4, none⟩) (Nat.le_refl _) _).setCell (p := ⟨w.heap.size, 5, none⟩) (Nat.le_refl _) _
end Go.Proofs.YtpidhnnckolapaaGreatDoor.K
namespace Go.Proofs.YtpidhnnckolapaaGreatDoor.K
open Go.RowKit Go.Proofs.YtpidhnnckolapaaGreatDoorW.PrintWords Go.Proofs.YtpidhnnckolapaaGreatDoorW.PrintLast
set_option linter.unusedVariables false
set_option linter.unusedSimpArgs false
/-- The bytes of what a new monitor has. -/
def newB : List Int := [81, 0, 0, 0, 0, 0, 0, 0, 1, 0, 0, 0, 0, 0, 0, 0, 0, 0, 0, 0, 0, 0, 0, 0, 1, 0, 0, 0, 0, 0, 0, 0, 1, 0, 0, 0, 0, 0, 0, 0, 0]
def newRow : PA.S43 := ⟨[], [⟨0, []⟩]⟩
theorem newB_put : putW 0 1 0 0 [] [newRow] = (newB, 0) := by rfl
theorem newB_snap : dSnap newB = some ([0, 1, 0, 0], [], [newRow]) := by rfl
theorem RowB.C {w : World} {r : Nat} (h : RowB w r) : Kd.C PA.k43 w (some ⟨r, 0, none⟩) ([newRow] : List PA.S43).length [newRow] := by
  obtain ⟨g, c, h1, h2, h3, h4⟩ := h
  have hcf : Kd.C PA.k49 w (some ⟨g, 0, none⟩) ([⟨0, []⟩] : List PA.S49).length [⟨0, []⟩] := by
    refine ⟨rfl, by decide, fun _ => ⟨_, rfl, fun j p hj => ?_⟩⟩
    have hj0 : j = 0 := by have := (List.getElem?_eq_some_iff.1 hj).1; simp at this; omega
    subst hj0
    cases hj
    refine ⟨[.int .i64 0, .slice none 0 0], rfl, PA.k49_mk w ⟨0, []⟩ (c1 := 0) (Nat.le_refl _) (Kd.C_nil PA.k45 w), fun i u hi => ?_⟩
    have : i = 0 ∨ i = 1 := by have := (List.getElem?_eq_some_iff.1 hi).1; simp at this; omega
    rcases this with rfl | rfl
    · rw [show 0 * Kd.sz PA.k49 + 0 = 0 by simp, addz]; cases hi; exact h4.1
    · rw [show 0 * Kd.sz PA.k49 + 1 = 0 + 1 by simp, adds]; cases hi; exact h4.2
  refine ⟨rfl, by decide, fun _ => ⟨_, rfl, fun j p hj => ?_⟩⟩
  have hj0 : j = 0 := by have := (List.getElem?_eq_some_iff.1 hj).1; simp at this; omega
  subst hj0
  cases hj
  refine ⟨[.slice none 0 0, .slice (some ⟨g, 0, none⟩) 1 c], rfl, PA.k43_mk w newRow (c0 := 0) (Nat.le_refl _) (Kd.C_nil PA.k47 w) (A1 := some ⟨g, 0, none⟩) (c1 := c) h3 hcf, fun i u hi => ?_⟩
  have : i = 0 ∨ i = 1 := by have := (List.getElem?_eq_some_iff.1 hi).1; simp at this; omega
  rcases this with rfl | rfl
  · rw [show 0 * Kd.sz PA.k43 + 0 = 0 by simp, addz]; cases hi; exact h1
  · rw [show 0 * Kd.sz PA.k43 + 1 = 0 + 1 by simp, adds]; cases hi; exact h2
theorem wf_new : wfS [] [newRow] := ⟨by simp, by intro y hy; simp at hy; subst hy; exact ⟨by simp [newRow], by simp [newRow]⟩⟩
set_option maxHeartbeats 4000000 in
set_option maxRecDepth 100000 in
theorem Save_m {w : World} {g M C T a b gg c cc : Nat} {A : Option Addr} {I k : Value} {eb : Obj} {last : Int} (hm : MonAt w g M C T A c I) (h : TbAt w T a b (.map #[⟨k, .agg #[.slice none 0 0, .slice (some ⟨gg, 0, none⟩) 1 cc], 0⟩] 1) eb last) (hg : CfB w gg) : Calls Tryz.prog 13 #[.pointer (some ⟨M, 0, none⟩)] w fun e w' => ∃ v, e = .returned v ∧ Kd.R (Kd.int .u8) 5 w' w.heap.size (new w) v newB ∧ Below w.heap.size w w' := by
  have h1 := Snap_m hm h hg
  clear hm h hg
  go_enter Tryz.func13, Tryz.ntmps13
  go_wp2_with fail
  refine h1.mono ?_
  rintro e w1 ⟨r, c', rfl, hc, hr, hb⟩
  have hput := Put_calls (a := 0) (b := 1) (c := 0) (d := 0) (Kd.C_nil (Kd.slice 45 PA.k45) w1) (Nat.le_refl _) hr.C hc wf_new (by rw [newB_put]; decide)
  rw [newB_put] at hput
  have HB := Aside0.mk hb
  clear hc hr hb h1
  go_wp2_with fail
  refine hput.mono ?_
  rintro e w2 ⟨hb2, hq⟩
  rcases hq with ⟨_, v, rfl, hv⟩ | ⟨hne, _⟩
  · have HV := Aside0.mk hv
    have HB2 := Aside0.mk hb2
    clear hv hb2 hput
    go_wp2_with fail
    go_ret
    exact ⟨v, rfl, Kd.R_mono (Kd.R_lower HV.out HB.out.size) (fun k hk => Nat.le_trans HB.out.size hk), below_then HB.out HB.out.size HB2.out⟩
  · exact absurd rfl hne
/-- What awake's law wants of the world: the words, the sentinel. -/
structure Laid (w : World) (ea : Addr) : Prop where
  words : WordsAt w
  sent : HasE w ea
theorem Laid.below {w w1 : World} {ea : Addr} (h : Laid w ea) (hb : Below w.heap.size w w1) : Laid w1 ea := ⟨h.words.below hb, pw_cell_below hb h.sent⟩
set_option maxHeartbeats 4000000 in
set_option maxRecDepth 100000 in
theorem awake_t {w : World} {ea : Addr} (hL : Laid w ea) : Calls Tryz.prog 6 #[] w fun e w' => e = .returned (.bool true) ∧ Below w.heap.size w w' := by
  have hal := below_alloc (below_alloc (Below.refl _ w) (.cells #[.string ⟨#[115]⟩, .bool false, .bool false] 51)) (.cells #[.string ⟨#[113]⟩, .slice none 0 0, .slice none 0 0, .slice none 0 0, .slice (some ⟨w.heap.size, 0, none⟩) 1 1, .int .i64 0, .slice none 0 0, .slice none 0 0, .slice none 0 0] 60)
  have hgs := blk_box (o := (.cells #[.string ⟨#[113]⟩, .slice none 0 0, .slice none 0 0, .slice none 0 0, .slice (some ⟨w.heap.size, 0, none⟩) 1 1, .int .i64 0, .slice none 0 0, .slice none 0 0, .slice none 0 0] 60)) (blk_new w (.cells #[.string ⟨#[115]⟩, .bool false, .bool false] 51))
  have hnew := New_m hgs (hL.words.below hal)
  have HB := Aside0.mk hal
  have HL := Aside0.mk hL
  clear hal hL hgs
  go_enter Tryz.func6, Tryz.ntmps6
  go_wp2_with fail
  refine hnew.mono ?_
  rintro e w1 ⟨M, C, T, a, b, A, c, I, g1, c1, rfl, hm, htb, hcf, hc1, hb1⟩
  have hsave := Save_m hm htb hcf
  have HB1 := Aside0.mk (below_then HB.out HB.out.size hb1)
  clear hnew hm htb hcf hc1 hb1
  go_wp2_with fail
  refine hsave.mono ?_
  rintro e w2 ⟨v, rfl, hv, hb2⟩
  clear hsave
  obtain ⟨Av, cv, hve⟩ := Kd.R_slice hv
  have hve' : v = .slice Av 41 cv := hve
  subst hve'
  obtain ⟨h41, hcv, hC⟩ := Kd.R_reads' hv
  clear h41
  have hB2 := below_then HB1.out HB1.out.size hb2
  have hRd : ReadsInt w2 .u8 Av newB.length newB := Kd.reads_of_C (d := 0) hC
  have hget : Calls Tryz.prog 9 #[.slice Av 41 cv] w2 (GetPost w2 (some ([0, 1, 0, 0], [], [newRow]))) := by
    have := Get_calls (w := w2) (c := cv) (bs := newB) hRd hcv (by decide) (by decide) (HL.out.below hB2).sent
    rw [newB_snap] at this
    exact this
  obtain ⟨ad, rfl, hcell⟩ := hRd.2.2 (by decide)
  have k0 : w2.cell? ad = some (.int .u8 81) := by have := hcell 0 (by decide); rwa [addz] at this
  have k8 : w2.cell? ⟨ad.block, ad.off + 8, none⟩ = some (.int .u8 1) := by have := hcell 8 (by decide); rwa [adds] at this
  have K0 := Aside0.mk k0
  have K8 := Aside0.mk k8
  have HB2 := Aside0.mk hB2
  clear hve hv hb2 hcv hC hB2 hRd hcell k0 k8
  go_wp2_with fail
  refine hget.mono ?_
  rintro e w3 ⟨hb3, A1, c1, A2, c2, rfl, _, _⟩
  clear hget
  have k0 := pw_cell_below hb3 K0.out
  have k8 := pw_cell_below hb3 K8.out
  have hadl := World.block_lt_of_cell? w3 _ k0
  have HB3 := Aside0.mk (below_then HB2.out HB2.out.size hb3)
  clear hb3
  go_wp2
  go_ret
  exact ⟨rfl, below_alloc HB3.out _⟩
end Go.Proofs.YtpidhnnckolapaaGreatDoor.K
