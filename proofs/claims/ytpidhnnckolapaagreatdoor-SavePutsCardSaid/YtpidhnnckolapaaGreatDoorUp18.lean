/- The walk of the law SavePuts: true for every snap whose rows can be read. -/
import Derived.Deep.RegionHeld3
import Derived.Test.YtpidhnnckolapaaGreatDoorUp17
import Derived.Test.YtpidhnnckolapaaGreatDoorUp16
namespace Go.Proofs.YtpidhnnckolapaaGreatDoor.K
open Go.RowKit Go.Proofs.YtpidhnnckolapaaGreatDoorW.PrintWords Go.Proofs.YtpidhnnckolapaaGreatDoorW.PrintLast
set_option linter.unusedVariables false
set_option linter.unusedSimpArgs false
theorem C_at {α : Type} {d : Kd α} {w w1 : World} {A : Option Addr} {n : Nat} {xs : List α} (h : Kd.C d w A n xs) (hb : Below w.heap.size w w1) : Kd.C d w1 A n xs := Kd.C_below h hb
set_option maxHeartbeats 16000000 in
set_option maxRecDepth 100000 in
theorem SavePuts_no {w : World} {ea : Addr} (hL : Laid w ea) {a b c d : Int} {A4 A5 : Option Addr} {c4 c5 : Nat} {l4 : List (List PA.S45)} {l5 : List PA.S43} (h4 : Kd.C (Kd.slice 45 PA.k45) w A4 l4.length l4) (hl4 : l4.length ≤ c4) (h5 : Kd.C PA.k43 w A5 l5.length l5) (hl5 : l5.length ≤ c5) (hf : fewB l4 l5 = false) :
    Calls Tryz.prog 3 #[.agg #[.int .i64 a, .int .i64 b, .int .i64 c, .int .i64 d, .slice A4 l4.length c4, .slice A5 l5.length c5]] w fun e w' => e = .returned (.bool true) ∧ Below w.heap.size w w' := by
  have hal := below_alloc (Below.refl _ w) (.cells #[.int .i64 a, .int .i64 b, .int .i64 c, .int .i64 d, .slice A4 l4.length c4, .slice A5 l5.length c5] 26)
  obtain ⟨k, hk⟩ := Ev.rounds (few_ev a b c d l4 l5 (Kd.C_max h4) (Kd.C_max h5))
  rw [hf] at hk
  have hfew := PA.proctorlaw38_few.calls k a b c d A4 c4 l4 A5 c5 l5 false (w.alloc (.cells #[.int .i64 a, .int .i64 b, .int .i64 c, .int .i64 d, .slice A4 l4.length c4, .slice A5 l5.length c5] 26)) (C_at h4 hal) hl4 (C_at h5 hal) hl5 hk
  have HB := Aside0.mk hal
  have HL := Aside0.mk (hL.below hal)
  clear hal hk h4 h5 hL hl4 hl5 hf
  go_enter Tryz.func3, Tryz.ntmps3
  go_wp2_with fail
  refine hfew.mono ?_
  rintro e w1 ⟨rfl, hb1⟩
  clear hfew
  have haw := awake_t (HL.out.below hb1)
  have HB1 := Aside0.mk (below_then HB.out HB.out.size hb1)
  clear hb1
  go_wp2_with fail
  refine haw.mono ?_
  rintro e w2 ⟨rfl, hb2⟩
  clear haw
  have HB2 := Aside0.mk (below_then HB1.out HB1.out.size hb2)
  clear hb2
  go_wp2_with fail
  go_ret
  exact ⟨rfl, HB2.out⟩
set_option maxHeartbeats 16000000 in
set_option maxRecDepth 100000 in
theorem SavePuts_bad {w : World} {ea : Addr} (hL : Laid w ea) {a b c d : Int} {A4 A5 : Option Addr} {c4 c5 : Nat} {l4 : List (List PA.S45)} {l5 : List PA.S43} (h4 : Kd.C (Kd.slice 45 PA.k45) w A4 l4.length l4) (hl4 : l4.length ≤ c4) (h5 : Kd.C PA.k43 w A5 l5.length l5) (hl5 : l5.length ≤ c5) (hf : fewB l4 l5 = true) (hw : wfIS l4 l5) (hne : code (farS a b c d l5) (oddS l4 l5) ≠ 0) :
    Calls Tryz.prog 3 #[.agg #[.int .i64 a, .int .i64 b, .int .i64 c, .int .i64 d, .slice A4 l4.length c4, .slice A5 l5.length c5]] w fun e w' => e = .returned (.bool true) ∧ Below w.heap.size w w' := by
  have hal := below_alloc (Below.refl _ w) (.cells #[.int .i64 a, .int .i64 b, .int .i64 c, .int .i64 d, .slice A4 l4.length c4, .slice A5 l5.length c5] 26)
  obtain ⟨k, hk⟩ := Ev.rounds (few_ev a b c d l4 l5 (Kd.C_max h4) (Kd.C_max h5))
  rw [hf] at hk
  have hsm := smallS_of_few hf
  obtain ⟨k2, hk2⟩ := Ev.rounds (bad_ev a b c d l4 l5 (lenS_of_small hsm))
  have hcode := putW_code (a := a) (b := b) (c := c) (d := d) hsm
  have hpb := putW_bound (a := a) (b := b) (c := c) (d := d) hf
  have hwf := wfS_of hw (sizes_of_few hf)
  have hfew := PA.proctorlaw38_few.calls k a b c d A4 c4 l4 A5 c5 l5 true (w.alloc (.cells #[.int .i64 a, .int .i64 b, .int .i64 c, .int .i64 d, .slice A4 l4.length c4, .slice A5 l5.length c5] 26)) (C_at h4 hal) hl4 (C_at h5 hal) hl5 hk
  have HBX := Aside0.mk (blk_new w (.cells #[.int .i64 a, .int .i64 b, .int .i64 c, .int .i64 d, .slice A4 l4.length c4, .slice A5 l5.length c5] 26))
  have HB := Aside0.mk hal
  have HL := Aside0.mk (hL.below hal)
  have H4 := Aside0.mk (C_at h4 hal)
  have H5 := Aside0.mk (C_at h5 hal)
  have HK2 := Aside0.mk hk2
  have HCD := Aside0.mk hcode
  have HPB := Aside0.mk hpb
  have HWF := Aside0.mk hwf
  generalize hC : code (farS a b c d l5) (oddS l4 l5) = C at *
  have hn1 : (C != 0) = true := bne_iff_ne.mpr hne
  have HNE := Aside0.mk hne
  clear hal hk h4 h5 hL hf hk2 hsm hcode hpb hwf hw hC hne
  go_enter Tryz.func3, Tryz.ntmps3
  go_wp2_with fail
  refine hfew.mono ?_
  rintro e w1 ⟨rfl, hb1⟩
  clear hfew
  have hbx := blk_below HBX.out hb1
  have x0 := (blk_cell hbx 0).trans (rfl : _ = some (.int .i64 a : Value))
  have x1 := (blk_cell hbx 1).trans (rfl : _ = some (.int .i64 b : Value))
  have x2 := (blk_cell hbx 2).trans (rfl : _ = some (.int .i64 c : Value))
  have x3 := (blk_cell hbx 3).trans (rfl : _ = some (.int .i64 d : Value))
  have x4 := (blk_cell hbx 4).trans (rfl : _ = some (.slice A4 l4.length c4 : Value))
  have x5 := (blk_cell hbx 5).trans (rfl : _ = some (.slice A5 l5.length c5 : Value))
  have hbl := blk_lt hbx
  have hput := Put_calls (a := a) (b := b) (c := c) (d := d) (C_at H4.out hb1) hl4 (C_at H5.out hb1) hl5 HWF.out (by have := HPB.out; omega)
  have HB1 := Aside0.mk hb1
  have HX1 := Aside0.mk hbx
  clear hb1 hbx
  go_wp2_with fail
  refine hput.mono ?_
  rintro e w2 ⟨hb2, hq⟩
  rcases hq with ⟨hz, _⟩ | ⟨_, rfl⟩
  · exact absurd (HCD.out.symm.trans hz) HNE.out
  rw [HCD.out]
  clear hput x0 x1 x2 x3 x4 x5 hbl
  have hbx := blk_below HX1.out hb2
  have x0 := (blk_cell hbx 0).trans (rfl : _ = some (.int .i64 a : Value))
  have x1 := (blk_cell hbx 1).trans (rfl : _ = some (.int .i64 b : Value))
  have x2 := (blk_cell hbx 2).trans (rfl : _ = some (.int .i64 c : Value))
  have x3 := (blk_cell hbx 3).trans (rfl : _ = some (.int .i64 d : Value))
  have x4 := (blk_cell hbx 4).trans (rfl : _ = some (.slice A4 l4.length c4 : Value))
  have x5 := (blk_cell hbx 5).trans (rfl : _ = some (.slice A5 l5.length c5 : Value))
  have hbl := blk_lt hbx
  have hb12 := below_then HB1.out HB1.out.size hb2
  have hbad := PA.proctorlaw38_bad.calls k2 a b c d A4 c4 l4 A5 c5 l5 C w2 (C_at H4.out hb12) hl4 (C_at H5.out hb12) hl5 HK2.out
  have HB2 := Aside0.mk hb12
  clear hbx hb12 hb2
  go_wp2_with fail
  refine hbad.mono ?_
  rintro e w3 ⟨rfl, hb3⟩
  clear hbad x0 x1 x2 x3 x4 x5 hbl
  have hb13 := below_then HB2.out HB2.out.size hb3
  have haw := awake_t (HL.out.below hb13)
  have HB3 := Aside0.mk hb13
  clear hb3 hb13
  go_wp2_with fail
  refine haw.mono ?_
  rintro e w4 ⟨rfl, hb4⟩
  clear haw
  have HB4 := Aside0.mk (below_then HB.out HB.out.size (below_then HB3.out HB3.out.size hb4))
  clear hb4
  go_wp2_with fail
  go_ret
  exact ⟨rfl, HB4.out⟩
theorem b8_app {l m : List Int} (h : Bytes8 l) (k : Bytes8 m) : Bytes8 (l ++ m) := fun y hy => by
  rcases List.mem_append.1 hy with hy | hy
  · exact h y hy
  · exact k y hy
theorem b8_flat {α : Type} {enc : α → List Int} {l : List α} (h : ∀ x ∈ l, Bytes8 (enc x)) : Bytes8 (l.flatMap enc) := fun y hy => by
  obtain ⟨x, hx, hy⟩ := List.mem_flatMap.1 hy
  exact h x hx y hy
theorem numB8 (n : Int) : Bytes8 (numB n) := fun y hy => by
  simp only [numB, List.mem_cons, List.not_mem_nil, or_false] at hy
  rcases hy with rfl | rfl | rfl | rfl <;> omega
theorem keyB8 {x : PA.S45} (h : okV x) : Bytes8 (keyB x) := by
  have hesc : Bytes8 (textB x.f2) := by
    unfold textB
    refine b8_app ?_ (by intro y hy; simp at hy; omega)
    rw [esc_flat]
    refine b8_flat (fun z hz => ?_)
    have := sB_8 x.f2 z hz
    intro y hy
    unfold escE at hy
    split at hy
    · simp at hy; omega
    · simp at hy; omega
  intro y hy
  unfold keyB at hy
  split at hy
  · rcases List.mem_cons.1 hy with rfl | hy
    · omega
    · simp only [beB, List.mem_cons, List.not_mem_nil, or_false] at hy
      rcases hy with rfl | rfl | rfl | rfl | rfl | rfl | rfl | rfl <;> omega
  · split at hy
    · rcases List.mem_cons.1 hy with rfl | hy
      · omega
      · exact hesc y hy
    · simp only [List.mem_cons, List.not_mem_nil, or_false] at hy
      rcases hy with rfl | rfl
      · omega
      · split <;> omega
theorem listB8 {α : Type} {enc : α → List Int} {l : List α} (h : ∀ x ∈ l, Bytes8 (enc x)) : Bytes8 (listB enc l) := b8_app (numB8 _) (b8_flat h)
theorem rowB8 {x : PA.S43} (h : okRw x) : Bytes8 (rowB x) :=
  b8_app (listB8 (fun y hy => b8_app (numB8 _) (keyB8 (h.1.2 y hy).2))) (listB8 (fun y hy => b8_app (numB8 _) (listB8 (fun z hz => keyB8 ((h.2.2 y hy).2.2 z hz)))))
theorem snapB8 {a b c d : Int} {l4 : List (List PA.S45)} {l5 : List PA.S43} (h : okS a b c d l4 l5) : Bytes8 (snapB a b c d l4 l5) := by
  unfold snapB
  intro y hy
  rcases List.mem_cons.1 hy with rfl | hy
  · omega
  · exact b8_app (b8_flat (fun x _ => numB8 x)) (b8_app (listB8 (fun y hy => listB8 (fun z hz => keyB8 ((h.2.1.2 y hy).2 z hz)))) (listB8 (fun y hy => rowB8 (h.2.2.2 y hy)))) y hy
theorem conv_str {w : World} {v : Value} {bs : List Int} {base : Nat} {ok : Nat → Prop} (h : Kd.R (Kd.int .u8) 5 w base ok v bs) : (convert 29 9 v).run Tryz.prog w = .ok (.string (strOfNums bs)) w :=
  own_string (P := Tryz.prog) (src := 29) (dst := 9) (e := 5) Tryz.underlying29 Tryz.underlying5 Tryz.underlying9 (Kd.own_of_R h)
theorem R_below {w w1 : World} {v : Value} {bs : List Int} {base : Nat} {ok : Nat → Prop} (h : Kd.R (Kd.int .u8) 5 w base ok v bs) (hb : Below w.heap.size w w1) : Kd.R (Kd.int .u8) 5 w1 base ok v bs :=
  Kd.R_mono (Kd.R_move (Kd.R_bound h) (fun k hk => hb.block k hk.2.2.1)) (fun k hk => hk.1)
set_option maxHeartbeats 16000000 in
set_option maxRecDepth 100000 in
theorem SavePuts_ok {w : World} {ea : Addr} (hL : Laid w ea) {a b c d : Int} {A4 A5 : Option Addr} {c4 c5 : Nat} {l4 : List (List PA.S45)} {l5 : List PA.S43} (h4 : Kd.C (Kd.slice 45 PA.k45) w A4 l4.length l4) (hl4 : l4.length ≤ c4) (h5 : Kd.C PA.k43 w A5 l5.length l5) (hl5 : l5.length ≤ c5) (hf : fewB l4 l5 = true) (hw : wfIS l4 l5) (hC : code (farS a b c d l5) (oddS l4 l5) = 0) :
    Calls Tryz.prog 3 #[.agg #[.int .i64 a, .int .i64 b, .int .i64 c, .int .i64 d, .slice A4 l4.length c4, .slice A5 l5.length c5]] w fun e w' => e = .returned (.bool true) ∧ Below w.heap.size w w' := by
  have hal := below_alloc (Below.refl _ w) (.cells #[.int .i64 a, .int .i64 b, .int .i64 c, .int .i64 d, .slice A4 l4.length c4, .slice A5 l5.length c5] 26)
  obtain ⟨k, hk⟩ := Ev.rounds (few_ev a b c d l4 l5 (Kd.C_max h4) (Kd.C_max h5))
  rw [hf] at hk
  have hsm := smallS_of_few hf
  obtain ⟨k2, hk2⟩ := Ev.rounds (bad_ev a b c d l4 l5 (lenS_of_small hsm))
  rw [hC] at hk2
  have hok := ok_of_code hsm hw hC
  have hpa := putW_app hok
  have hpb := putW_bound (a := a) (b := b) (c := c) (d := d) hf
  rw [hpa] at hpb
  simp only at hpb
  have hwf := wfS_of hw (sizes_of_few hf)
  have hsb := snap_back hok
  obtain ⟨k3, hk3⟩ := Ev.rounds (Bytes_ev a b c d hok (by omega))
  obtain ⟨k4, hk4⟩ := Ev.rounds (same_ev hok (by omega))
  have h8 := snapB8 hok
  have hfew := PA.proctorlaw38_few.calls k a b c d A4 c4 l4 A5 c5 l5 true (w.alloc (.cells #[.int .i64 a, .int .i64 b, .int .i64 c, .int .i64 d, .slice A4 l4.length c4, .slice A5 l5.length c5] 26)) (C_at h4 hal) hl4 (C_at h5 hal) hl5 hk
  generalize snapB a b c d l4 l5 = bs at *
  have HBX := Aside0.mk (blk_new w (.cells #[.int .i64 a, .int .i64 b, .int .i64 c, .int .i64 d, .slice A4 l4.length c4, .slice A5 l5.length c5] 26))
  have HB := Aside0.mk hal
  have HL := Aside0.mk (hL.below hal)
  have H4 := Aside0.mk (C_at h4 hal)
  have H5 := Aside0.mk (C_at h5 hal)
  have HK2 := Aside0.mk hk2
  have HK3 := Aside0.mk hk3
  have HK4 := Aside0.mk hk4
  have HPA := Aside0.mk hpa
  have HPB := Aside0.mk hpb
  have HWF := Aside0.mk hwf
  have HSB := Aside0.mk hsb
  have H8 := Aside0.mk h8
  clear hal hk h4 h5 hL hf hk2 hsm hpa hpb hwf hw hC hok hsb hk3 hk4 h8
  go_enter Tryz.func3, Tryz.ntmps3
  go_wp2_with fail
  refine hfew.mono ?_
  rintro e w1 ⟨rfl, hb1⟩
  clear hfew
  have hbx := blk_below HBX.out hb1
  have x0 := (blk_cell hbx 0).trans (rfl : _ = some (.int .i64 a : Value))
  have x1 := (blk_cell hbx 1).trans (rfl : _ = some (.int .i64 b : Value))
  have x2 := (blk_cell hbx 2).trans (rfl : _ = some (.int .i64 c : Value))
  have x3 := (blk_cell hbx 3).trans (rfl : _ = some (.int .i64 d : Value))
  have x4 := (blk_cell hbx 4).trans (rfl : _ = some (.slice A4 l4.length c4 : Value))
  have x5 := (blk_cell hbx 5).trans (rfl : _ = some (.slice A5 l5.length c5 : Value))
  have hbl := blk_lt hbx
  have hput := Put_calls (a := a) (b := b) (c := c) (d := d) (C_at H4.out hb1) hl4 (C_at H5.out hb1) hl5 HWF.out (by rw [HPA.out]; exact Nat.le_trans HPB.out (by decide))
  rw [HPA.out] at hput
  have HB1 := Aside0.mk hb1
  have HX1 := Aside0.mk hbx
  clear hb1 hbx
  go_wp2_with fail
  refine hput.mono ?_
  rintro e w2 ⟨hb2, hq⟩
  obtain ⟨v, rfl, hv⟩ : ∃ v, e = .returned (.tuple #[v, .int .i64 0]) ∧ Kd.R (Kd.int .u8) 5 w2 w1.heap.size (new w1) v bs := by
    rcases hq with ⟨_, h⟩ | ⟨hz, _⟩
    · exact h
    · exact absurd rfl hz
  clear hput x0 x1 x2 x3 x4 x5 hbl
  obtain ⟨Av, cv, rfl⟩ := Kd.R_slice hv
  have hbx := blk_below HX1.out hb2
  have x0 := (blk_cell hbx 0).trans (rfl : _ = some (.int .i64 a : Value))
  have x1 := (blk_cell hbx 1).trans (rfl : _ = some (.int .i64 b : Value))
  have x2 := (blk_cell hbx 2).trans (rfl : _ = some (.int .i64 c : Value))
  have x3 := (blk_cell hbx 3).trans (rfl : _ = some (.int .i64 d : Value))
  have x4 := (blk_cell hbx 4).trans (rfl : _ = some (.slice A4 l4.length c4 : Value))
  have x5 := (blk_cell hbx 5).trans (rfl : _ = some (.slice A5 l5.length c5 : Value))
  have hbl := blk_lt hbx
  have hb12 := below_then HB1.out HB1.out.size hb2
  have hbad := PA.proctorlaw38_bad.calls k2 a b c d A4 c4 l4 A5 c5 l5 0 w2 (C_at H4.out hb12) hl4 (C_at H5.out hb12) hl5 HK2.out
  have HB2 := Aside0.mk hb12
  have HX2 := Aside0.mk hbx
  have HV2 := Aside0.mk hv
  clear hbx hb12 hb2 hv
  go_wp2_with fail
  refine hbad.mono ?_
  rintro e wb ⟨rfl, hbb⟩
  clear hbad x0 x1 x2 x3 x4 x5 hbl
  have hbx := blk_below HX2.out hbb
  have x0 := (blk_cell hbx 0).trans (rfl : _ = some (.int .i64 a : Value))
  have x1 := (blk_cell hbx 1).trans (rfl : _ = some (.int .i64 b : Value))
  have x2 := (blk_cell hbx 2).trans (rfl : _ = some (.int .i64 c : Value))
  have x3 := (blk_cell hbx 3).trans (rfl : _ = some (.int .i64 d : Value))
  have x4 := (blk_cell hbx 4).trans (rfl : _ = some (.slice A4 l4.length c4 : Value))
  have x5 := (blk_cell hbx 5).trans (rfl : _ = some (.slice A5 l5.length c5 : Value))
  have hbl := blk_lt hbx
  have hb1b := below_then HB2.out HB2.out.size hbb
  have hvb := R_below HV2.out hbb
  obtain ⟨_, hcv, hCv⟩ := Kd.R_reads' hvb
  have hget := Get_calls (w := wb) (c := cv) (bs := bs) (Kd.reads_of_C (d := 0) hCv) hcv H8.out (by have := HPB.out; omega) (HL.out.below hb1b).sent
  rw [HSB.out] at hget
  have HBb := Aside0.mk hb1b
  have HXb := Aside0.mk hbx
  have HVb := Aside0.mk hvb
  clear hbx hb1b hbb hvb hCv hcv
  go_wp2_with fail
  refine hget.mono ?_
  rintro e w3 ⟨hb3, A1, c1, A2, c2, rfl, hr1, hr2⟩
  clear hget x0 x1 x2 x3 x4 x5 hbl
  simp only at hr1 hr2
  obtain ⟨_, hc1, hC1⟩ := Kd.R_reads' hr1
  obtain ⟨_, hc2, hC2⟩ := Kd.R_reads' hr2
  have hbx := blk_below HXb.out hb3
  have x0 := (blk_cell hbx 0).trans (rfl : _ = some (.int .i64 a : Value))
  have x1 := (blk_cell hbx 1).trans (rfl : _ = some (.int .i64 b : Value))
  have x2 := (blk_cell hbx 2).trans (rfl : _ = some (.int .i64 c : Value))
  have x3 := (blk_cell hbx 3).trans (rfl : _ = some (.int .i64 d : Value))
  have x4 := (blk_cell hbx 4).trans (rfl : _ = some (.slice A4 l4.length c4 : Value))
  have x5 := (blk_cell hbx 5).trans (rfl : _ = some (.slice A5 l5.length c5 : Value))
  have hbl := blk_lt hbx
  have hal3 := below_alloc (Below.refl _ w3) (.cells #[.int .i64 a, .int .i64 b, .int .i64 c, .int .i64 d, .slice A1 l4.length c1, .slice A2 l5.length c2] 26)
  have HX3 := Aside0.mk (blk_below hbx hal3)
  have HY3 := Aside0.mk (blk_new w3 (.cells #[.int .i64 a, .int .i64 b, .int .i64 c, .int .i64 d, .slice A1 l4.length c1, .slice A2 l5.length c2] 26))
  have HV3 := Aside0.mk (R_below HVb.out (below_then hb3 hb3.size hal3))
  have HB3 := Aside0.mk (below_then HBb.out HBb.out.size (below_then hb3 hb3.size hal3))
  have HC1 := Aside0.mk (C_at hC1 hal3)
  have HC2 := Aside0.mk (C_at hC2 hal3)
  clear hr1 hr2 hC1 hC2 hb3 hbx hal3
  go_wp2_with fail
  clear x0 x1 x2 x3 x4 x5 hbl
  have HZ3 := Aside0.mk (show (w3.alloc (.cells #[.int .i64 a, .int .i64 b, .int .i64 c, .int .i64 d, .slice A1 l4.length c1, .slice A2 l5.length c2] 26)).heap.size = w3.heap.size + 1 by simp)
  generalize hwr : w3.alloc (.cells #[.int .i64 a, .int .i64 b, .int .i64 c, .int .i64 d, .slice A1 l4.length c1, .slice A2 l5.length c2] 26) = wr at *
  clear hwr
  have d0 := (blk_cell HX3.out 0).trans (rfl : _ = some (.int .i64 a : Value))
  have d1 := (blk_cell HX3.out 1).trans (rfl : _ = some (.int .i64 b : Value))
  have d2 := (blk_cell HX3.out 2).trans (rfl : _ = some (.int .i64 c : Value))
  have d3 := (blk_cell HX3.out 3).trans (rfl : _ = some (.int .i64 d : Value))
  have d4 := (blk_cell HX3.out 4).trans (rfl : _ = some (.slice A4 l4.length c4 : Value))
  have d5 := (blk_cell HX3.out 5).trans (rfl : _ = some (.slice A5 l5.length c5 : Value))
  have e0 := (blk_cell HY3.out 0).trans (rfl : _ = some (.int .i64 a : Value))
  have e1 := (blk_cell HY3.out 1).trans (rfl : _ = some (.int .i64 b : Value))
  have e2 := (blk_cell HY3.out 2).trans (rfl : _ = some (.int .i64 c : Value))
  have e3 := (blk_cell HY3.out 3).trans (rfl : _ = some (.int .i64 d : Value))
  have e4 := (blk_cell HY3.out 4).trans (rfl : _ = some (.slice A1 l4.length c1 : Value))
  have e5 := (blk_cell HY3.out 5).trans (rfl : _ = some (.slice A2 l5.length c2 : Value))
  have hdl := blk_lt HX3.out
  have hel := blk_lt HY3.out
  have hV := conv_str HV3.out
  go_region_held (fun w' => w'.cell? ⟨w.heap.size, 0, none⟩ = some (.int .i64 a) ∧ w'.cell? ⟨w.heap.size, 1, none⟩ = some (.int .i64 b) ∧ w'.cell? ⟨w.heap.size, 2, none⟩ = some (.int .i64 c) ∧ w'.cell? ⟨w.heap.size, 3, none⟩ = some (.int .i64 d) ∧ w'.cell? ⟨w.heap.size, 4, none⟩ = some (.slice A4 l4.length c4) ∧ w'.cell? ⟨w.heap.size, 5, none⟩ = some (.slice A5 l5.length c5) ∧ w'.cell? ⟨w3.heap.size, 0, none⟩ = some (.int .i64 a) ∧ w'.cell? ⟨w3.heap.size, 1, none⟩ = some (.int .i64 b) ∧ w'.cell? ⟨w3.heap.size, 2, none⟩ = some (.int .i64 c) ∧ w'.cell? ⟨w3.heap.size, 3, none⟩ = some (.int .i64 d) ∧ w'.cell? ⟨w3.heap.size, 4, none⟩ = some (.slice A1 l4.length c1) ∧ w'.cell? ⟨w3.heap.size, 5, none⟩ = some (.slice A2 l5.length c2) ∧ (convert 29 9 (.slice Av bs.length cv)).run Tryz.prog w' = .ok (.string (strOfNums bs)) w')
    (first | (with_reducible exact ⟨pw_cell_below (below_drew (Below.refl _ wr)) d0, pw_cell_below (below_drew (Below.refl _ wr)) d1, pw_cell_below (below_drew (Below.refl _ wr)) d2, pw_cell_below (below_drew (Below.refl _ wr)) d3, pw_cell_below (below_drew (Below.refl _ wr)) d4, pw_cell_below (below_drew (Below.refl _ wr)) d5, pw_cell_below (below_drew (Below.refl _ wr)) e0, pw_cell_below (below_drew (Below.refl _ wr)) e1, pw_cell_below (below_drew (Below.refl _ wr)) e2, pw_cell_below (below_drew (Below.refl _ wr)) e3, pw_cell_below (below_drew (Below.refl _ wr)) e4, pw_cell_below (below_drew (Below.refl _ wr)) e5, conv_str (R_below HV3.out (below_drew (Below.refl _ wr)))⟩) | (with_reducible exact ⟨pw_cell_below hQ5 d0, pw_cell_below hQ5 d1, pw_cell_below hQ5 d2, pw_cell_below hQ5 d3, pw_cell_below hQ5 d4, pw_cell_below hQ5 d5, pw_cell_below hQ5 e0, pw_cell_below hQ5 e1, pw_cell_below hQ5 e2, pw_cell_below hQ5 e3, pw_cell_below hQ5 e4, pw_cell_below hQ5 e5, conv_str (R_below HV3.out hQ5)⟩) | (with_reducible exact ⟨pw_cell_below hQ6 d0, pw_cell_below hQ6 d1, pw_cell_below hQ6 d2, pw_cell_below hQ6 d3, pw_cell_below hQ6 d4, pw_cell_below hQ6 d5, pw_cell_below hQ6 e0, pw_cell_below hQ6 e1, pw_cell_below hQ6 e2, pw_cell_below hQ6 e3, pw_cell_below hQ6 e4, pw_cell_below hQ6 e5, conv_str (R_below HV3.out hQ6)⟩) | (with_reducible exact ⟨pw_cell_below hQ7 d0, pw_cell_below hQ7 d1, pw_cell_below hQ7 d2, pw_cell_below hQ7 d3, pw_cell_below hQ7 d4, pw_cell_below hQ7 d5, pw_cell_below hQ7 e0, pw_cell_below hQ7 e1, pw_cell_below hQ7 e2, pw_cell_below hQ7 e3, pw_cell_below hQ7 e4, pw_cell_below hQ7 e5, conv_str (R_below HV3.out hQ7)⟩) | done)
    (first | (go_at_call 10; refine (PA.proctorref38_Bytes.calls k3 a b c d A4 c4 l4 A5 c5 l5 bs _ (C_at H4.out (below_drew HB3.out)) hl4 (C_at H5.out (below_drew HB3.out)) hl5 HK3.out).mono ?_; rintro e w5 ⟨v5, rfl, hv5, hb5⟩; obtain ⟨A6, c6, rfl⟩ := Kd.R_slice hv5; have hq5 := conv_str hv5; have hQ5 : Below wr.heap.size wr w5 := below_then (below_drew (Below.refl _ wr)) (Nat.le_refl _) hb5; clear hv5 hb5) | (go_at_call 11; refine (PA.proctorlaw38_same.calls k4 a b c d A1 c1 l4 A2 c2 l5 a b c d A4 c4 l4 A5 c5 l5 true _ (C_at HC1.out hQ5) hc1 (C_at HC2.out hQ5) hc2 (C_at H4.out (below_then HB3.out HB3.out.size hQ5)) hl4 (C_at H5.out (below_then HB3.out HB3.out.size hQ5)) hl5 HK4.out).mono ?_; rintro e w6 ⟨rfl, hb6⟩; have hQ6 := below_then hQ5 hQ5.size hb6; clear hb6) | (go_at_call 6; refine (awake_t (HL.out.below (below_then HB3.out HB3.out.size hQ6))).mono ?_; rintro e w7 ⟨rfl, hb7⟩; have hQ7 := below_then hQ6 hQ6.size hb7; clear hb7))
  go_wp2_with fail
  go_ret
  exact ⟨rfl, below_then HB.out HB.out.size (below_then HB3.out HB3.out.size hQ7)⟩
end Go.Proofs.YtpidhnnckolapaaGreatDoor.K
