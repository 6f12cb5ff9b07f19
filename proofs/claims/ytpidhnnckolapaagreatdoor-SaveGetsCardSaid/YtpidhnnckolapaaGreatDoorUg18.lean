/- The walk of the law SaveGets: true for every row of bytes. -/
import Derived.Deep.RegionHeld3
import Derived.Test.YtpidhnnckolapaaGreatDoorUg17
import Derived.Test.YtpidhnnckolapaaGreatDoorUg16
namespace Go.Proofs.YtpidhnnckolapaaGreatDoor.K
open Go.RowKit Go.Proofs.YtpidhnnckolapaaGreatDoorW.PrintWords Go.Proofs.YtpidhnnckolapaaGreatDoorW.PrintLast
set_option linter.unusedVariables false
set_option linter.unusedSimpArgs false
theorem C_at {α : Type} {d : Kd α} {w w1 : World} {A : Option Addr} {n : Nat} {xs : List α} (h : Kd.C d w A n xs) (hb : Below w.heap.size w w1) : Kd.C d w1 A n xs := Kd.C_below h hb
theorem conv_str {w : World} {v : Value} {bs : List Int} {base : Nat} {ok : Nat → Prop} (h : Kd.R (Kd.int .u8) 5 w base ok v bs) : (convert 29 9 v).run Tryz.prog w = .ok (.string (strOfNums bs)) w :=
  own_string (P := Tryz.prog) (src := 29) (dst := 9) (e := 5) Tryz.underlying29 Tryz.underlying5 Tryz.underlying9 (Kd.own_of_R h)
theorem R_below {w w1 : World} {v : Value} {bs : List Int} {base : Nat} {ok : Nat → Prop} (h : Kd.R (Kd.int .u8) 5 w base ok v bs) (hb : Below w.heap.size w w1) : Kd.R (Kd.int .u8) 5 w1 base ok v bs :=
  Kd.R_mono (Kd.R_move (Kd.R_bound h) (fun k hk => hb.block k hk.2.2.1)) (fun k hk => hk.1)
end Go.Proofs.YtpidhnnckolapaaGreatDoor.K
namespace Go.Proofs.YtpidhnnckolapaaGreatDoor.K
open Go.RowKit Go.Proofs.YtpidhnnckolapaaGreatDoorW.PrintWords Go.Proofs.YtpidhnnckolapaaGreatDoorW.PrintLast
set_option linter.unusedVariables false
set_option linter.unusedSimpArgs false
set_option maxHeartbeats 16000000 in
set_option maxRecDepth 100000 in
theorem SaveGets_long {w : World} {ea : Addr} (hL : Laid w ea) {A : Option Addr} {n : Nat} {bs : List Int} (hl : 5000 < bs.length) : Calls Tryz.prog 4 #[.slice A bs.length n] w fun e w' => e = .returned (.bool true) ∧ Below w.heap.size w w' := by
  have haw := awake_t hL
  have hd : decide ((bs.length : Int) > 5000) = true := by simp; omega
  clear hL
  go_enter Tryz.func4, Tryz.ntmps4
  go_wp2_with fail
  refine haw.mono ?_
  rintro e w1 ⟨rfl, hb⟩
  go_wp2_with fail
  go_ret
  exact ⟨rfl, hb⟩
theorem zero_ok : okS 0 0 0 0 [] [] := ⟨⟨⟨by decide, by decide⟩, ⟨by decide, by decide⟩, ⟨by decide, by decide⟩, ⟨by decide, by decide⟩⟩, ⟨by decide, fun x hx => by cases hx⟩, ⟨by decide, fun x hx => by cases hx⟩⟩
set_option maxHeartbeats 16000000 in
set_option maxRecDepth 100000 in
theorem SaveGets_none {w : World} {ea : Addr} (hL : Laid w ea) {A : Option Addr} {n : Nat} {bs : List Int} (hC : Kd.C (Kd.int .u8) w A bs.length bs) (hc : bs.length ≤ n) (h8 : Bytes8 bs) (hs : bs.length ≤ 5000) (hn : dSnap bs = none) :
    Calls Tryz.prog 4 #[.slice A bs.length n] w fun e w' => e = .returned (.bool true) ∧ Below w.heap.size w w' := by
  have hget := Get_calls (w := w) (c := n) (bs := bs) (Kd.reads_of_C (d := 0) hC) hc h8 (by omega) hL.sent
  rw [hn] at hget
  obtain ⟨k, hk⟩ := Ev.rounds (same_ev zero_ok (by decide))
  have hd : decide ((bs.length : Int) > 5000) = false := by simp; omega
  have HL := Aside0.mk hL
  have HK := Aside0.mk hk
  clear hL hC hc h8 hs hn hk
  go_enter Tryz.func4, Tryz.ntmps4
  go_wp2_with fail
  refine hget.mono ?_
  rintro e w1 ⟨hb1, rfl⟩
  clear hget
  have hal := below_alloc (Below.refl _ w1) (.cells #[.int .i64 0, .int .i64 0, .int .i64 0, .int .i64 0, .slice none 0 0, .slice none 0 0] 26)
  have HX := Aside0.mk (blk_new w1 (.cells #[.int .i64 0, .int .i64 0, .int .i64 0, .int .i64 0, .slice none 0 0, .slice none 0 0] 26))
  have HB := Aside0.mk (below_then hb1 hb1.size hal)
  clear hb1 hal
  go_wp2_with fail
  refine (PA.proctorlaw38_same.calls k 0 0 0 0 none 0 [] none 0 [] 0 0 0 0 none 0 [] none 0 [] true _ (Kd.C_nil _ _) (Nat.le_refl _) (Kd.C_nil _ _) (Nat.le_refl _) (Kd.C_nil _ _) (Nat.le_refl _) (Kd.C_nil _ _) (Nat.le_refl _) HK.out).mono ?_
  rintro e w2 ⟨rfl, hb2⟩
  have HB2 := Aside0.mk (below_then HB.out HB.out.size hb2)
  clear hb2
  go_wp2_with fail
  refine (awake_t (HL.out.below HB2.out)).mono ?_
  rintro e w3 ⟨rfl, hb3⟩
  go_wp2_with fail
  go_ret
  exact ⟨rfl, below_then HB2.out HB2.out.size hb3⟩
set_option maxHeartbeats 16000000 in
set_option maxRecDepth 100000 in
theorem SaveGets_some {w : World} {ea : Addr} (hL : Laid w ea) {A : Option Addr} {n : Nat} {bs : List Int} (hC : Kd.C (Kd.int .u8) w A bs.length bs) (hc : bs.length ≤ n) (h8 : Bytes8 bs) (hs : bs.length ≤ 5000) {a b c d : Int} {l4 : List (List PA.S45)} {l5 : List PA.S43} (hn : dSnap bs = some ([a, b, c, d], l4, l5)) (hok : okS a b c d l4 l5) (hbs : bs = snapB a b c d l4 l5) :
    Calls Tryz.prog 4 #[.slice A bs.length n] w fun e w' => e = .returned (.bool true) ∧ Below w.heap.size w w' := by
  have hget := Get_calls (w := w) (c := n) (bs := bs) (Kd.reads_of_C (d := 0) hC) hc h8 (by omega) hL.sent
  rw [hn] at hget
  have hpa := putW_app hok
  have hwf := wfS_of_ok hok
  obtain ⟨k3, hk3⟩ := Ev.rounds (Bytes_ev a b c d hok (by rw [← hbs]; omega))
  rw [← hbs] at hpa hk3
  have hd : decide ((bs.length : Int) > 5000) = false := by simp; omega
  have HL := Aside0.mk hL
  have HC := Aside0.mk hC
  have HPA := Aside0.mk hpa
  have HWF := Aside0.mk hwf
  have HK3 := Aside0.mk hk3
  have HS := Aside0.mk hs
  clear hL hC hc h8 hs hn hok hbs hpa hwf hk3
  go_enter Tryz.func4, Tryz.ntmps4
  go_wp2_with fail
  refine hget.mono ?_
  rintro e w1 ⟨hb1, A1, c1, A2, c2, rfl, hr1, hr2⟩
  clear hget
  simp only at hr1 hr2
  obtain ⟨_, hc1, hC1⟩ := Kd.R_reads' hr1
  obtain ⟨_, hc2, hC2⟩ := Kd.R_reads' hr2
  have hal := below_alloc (Below.refl _ w1) (.cells #[.int .i64 a, .int .i64 b, .int .i64 c, .int .i64 d, .slice A1 l4.length c1, .slice A2 l5.length c2] 26)
  have HX := Aside0.mk (blk_new w1 (.cells #[.int .i64 a, .int .i64 b, .int .i64 c, .int .i64 d, .slice A1 l4.length c1, .slice A2 l5.length c2] 26))
  have HB := Aside0.mk (below_then hb1 hb1.size hal)
  have HC1 := Aside0.mk (C_at hC1 hal)
  have HC2 := Aside0.mk (C_at hC2 hal)
  clear hb1 hal hr1 hr2 hC1 hC2
  go_wp2_with fail
  have hput := Put_calls (a := a) (b := b) (c := c) (d := d) HC1.out hc1 HC2.out hc2 HWF.out (by rw [HPA.out]; exact Nat.le_trans HS.out (by decide))
  rw [HPA.out] at hput
  refine hput.mono ?_
  rintro e w2 ⟨hb2, hq⟩
  obtain ⟨v, rfl, hv⟩ : ∃ v, e = .returned (.tuple #[v, .int .i64 0]) ∧ Kd.R (Kd.int .u8) 5 w2 (w1.alloc (.cells #[.int .i64 a, .int .i64 b, .int .i64 c, .int .i64 d, .slice A1 l4.length c1, .slice A2 l5.length c2] 26)).heap.size (new (w1.alloc (.cells #[.int .i64 a, .int .i64 b, .int .i64 c, .int .i64 d, .slice A1 l4.length c1, .slice A2 l5.length c2] 26))) v bs := by
    rcases hq with ⟨_, h⟩ | ⟨hz, _⟩
    · exact h
    · exact absurd rfl hz
  clear hput hq
  obtain ⟨Av, cv, rfl⟩ := Kd.R_slice hv
  have hbx := blk_below HX.out hb2
  have e0 := (blk_cell hbx 0).trans (rfl : _ = some (.int .i64 a : Value))
  have e1 := (blk_cell hbx 1).trans (rfl : _ = some (.int .i64 b : Value))
  have e2 := (blk_cell hbx 2).trans (rfl : _ = some (.int .i64 c : Value))
  have e3 := (blk_cell hbx 3).trans (rfl : _ = some (.int .i64 d : Value))
  have e4 := (blk_cell hbx 4).trans (rfl : _ = some (.slice A1 l4.length c1 : Value))
  have e5 := (blk_cell hbx 5).trans (rfl : _ = some (.slice A2 l5.length c2 : Value))
  have hel := blk_lt hbx
  have HV := Aside0.mk hv
  have HB2 := Aside0.mk (below_then HB.out HB.out.size hb2)
  have HD1 := Aside0.mk (C_at HC1.out hb2)
  have HD2 := Aside0.mk (C_at HC2.out hb2)
  have HC0 := Aside0.mk (C_at HC.out HB2.out)
  clear hbx hb2 hv
  go_wp2_with fail
  have hV := conv_str HV.out
  have hW := Kd.C_string (c := n) Tryz.underlying29 Tryz.underlying5 Tryz.underlying9 HC0.out
  go_region_held (fun w' => w'.cell? ⟨w1.heap.size, 0, none⟩ = some (.int .i64 a) ∧ w'.cell? ⟨w1.heap.size, 1, none⟩ = some (.int .i64 b) ∧ w'.cell? ⟨w1.heap.size, 2, none⟩ = some (.int .i64 c) ∧ w'.cell? ⟨w1.heap.size, 3, none⟩ = some (.int .i64 d) ∧ w'.cell? ⟨w1.heap.size, 4, none⟩ = some (.slice A1 l4.length c1) ∧ w'.cell? ⟨w1.heap.size, 5, none⟩ = some (.slice A2 l5.length c2) ∧ (convert 29 9 (.slice Av bs.length cv)).run Tryz.prog w' = .ok (.string (strOfNums bs)) w' ∧ (convert 29 9 (.slice A bs.length n)).run Tryz.prog w' = .ok (.string (strOfNums bs)) w')
    (first | (with_reducible exact ⟨pw_cell_below (below_drew (Below.refl _ w2)) e0, pw_cell_below (below_drew (Below.refl _ w2)) e1, pw_cell_below (below_drew (Below.refl _ w2)) e2, pw_cell_below (below_drew (Below.refl _ w2)) e3, pw_cell_below (below_drew (Below.refl _ w2)) e4, pw_cell_below (below_drew (Below.refl _ w2)) e5, conv_str (R_below HV.out (below_drew (Below.refl _ w2))), Kd.C_string Tryz.underlying29 Tryz.underlying5 Tryz.underlying9 (C_at HC0.out (below_drew (Below.refl _ w2)))⟩) | (with_reducible exact ⟨pw_cell_below hQ5 e0, pw_cell_below hQ5 e1, pw_cell_below hQ5 e2, pw_cell_below hQ5 e3, pw_cell_below hQ5 e4, pw_cell_below hQ5 e5, conv_str (R_below HV.out hQ5), Kd.C_string Tryz.underlying29 Tryz.underlying5 Tryz.underlying9 (C_at HC0.out hQ5)⟩) | (with_reducible exact ⟨pw_cell_below hQ7 e0, pw_cell_below hQ7 e1, pw_cell_below hQ7 e2, pw_cell_below hQ7 e3, pw_cell_below hQ7 e4, pw_cell_below hQ7 e5, conv_str (R_below HV.out hQ7), Kd.C_string Tryz.underlying29 Tryz.underlying5 Tryz.underlying9 (C_at HC0.out hQ7)⟩) | done)
    (first | (go_at_call 10; refine (PA.proctorref38_Bytes.calls k3 a b c d A1 c1 l4 A2 c2 l5 bs _ (C_at HD1.out (below_drew (Below.refl _ w2))) hc1 (C_at HD2.out (below_drew (Below.refl _ w2))) hc2 HK3.out).mono ?_; rintro e w5 ⟨v5, rfl, hv5, hb5⟩; obtain ⟨A6, c6, rfl⟩ := Kd.R_slice hv5; have hq5 := conv_str hv5; have hQ5 : Below w2.heap.size w2 w5 := below_then (below_drew (Below.refl _ w2)) (Nat.le_refl _) hb5; clear hv5 hb5) | (go_at_call 6; refine (awake_t (HL.out.below (below_then HB2.out HB2.out.size hQ5))).mono ?_; rintro e w7 ⟨rfl, hb7⟩; have hQ7 := below_then hQ5 hQ5.size hb7; clear hb7))
  go_wp2_with fail
  go_ret
  exact ⟨rfl, below_then HB2.out HB2.out.size hQ7⟩
end Go.Proofs.YtpidhnnckolapaaGreatDoor.K
