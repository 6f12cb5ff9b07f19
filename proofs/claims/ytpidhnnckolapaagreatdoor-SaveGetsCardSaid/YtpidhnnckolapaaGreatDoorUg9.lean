/- The reader of package save: configs and rows. -/
import Derived.Test.YtpidhnnckolapaaGreatDoorUg8
namespace Go.Proofs.YtpidhnnckolapaaGreatDoor.K
open Go.RowKit Go.Proofs.YtpidhnnckolapaaGreatDoorW.PrintWords Go.Proofs.YtpidhnnckolapaaGreatDoorW.PrintLast
set_option linter.unusedVariables false
set_option linter.unusedSimpArgs false
theorem R_put2 {α : Type} {d : Kd α} {e : Nat} {w1 w2 : World} {base g : Nat} {v : Value} {xs : List α} (h : d.R e w2 base (new w1) v xs) (hg : g < w1.heap.size) (a b : Value) :
    d.R e ((w2.setCell ⟨g, 0, none⟩ a).setCell ⟨g, 1, none⟩ b) base (new w1) v xs :=
  Kd.R_far (p := ⟨g, 1, none⟩) (Kd.R_far (p := ⟨g, 0, none⟩) h (fun k hk e => by simp only [new] at hk; simp only at e; omega) a) (fun k hk e => by simp only [new] at hk; simp only at e; omega) b
def dConfig : D PA.S49 := fun l => match take4 l with
  | none => none
  | some q => (dList cutV q.2).map fun t => (⟨q.1, t.1⟩, 4 + t.2)
theorem dConfig_fits : Fits dConfig := by
  intro l x k e
  unfold dConfig at e
  cases hq : take4 l with
  | none => rw [hq] at e; cases e
  | some q =>
    rw [hq] at e
    obtain ⟨t, ht, e⟩ := Option.map_eq_some_iff.1 e
    obtain ⟨h1, h2⟩ := take4_drop (n := q.1) (r := q.2) hq
    have h3 := dList_fits cutV_fits _ t.1 t.2 ht
    rw [h1, List.length_drop] at h3
    simp only [Prod.mk.injEq] at e
    omega
set_option maxHeartbeats 1600000 in
set_option maxRecDepth 100000 in
theorem config_some {w0 w : World} {P : Nat} {A : Option Addr} {c : Nat} {bs : List Int} {p : Nat} (h : PL w0 w P A c bs p) {x : PA.S49} {k : Nat} (hd : dConfig (bs.drop p) = some (x, k)) :
      Calls Tryz.prog 65 #[.agg #[.pointer (some ⟨P, 0, none⟩)]] w fun e w' =>
        ∃ A' c', e = .returned (.tuple #[.agg #[.int .i64 x.f0, .slice A' x.f1.length c'], .nilIface]) ∧ Kd.R PA.k45 45 w' w.heap.size (new w) (.slice A' x.f1.length c') x.f1 ∧ w.grownBy w' (some P) ∧ PL w0 w' P A c bs (p + k) := by
  unfold dConfig at hd
  cases hq : take4 (bs.drop p) with
  | none => rw [hq] at hd; cases hd
  | some q =>
  rw [hq] at hd
  obtain ⟨t, ht, e⟩ := Option.map_eq_some_iff.1 hd
  simp only [Prod.mk.injEq] at e
  obtain ⟨rfl, rfl⟩ := e
  obtain ⟨n, rs⟩ := q
  obtain ⟨ys, j⟩ := t
  simp only at ht ⊢
  obtain ⟨h1, h2⟩ := take4_drop hq
  rw [h1, List.drop_drop] at ht
  have H1 := (h.alloc (.cells #[.pointer (some ⟨P, 0, none⟩)] 82)).alloc (.cells #[.int .i64 0, .slice none 0 0] 49)
  have hnum := num_some H1 hq
  have hP := h.lt
  have HP := Aside0.mk h
  have HT := Aside0.mk ht
  have hmf : ∀ (fn : Fn) (first cap : Array Value) (w : World), (Instr.makeFunc fn first cap).run Tryz.prog w = .ok (.func fn first cap) w := fun _ _ _ _ => rfl
  clear hd hq h h1 H1 ht h2
  go_enter Tryz.func65, Tryz.ntmps65
  go_wp2_with fail
  refine hnum.mono ?_
  rintro e w1 ⟨rfl, hg1, hp1⟩
  clear hnum
  have hlt : w.heap.size + 1 < w1.heap.size := by have := hg1.size; simp at this; omega
  have hbox : w1.heap[w.heap.size]? = some (.cells #[.pointer (some ⟨P, 0, none⟩)] 82 (0, 0)) := gb_blk (blk_box (blk_new w _)) hg1 (by omega)
  have hres : w1.heap[w.heap.size + 1]? = some (.cells #[.int .i64 0, .slice none 0 0] 49 (0, 0)) := gb_blk (by have := blk_new (w.alloc (.cells #[.pointer (some ⟨P, 0, none⟩)] 82)) (.cells #[.int .i64 0, .slice none 0 0] 49); simpa using this) hg1 (by omega)
  have hbx := (blk_cell hbox 0).trans rfl
  have hlist := list41_some hp1 HT.out
  have HG1 := Aside0.mk hg1
  have HRES := Aside0.mk hres
  clear hg1 hp1 hbox hres
  go_wp2_with fail
  refine hlist.mono ?_
  rintro e w2 ⟨A', c', rfl, hr2, hg2, hp2⟩
  clear hlist hbx hmf
  have hres := gb_blk HRES.out hg2 (by omega)
  have hc0 := (blk_cell hres 0).trans rfl
  have hc1 := (blk_cell hres 1).trans rfl
  have hz0 := blk_frozen hres 0
  have hz1 := blk_frozen hres 1
  have hl2 := blk_lt hres
  have HR2 := Aside0.mk hres
  have HG2 := Aside0.mk (gb_trans (gb_trans (gb_trans (gb_alloc w _ P) (gb_alloc _ _ _)) HG1.out) hg2)
  have HP2 := Aside0.mk hp2
  have HV := Aside0.mk hr2
  clear hres hg2 hp2 HG1 HRES hr2
  go_wp2
  refine bodyPost_ret (results_ct rfl _ _ (w.heap.size + 1) 49 _ (0, 0) _ rfl (put2 HR2.out _ _) Tryz.underlying49 rfl (by kernel_rfl)) rfl ⟨A', c', rfl, ?_, ?_, ?_⟩
  · exact Kd.R_mono (Kd.R_lower (R_put2 HV.out hlt _ _) (by omega)) (fun k hk => Nat.le_trans (by omega) hk)
  · exact gb_put2 HG2.out (by omega) _ _
  · rw [← Nat.add_assoc]
    exact PL.put2 HP2.out (by omega) (by have := HP.out.bel.size; omega) _ _
set_option maxHeartbeats 1600000 in
set_option maxRecDepth 100000 in
theorem config_none1 {w0 w : World} {P : Nat} {A : Option Addr} {c : Nat} {bs : List Int} {p : Nat} {ea : Addr} (h : PL w0 w P A c bs p) (hE : HasE w0 ea) (hq : take4 (bs.drop p) = none) :
      Calls Tryz.prog 65 #[.agg #[.pointer (some ⟨P, 0, none⟩)]] w fun e w' =>
        e = .returned (.tuple #[.agg #[.int .i64 0, .slice none 0 0], .iface 345 (.pointer (some ea))]) ∧ w.grownBy w' (some P) := by
  have H1 := (h.alloc (.cells #[.pointer (some ⟨P, 0, none⟩)] 82)).alloc (.cells #[.int .i64 0, .slice none 0 0] 49)
  have hnum := num_none H1 hE hq
  have hP := h.lt
  clear hq h H1
  go_enter Tryz.func65, Tryz.ntmps65
  go_wp2_with fail
  refine hnum.mono ?_
  rintro e w1 ⟨rfl, hb1⟩
  clear hnum
  have hg1 := gb_below (P := P) hb1
  have hres : w1.heap[w.heap.size + 1]? = some (.cells #[.int .i64 0, .slice none 0 0] 49 (0, 0)) := gb_blk (by have := blk_new (w.alloc (.cells #[.pointer (some ⟨P, 0, none⟩)] 82)) (.cells #[.int .i64 0, .slice none 0 0] 49); simpa using this) hg1 (by omega)
  have hc0 := (blk_cell hres 0).trans rfl
  have hc1 := (blk_cell hres 1).trans rfl
  have hz0 := blk_frozen hres 0
  have hz1 := blk_frozen hres 1
  have hl2 := blk_lt hres
  have HR2 := Aside0.mk hres
  have HG2 := Aside0.mk (gb_trans (gb_trans (gb_alloc w _ P) (gb_alloc _ _ _)) hg1)
  clear hres hg1 hb1
  go_wp2
  refine bodyPost_ret (results_ct rfl _ _ (w.heap.size + 1) 49 _ (0, 0) _ rfl (put2 HR2.out _ _) Tryz.underlying49 rfl (by kernel_rfl)) rfl ⟨rfl, ?_⟩
  exact gb_put2 HG2.out (by omega) _ _
set_option maxHeartbeats 1600000 in
set_option maxRecDepth 100000 in
theorem config_none2 {w0 w : World} {P : Nat} {A : Option Addr} {c : Nat} {bs : List Int} {p : Nat} {ea : Addr} (h : PL w0 w P A c bs p) (hE : HasE w0 ea) {n : Int} {rs : List Int} (hq : take4 (bs.drop p) = some (n, rs)) (ht : dList cutV rs = none) :
      Calls Tryz.prog 65 #[.agg #[.pointer (some ⟨P, 0, none⟩)]] w fun e w' =>
        e = .returned (.tuple #[.agg #[.int .i64 n, .slice none 0 0], .iface 345 (.pointer (some ea))]) ∧ w.grownBy w' (some P) := by
  obtain ⟨h1, h2⟩ := take4_drop hq
  rw [h1, List.drop_drop] at ht
  have H1 := (h.alloc (.cells #[.pointer (some ⟨P, 0, none⟩)] 82)).alloc (.cells #[.int .i64 0, .slice none 0 0] 49)
  have hnum := num_some H1 hq
  have hP := h.lt
  have HT := Aside0.mk ht
  have hmf : ∀ (fn : Fn) (first cap : Array Value) (w : World), (Instr.makeFunc fn first cap).run Tryz.prog w = .ok (.func fn first cap) w := fun _ _ _ _ => rfl
  clear hq h h1 H1 ht h2
  go_enter Tryz.func65, Tryz.ntmps65
  go_wp2_with fail
  refine hnum.mono ?_
  rintro e w1 ⟨rfl, hg1, hp1⟩
  clear hnum
  have hlt : w.heap.size + 1 < w1.heap.size := by have := hg1.size; simp at this; omega
  have hbox : w1.heap[w.heap.size]? = some (.cells #[.pointer (some ⟨P, 0, none⟩)] 82 (0, 0)) := gb_blk (blk_box (blk_new w _)) hg1 (by omega)
  have hres : w1.heap[w.heap.size + 1]? = some (.cells #[.int .i64 0, .slice none 0 0] 49 (0, 0)) := gb_blk (by have := blk_new (w.alloc (.cells #[.pointer (some ⟨P, 0, none⟩)] 82)) (.cells #[.int .i64 0, .slice none 0 0] 49); simpa using this) hg1 (by omega)
  have hbx := (blk_cell hbox 0).trans rfl
  have hlist := list41_none hp1 hE HT.out
  have HG1 := Aside0.mk hg1
  have HRES := Aside0.mk hres
  clear hg1 hp1 hbox hres
  go_wp2_with fail
  refine hlist.mono ?_
  rintro e w2 ⟨rfl, hg2⟩
  clear hlist hbx hmf
  have hres := gb_blk HRES.out hg2 (by omega)
  have hc0 := (blk_cell hres 0).trans rfl
  have hc1 := (blk_cell hres 1).trans rfl
  have hz0 := blk_frozen hres 0
  have hz1 := blk_frozen hres 1
  have hl2 := blk_lt hres
  have HR2 := Aside0.mk hres
  have HG2 := Aside0.mk (gb_trans (gb_trans (gb_trans (gb_alloc w _ P) (gb_alloc _ _ _)) HG1.out) hg2)
  clear hres hg2 HG1 HRES
  go_wp2
  refine bodyPost_ret (results_ct rfl _ _ (w.heap.size + 1) 49 _ (0, 0) _ rfl (put2 HR2.out _ _) Tryz.underlying49 rfl (by kernel_rfl)) rfl ⟨rfl, ?_⟩
  exact gb_put2 HG2.out (by omega) _ _
theorem config_none {w0 w : World} {P : Nat} {A : Option Addr} {c : Nat} {bs : List Int} {p : Nat} {ea : Addr} (h : PL w0 w P A c bs p) (hE : HasE w0 ea) (hd : dConfig (bs.drop p) = none) :
      Calls Tryz.prog 65 #[.agg #[.pointer (some ⟨P, 0, none⟩)]] w fun e w' =>
        ∃ n : Int, e = .returned (.tuple #[.agg #[.int .i64 n, .slice none 0 0], .iface 345 (.pointer (some ea))]) ∧ w.grownBy w' (some P) := by
  unfold dConfig at hd
  cases hq : take4 (bs.drop p) with
  | none => exact (config_none1 h hE hq).mono fun e w' hh => ⟨0, hh⟩
  | some q =>
    rw [hq] at hd
    have ht : dList cutV q.2 = none := by simpa using hd
    exact (config_none2 h hE (n := q.1) (rs := q.2) hq ht).mono fun e w' hh => ⟨_, hh⟩
end Go.Proofs.YtpidhnnckolapaaGreatDoor.K
namespace Go.Proofs.YtpidhnnckolapaaGreatDoor.K
open Go.RowKit Go.Proofs.YtpidhnnckolapaaGreatDoorW.PrintWords Go.Proofs.YtpidhnnckolapaaGreatDoorW.PrintLast
set_option linter.unusedVariables false
set_option linter.unusedSimpArgs false
set_option maxHeartbeats 1600000 in
set_option maxRecDepth 100000 in
theorem snap1_some {w0 w : World} {P : Nat} {A : Option Addr} {c : Nat} {bs : List Int} {p B : Nat} (h : PL w0 w P A c bs p) (hBx : w.heap[B]? = some (.cells #[.pointer (some ⟨P, 0, none⟩)] 82 (0, 0))) {xs : List PA.S45} {k : Nat} (hd : dList cutV (bs.drop p) = some (xs, k)) :
      Calls Tryz.prog 40 #[.pointer (some ⟨B, 0, none⟩)] w fun e w' =>
        ∃ A' c', e = .returned (.tuple #[.slice A' xs.length c', .nilIface]) ∧ Kd.R PA.k45 45 w' w.heap.size (new w) (.slice A' xs.length c') xs ∧ w.grownBy w' (some P) ∧ PL w0 w' P A c bs (p + k) := by
  have hbx := (blk_cell hBx 0).trans rfl
  have hlist := list41_some h hd
  have hmf : ∀ (fn : Fn) (first cap : Array Value) (w : World), (Instr.makeFunc fn first cap).run Tryz.prog w = .ok (.func fn first cap) w := fun _ _ _ _ => rfl
  clear h hBx hd
  go_enter Tryz.func40, Tryz.ntmps40
  go_wp2_with fail
  refine hlist.mono ?_
  rintro e w2 ⟨A', c', rfl, hr2, hg2, hp2⟩
  clear hlist hbx hmf
  have HR := Aside0.mk hr2
  have HG := Aside0.mk hg2
  have HP := Aside0.mk hp2
  clear hr2 hg2 hp2
  go_wp2
  go_ret2
  exact ⟨A', c', rfl, HR.out, HG.out, HP.out⟩
set_option maxHeartbeats 1600000 in
set_option maxRecDepth 100000 in
theorem snap1_none {w0 w : World} {P : Nat} {A : Option Addr} {c : Nat} {bs : List Int} {p B : Nat} {ea : Addr} (h : PL w0 w P A c bs p) (hBx : w.heap[B]? = some (.cells #[.pointer (some ⟨P, 0, none⟩)] 82 (0, 0))) (hE : HasE w0 ea) (hd : dList cutV (bs.drop p) = none) :
      Calls Tryz.prog 40 #[.pointer (some ⟨B, 0, none⟩)] w fun e w' =>
        e = .returned (.tuple #[.slice none 0 0, .iface 345 (.pointer (some ea))]) ∧ w.grownBy w' (some P) := by
  have hbx := (blk_cell hBx 0).trans rfl
  have hlist := list41_none h hE hd
  have hmf : ∀ (fn : Fn) (first cap : Array Value) (w : World), (Instr.makeFunc fn first cap).run Tryz.prog w = .ok (.func fn first cap) w := fun _ _ _ _ => rfl
  clear h hBx hd
  go_enter Tryz.func40, Tryz.ntmps40
  go_wp2_with fail
  refine hlist.mono ?_
  rintro e w2 ⟨rfl, hg2⟩
  clear hlist hbx hmf
  have HG := Aside0.mk hg2
  clear hg2
  go_wp2
  go_ret2
  exact ⟨rfl, HG.out⟩
theorem info49 : (Tryz.prog.info? 49).map (fun i => (i.zero, i.size, i.bytes)) = some (some (.agg #[(.int .i64 0), (.slice none 0 0)]), 2, 32) := by kernel_rfl
set_option maxHeartbeats 1600000 in
set_option maxRecDepth 100000 in
theorem list64_some {w0 w : World} {P : Nat} {A : Option Addr} {c : Nat} {bs : List Int} {p : Nat} (h : PL w0 w P A c bs p) {xs : List PA.S49} {k : Nat} (hd : dList dConfig (bs.drop p) = some (xs, k)) :
      Calls Tryz.prog 64 #[.agg #[.pointer (some ⟨P, 0, none⟩)], .func (.func 65) #[.agg #[.pointer (some ⟨P, 0, none⟩)]] #[]] w fun e w' =>
        ∃ A' c', e = .returned (.tuple #[.slice A' xs.length c', .nilIface]) ∧ Kd.R PA.k49 49 w' w.heap.size (new w) (.slice A' xs.length c') xs ∧ w.grownBy w' (some P) ∧ PL w0 w' P A c bs (p + k) := by
  rw [dList_eq] at hd
  cases hq : take4 (bs.drop p) with
  | none => rw [hq] at hd; cases hd
  | some q =>
  rw [hq] at hd
  simp only at hd
  split at hd
  · cases hd
  rename_i hlen
  obtain ⟨t, ht, e⟩ := Option.map_eq_some_iff.1 hd
  simp only [Prod.mk.injEq] at e
  obtain ⟨rfl, rfl⟩ := e
  obtain ⟨n, rs⟩ := q
  simp only at hlen ht
  obtain ⟨h1, h2⟩ := take4_drop hq
  have hnr := take4_range (fun x hx => h.by8 x (List.mem_of_mem_drop hx)) hq
  obtain ⟨N, rfl⟩ := Int.eq_ofNat_of_zero_le hnr.1
  rw [Int.toNat_natCast] at ht
  have H1 := h.alloc (.cells #[.pointer (some ⟨P, 0, none⟩)] 82)
  have hnum := num_some H1 hq
  have hrs : rs = bs.drop (p + 4) := by rw [h1, List.drop_drop]
  have HN := Aside0.mk ht
  have HRS := Aside0.mk hrs
  have hN : N ≤ 2147483647 := by omega
  have hP := h.lt
  clear hd hq h h1 h2 hnr H1 hrs ht
  go_enter Tryz.func64, Tryz.ntmps64
  go_wp2_with fail
  refine hnum.mono ?_
  rintro e w1 ⟨rfl, hg1, hp1⟩
  clear hnum
  have hlt : w.heap.size < w1.heap.size := by have := hg1.size; simp at this; omega
  have hbox : w1.heap[w.heap.size]? = some (.cells #[.pointer (some ⟨P, 0, none⟩)] 82 (0, 0)) := gb_blk (blk_new w _) hg1 (by omega)
  have hbx := (blk_cell hbox 0).trans rfl
  obtain ⟨A', c', hl, hr, hcall⟩ := rest_calls hp1
  have hgt : decide ((bs.drop (p + 4)).length < N) = false := by rw [← HRS.out]; simp at hlen ⊢; omega
  generalize (bs.drop (p + 4)).length = m at *
  have HG1 := Aside0.mk hg1
  have HP1 := Aside0.mk hp1
  clear hg1 hp1 hbox hr hl hlen
  go_wp2_with fail
  refine hcall.mono ?_
  rintro e w2 ⟨rfl, ⟨m2, rfl⟩⟩
  clear hcall
  go_wp2_with fail
  go_loopw [8, 28] (fun v8 v28 wr => ∃ (i : Nat) (ys : List PA.S49) (k : Nat), i ≤ N ∧ v28 = .int .i64 (i : Int) ∧ Aside0 (RepInv dConfig rs N i ys k) ∧ Aside0 (ys.length = i) ∧ Aside0 (Kd.R PA.k49 49 wr w.heap.size (new w) v8 ys) ∧ Aside0 (w.grownBy wr (some P)) ∧ Aside0 (PL w0 wr P A c bs (p + 4 + k))) (fun _ v28 _ => N - (intOf v28).toNat)
  case atStart =>
    exact ⟨0, [], 0, Nat.zero_le _, rfl, ⟨RepInv.start _ _ _⟩, ⟨rfl⟩, ⟨Kd.R_nil _ _ _ _ _⟩, ⟨gb_trans (gb_trans (gb_alloc _ _ _) HG1.out) (gb_drewN _ _ _)⟩, ⟨HP1.out.drewN m2⟩⟩
  case round =>
    obtain ⟨i, ys, k, hi, rfl, HI, HYL, HO, HG, HPL⟩ := hrel
    by_cases hiN : i < N
    · obtain ⟨x, j, hx⟩ : ∃ x j, dConfig (rs.drop k) = some (x, j) := by
        cases hv : dConfig (rs.drop k) with
        | none => have := HI.out.none hiN hv; rw [HN.out] at this; cases this
        | some q => exact ⟨q.1, q.2, rfl⟩
      have HX := Aside0.mk hx
      have hx2 : dConfig (bs.drop (p + 4 + k)) = some (x, j) := by rw [← List.drop_drop, ← HRS.out]; exact hx
      have hfit := dConfig_fits _ _ _ hx2
      rw [List.length_drop] at hfit
      have hle := HPL.out.le
      have hval := config_some HPL.out hx2
      have hd1 : decide (i < N) = true := by simpa using hiN
      have hysz : ys.length ≤ 2147483647 := by rw [HYL.out]; omega
      
      have HGS := Aside0.mk HG.out.size
      have HO0 := HO
      clear hx hx2 hle hfit
      go_wp2_with fail
      refine hval.mono ?_
      rintro e w3 ⟨A3, c3, rfl, hr3, hg3, hp3⟩
      clear hval
      have HO3 := Aside0.mk (Kd.R_grown HO.out hg3 (fun q hq e => by injection e with e; subst e; exact absurd hq (by simp [new]; omega)))
      have HG3 := Aside0.mk (gb_trans HG.out hg3)
      have HP3 := Aside0.mk hp3
      have HR3 := Aside0.mk hr3
      clear hr3
      clear hg3 hp3 HO HG HPL
      have hbase : w.heap.size ≤ w3.heap.size := HG3.out.size
      go_wp2_with (first | ((with_reducible refine gate_builtin (b := .append) (xs := #[.tmp 38, .tmp 40]) rfl ?_); at_builtin; go_loud (refine Kd.R_append PA.k49 (w0 := w3.alloc (.cells #[.int .i64 x.f0, .slice A3 x.f1.length c3] 49)) w.heap.size rfl (.tmp 38) (.tmp 40) 41 49 (.agg #[(.int .i64 0), (.slice none 0 0)]) 32 rfl Tryz.underlying41 info49 rfl (by decide) (by omega) u8 ys x [.int .i64 x.f0, .slice A3 x.f1.length c3] (new w) (new wr) rfl ?hxx (PA.k49_mkM _ _ _ _ (Kd.R_alloc (Kd.R_lower HR3.out HGS.out) _)) (okp_new HO0.out HGS.out) (fun q hq => ?hfr) (Kd.R_alloc HO3.out _) (Below.refl _ _) ?hba ?hsz ?_); (case hxx => show Value.slice (some ⟨w3.heap.size + 1, 0, none⟩) 1 1 = _; simp); (case hfr => simp at hq; exact Nat.le_trans hbase (by omega)); (case hba => simp; omega); (case hsz => omega); intro v4 w4 ho hb hg hat; have HO4 := Aside0.mk ho; have HG4 := Aside0.mk (gb_own (gb_trans HG3.out (gb_alloc _ _ _)) hg (R_own_new HO3.out)); have HP4 := Aside0.mk ((HP3.out.alloc _).grown hg (fun q hq => Nat.lt_of_lt_of_le hP (R_own_new HO3.out q hq))); clear ho hb hg hat HO3 HG3 HP3))
      go_roundw
      case rel => exact ⟨i + 1, ys ++ [x], k + j, by omega, by go_num, ⟨HI.out.step hiN HX.out⟩, ⟨by rw [List.length_append, HYL.out]; rfl⟩, HO4, HG4, ⟨by rw [← Nat.add_assoc]; exact HP4.out⟩⟩
      case measure => simp [intOf]; omega
    · have hNi : i = N := by omega
      subst hNi
      have HE := Aside0.mk (HI.out.done)
      have hd1 : decide (i < i) = false := by simp
      clear hiN
      go_wp2
      go_ret2
      have e := HE.out
      rw [HN.out] at e
      obtain rfl := Option.some.inj e
      obtain ⟨A', c', hv⟩ := Kd.R_slice HO.out
      exact ⟨A', c', by rw [← hv]; rfl, by rw [← hv]; exact HO.out, HG.out, by have := HPL.out; rwa [show p + (k + 4) = p + 4 + k by omega]⟩
set_option maxHeartbeats 1600000 in
set_option maxRecDepth 100000 in
theorem list64_none1 {w0 w : World} {P : Nat} {A : Option Addr} {c : Nat} {bs : List Int} {p : Nat} {ea : Addr} (h : PL w0 w P A c bs p) (hE : HasE w0 ea) (hq : take4 (bs.drop p) = none) :
      Calls Tryz.prog 64 #[.agg #[.pointer (some ⟨P, 0, none⟩)], .func (.func 65) #[.agg #[.pointer (some ⟨P, 0, none⟩)]] #[]] w fun e w' =>
        e = .returned (.tuple #[.slice none 0 0, .iface 345 (.pointer (some ea))]) ∧ w.grownBy w' (some P) := by
  have H1 := h.alloc (.cells #[.pointer (some ⟨P, 0, none⟩)] 82)
  have hnum := num_none H1 hE hq
  have HP := Aside0.mk h
  clear hq h H1
  go_enter Tryz.func64, Tryz.ntmps64
  go_wp2_with fail
  refine hnum.mono ?_
  rintro e w1 ⟨rfl, hb1⟩
  clear hnum
  have he := hE.now (below_then (below_alloc (Below.refl _ _) _) (by simp) hb1 |> fun q => below_then HP.out.bel HP.out.bel.size q)
  have HG := Aside0.mk (gb_trans (gb_alloc w (.cells #[.pointer (some ⟨P, 0, none⟩)] 82) P) (gb_below hb1))
  clear hb1
  go_wp2_with fail
  go_quiet (fail)
  go_wp2
  go_ret2
  exact ⟨rfl, gb_trans HG.out (gb_drewN _ _ _)⟩
set_option maxHeartbeats 1600000 in
set_option maxRecDepth 100000 in
theorem list64_none2 {w0 w : World} {P : Nat} {A : Option Addr} {c : Nat} {bs : List Int} {p : Nat} {ea : Addr} (h : PL w0 w P A c bs p) (hE : HasE w0 ea) {n : Int} {rs : List Int} (hq : take4 (bs.drop p) = some (n, rs)) (hlen : (rs.length : Int) < n) :
      Calls Tryz.prog 64 #[.agg #[.pointer (some ⟨P, 0, none⟩)], .func (.func 65) #[.agg #[.pointer (some ⟨P, 0, none⟩)]] #[]] w fun e w' =>
        e = .returned (.tuple #[.slice none 0 0, .iface 345 (.pointer (some ea))]) ∧ w.grownBy w' (some P) := by
  obtain ⟨h1, h2⟩ := take4_drop hq
  have hnr := take4_range (fun x hx => h.by8 x (List.mem_of_mem_drop hx)) hq
  obtain ⟨N, rfl⟩ := Int.eq_ofNat_of_zero_le hnr.1
  have H1 := h.alloc (.cells #[.pointer (some ⟨P, 0, none⟩)] 82)
  have hnum := num_some H1 hq
  have hrs : rs = bs.drop (p + 4) := by rw [h1, List.drop_drop]
  have HRS := Aside0.mk hrs
  have hP := h.lt
  clear hq h h1 h2 hnr H1 hrs
  go_enter Tryz.func64, Tryz.ntmps64
  go_wp2_with fail
  refine hnum.mono ?_
  rintro e w1 ⟨rfl, hg1, hp1⟩
  clear hnum
  have hlt : w.heap.size < w1.heap.size := by have := hg1.size; simp at this; omega
  have hbox : w1.heap[w.heap.size]? = some (.cells #[.pointer (some ⟨P, 0, none⟩)] 82 (0, 0)) := gb_blk (blk_new w _) hg1 (by omega)
  have hbx := (blk_cell hbox 0).trans rfl
  obtain ⟨A', c', hl, hr, hcall⟩ := rest_calls hp1
  have hgt : decide ((bs.drop (p + 4)).length < N) = true := by rw [← HRS.out]; simp at hlen ⊢; omega
  generalize (bs.drop (p + 4)).length = m at *
  have HG1 := Aside0.mk hg1
  have HP1 := Aside0.mk hp1
  clear hg1 hp1 hbox hr hl hlen
  go_wp2_with fail
  refine hcall.mono ?_
  rintro e w2 ⟨rfl, ⟨m2, rfl⟩⟩
  clear hcall
  have he : w1.cell? ⟨0, 0, none⟩ = some (.iface 345 (.pointer (some ea))) := hE.now HP1.out.bel
  go_wp2_with fail
  go_quiet (fail)
  go_wp2
  go_ret2
  exact ⟨rfl, gb_trans (gb_trans (gb_trans (gb_alloc _ _ _) HG1.out) (gb_drewN _ _ _)) (gb_drewN _ _ _)⟩
set_option maxHeartbeats 1600000 in
set_option maxRecDepth 100000 in
theorem list64_none3 {w0 w : World} {P : Nat} {A : Option Addr} {c : Nat} {bs : List Int} {p : Nat} {ea : Addr} (h : PL w0 w P A c bs p) (hE : HasE w0 ea) {n : Int} {rs : List Int} (hq : take4 (bs.drop p) = some (n, rs)) (hlen : ¬ (rs.length : Int) < n) (ht : dRep dConfig n.toNat rs = none) :
      Calls Tryz.prog 64 #[.agg #[.pointer (some ⟨P, 0, none⟩)], .func (.func 65) #[.agg #[.pointer (some ⟨P, 0, none⟩)]] #[]] w fun e w' =>
        e = .returned (.tuple #[.slice none 0 0, .iface 345 (.pointer (some ea))]) ∧ w.grownBy w' (some P) := by
  obtain ⟨h1, h2⟩ := take4_drop hq
  have hnr := take4_range (fun x hx => h.by8 x (List.mem_of_mem_drop hx)) hq
  obtain ⟨N, rfl⟩ := Int.eq_ofNat_of_zero_le hnr.1
  rw [Int.toNat_natCast] at ht
  have H1 := h.alloc (.cells #[.pointer (some ⟨P, 0, none⟩)] 82)
  have hnum := num_some H1 hq
  have hrs : rs = bs.drop (p + 4) := by rw [h1, List.drop_drop]
  have HN := Aside0.mk ht
  have HRS := Aside0.mk hrs
  have hN : N ≤ 2147483647 := by omega
  have hP := h.lt
  clear hq h h1 h2 hnr H1 hrs ht
  go_enter Tryz.func64, Tryz.ntmps64
  go_wp2_with fail
  refine hnum.mono ?_
  rintro e w1 ⟨rfl, hg1, hp1⟩
  clear hnum
  have hlt : w.heap.size < w1.heap.size := by have := hg1.size; simp at this; omega
  have hbox : w1.heap[w.heap.size]? = some (.cells #[.pointer (some ⟨P, 0, none⟩)] 82 (0, 0)) := gb_blk (blk_new w _) hg1 (by omega)
  have hbx := (blk_cell hbox 0).trans rfl
  obtain ⟨A', c', hl, hr, hcall⟩ := rest_calls hp1
  have hgt : decide ((bs.drop (p + 4)).length < N) = false := by rw [← HRS.out]; simp at hlen ⊢; omega
  generalize (bs.drop (p + 4)).length = m at *
  have HG1 := Aside0.mk hg1
  have HP1 := Aside0.mk hp1
  clear hg1 hp1 hbox hr hl hlen
  go_wp2_with fail
  refine hcall.mono ?_
  rintro e w2 ⟨rfl, ⟨m2, rfl⟩⟩
  clear hcall
  go_wp2_with fail
  go_loopw [8, 28] (fun v8 v28 wr => ∃ (i : Nat) (ys : List PA.S49) (k : Nat), i ≤ N ∧ v28 = .int .i64 (i : Int) ∧ Aside0 (RepInv dConfig rs N i ys k) ∧ Aside0 (ys.length = i) ∧ Aside0 (Kd.R PA.k49 49 wr w.heap.size (new w) v8 ys) ∧ Aside0 (w.grownBy wr (some P)) ∧ Aside0 (PL w0 wr P A c bs (p + 4 + k))) (fun _ v28 _ => N - (intOf v28).toNat)
  case atStart =>
    exact ⟨0, [], 0, Nat.zero_le _, rfl, ⟨RepInv.start _ _ _⟩, ⟨rfl⟩, ⟨Kd.R_nil _ _ _ _ _⟩, ⟨gb_trans (gb_trans (gb_alloc _ _ _) HG1.out) (gb_drewN _ _ _)⟩, ⟨HP1.out.drewN m2⟩⟩
  case round =>
    obtain ⟨i, ys, k, hi, rfl, HI, HYL, HO, HG, HPL⟩ := hrel
    by_cases hiN : i < N
    · cases hx : dConfig (rs.drop k) with
      | some q =>
      obtain ⟨x, j⟩ := q
      have HX := Aside0.mk hx
      have hx2 : dConfig (bs.drop (p + 4 + k)) = some (x, j) := by rw [← List.drop_drop, ← HRS.out]; exact hx
      have hfit := dConfig_fits _ _ _ hx2
      rw [List.length_drop] at hfit
      have hle := HPL.out.le
      have hval := config_some HPL.out hx2
      have hd1 : decide (i < N) = true := by simpa using hiN
      have hysz : ys.length ≤ 2147483647 := by rw [HYL.out]; omega
      
      have HGS := Aside0.mk HG.out.size
      have HO0 := HO
      clear hx hx2 hle hfit
      go_wp2_with fail
      refine hval.mono ?_
      rintro e w3 ⟨A3, c3, rfl, hr3, hg3, hp3⟩
      clear hval
      have HO3 := Aside0.mk (Kd.R_grown HO.out hg3 (fun q hq e => by injection e with e; subst e; exact absurd hq (by simp [new]; omega)))
      have HG3 := Aside0.mk (gb_trans HG.out hg3)
      have HP3 := Aside0.mk hp3
      have HR3 := Aside0.mk hr3
      clear hr3
      clear hg3 hp3 HO HG HPL
      have hbase : w.heap.size ≤ w3.heap.size := HG3.out.size
      go_wp2_with (first | ((with_reducible refine gate_builtin (b := .append) (xs := #[.tmp 38, .tmp 40]) rfl ?_); at_builtin; go_loud (refine Kd.R_append PA.k49 (w0 := w3.alloc (.cells #[.int .i64 x.f0, .slice A3 x.f1.length c3] 49)) w.heap.size rfl (.tmp 38) (.tmp 40) 41 49 (.agg #[(.int .i64 0), (.slice none 0 0)]) 32 rfl Tryz.underlying41 info49 rfl (by decide) (by omega) u8 ys x [.int .i64 x.f0, .slice A3 x.f1.length c3] (new w) (new wr) rfl ?hxx (PA.k49_mkM _ _ _ _ (Kd.R_alloc (Kd.R_lower HR3.out HGS.out) _)) (okp_new HO0.out HGS.out) (fun q hq => ?hfr) (Kd.R_alloc HO3.out _) (Below.refl _ _) ?hba ?hsz ?_); (case hxx => show Value.slice (some ⟨w3.heap.size + 1, 0, none⟩) 1 1 = _; simp); (case hfr => simp at hq; exact Nat.le_trans hbase (by omega)); (case hba => simp; omega); (case hsz => omega); intro v4 w4 ho hb hg hat; have HO4 := Aside0.mk ho; have HG4 := Aside0.mk (gb_own (gb_trans HG3.out (gb_alloc _ _ _)) hg (R_own_new HO3.out)); have HP4 := Aside0.mk ((HP3.out.alloc _).grown hg (fun q hq => Nat.lt_of_lt_of_le hP (R_own_new HO3.out q hq))); clear ho hb hg hat HO3 HG3 HP3))
      go_roundw
      case rel => exact ⟨i + 1, ys ++ [x], k + j, by omega, by go_num, ⟨HI.out.step hiN HX.out⟩, ⟨by rw [List.length_append, HYL.out]; rfl⟩, HO4, HG4, ⟨by rw [← Nat.add_assoc]; exact HP4.out⟩⟩
      case measure => simp [intOf]; omega
      | none =>
      have hx2 : dConfig (bs.drop (p + 4 + k)) = none := by rw [← List.drop_drop, ← HRS.out]; exact hx
      have hval := config_none HPL.out hE hx2
      have hd1 : decide (i < N) = true := by simpa using hiN
      
      clear hx hx2
      go_wp2_with fail
      refine hval.mono ?_
      rintro e w3 ⟨nn, rfl, hg3⟩
      clear hval
      
      have HG3 := Aside0.mk (gb_trans HG.out hg3)
      clear hg3 HO HG HPL
      go_wp2
      go_ret2
      exact ⟨rfl, gb_trans HG3.out (gb_alloc _ _ _)⟩
    · have hNi : i = N := by omega
      subst hNi
      have e := HI.out.done
      rw [HN.out] at e
      cases e
theorem list64_none {w0 w : World} {P : Nat} {A : Option Addr} {c : Nat} {bs : List Int} {p : Nat} {ea : Addr} (h : PL w0 w P A c bs p) (hE : HasE w0 ea) (hd : dList dConfig (bs.drop p) = none) :
      Calls Tryz.prog 64 #[.agg #[.pointer (some ⟨P, 0, none⟩)], .func (.func 65) #[.agg #[.pointer (some ⟨P, 0, none⟩)]] #[]] w fun e w' =>
        e = .returned (.tuple #[.slice none 0 0, .iface 345 (.pointer (some ea))]) ∧ w.grownBy w' (some P) := by
  rw [dList_eq] at hd
  cases hq : take4 (bs.drop p) with
  | none => exact list64_none1 h hE hq
  | some q =>
    rw [hq] at hd
    simp only at hd
    split at hd
    · rename_i hl; exact list64_none2 h hE (n := q.1) (rs := q.2) hq hl
    · rename_i hl; exact list64_none3 h hE (n := q.1) (rs := q.2) hq hl (by simpa using hd)
theorem info38 : (Tryz.prog.info? 38).map (fun i => (i.zero, i.size, i.bytes)) = some (some (.slice none 0 0), 1, 24) := by kernel_rfl
set_option maxHeartbeats 1600000 in
set_option maxRecDepth 100000 in
theorem list39_some {w0 w : World} {P : Nat} {A : Option Addr} {c : Nat} {bs : List Int} {p : Nat} (h : PL w0 w P A c bs p) {B : Nat} (hBx : w.heap[B]? = some (.cells #[.pointer (some ⟨P, 0, none⟩)] 82 (0, 0))) (hBP : B ≠ P) {xs : List (List PA.S45)} {k : Nat} (hd : dList (dList cutV) (bs.drop p) = some (xs, k)) :
      Calls Tryz.prog 39 #[.agg #[.pointer (some ⟨P, 0, none⟩)], .func (.func 40) #[] #[.pointer (some ⟨B, 0, none⟩)]] w fun e w' =>
        ∃ A' c', e = .returned (.tuple #[.slice A' xs.length c', .nilIface]) ∧ Kd.R (Kd.slice 45 PA.k45) 38 w' w.heap.size (new w) (.slice A' xs.length c') xs ∧ w.grownBy w' (some P) ∧ PL w0 w' P A c bs (p + k) := by
  rw [dList_eq] at hd
  cases hq : take4 (bs.drop p) with
  | none => rw [hq] at hd; cases hd
  | some q =>
  rw [hq] at hd
  simp only at hd
  split at hd
  · cases hd
  rename_i hlen
  obtain ⟨t, ht, e⟩ := Option.map_eq_some_iff.1 hd
  simp only [Prod.mk.injEq] at e
  obtain ⟨rfl, rfl⟩ := e
  obtain ⟨n, rs⟩ := q
  simp only at hlen ht
  obtain ⟨h1, h2⟩ := take4_drop hq
  have hnr := take4_range (fun x hx => h.by8 x (List.mem_of_mem_drop hx)) hq
  obtain ⟨N, rfl⟩ := Int.eq_ofNat_of_zero_le hnr.1
  rw [Int.toNat_natCast] at ht
  have H1 := h.alloc (.cells #[.pointer (some ⟨P, 0, none⟩)] 82)
  have hnum := num_some H1 hq
  have hrs : rs = bs.drop (p + 4) := by rw [h1, List.drop_drop]
  have HN := Aside0.mk ht
  have HRS := Aside0.mk hrs
  have hN : N ≤ 2147483647 := by omega
  have hP := h.lt
  clear hd hq h h1 h2 hnr H1 hrs ht
  go_enter Tryz.func39, Tryz.ntmps39
  go_wp2_with fail
  refine hnum.mono ?_
  rintro e w1 ⟨rfl, hg1, hp1⟩
  clear hnum
  have hlt : w.heap.size < w1.heap.size := by have := hg1.size; simp at this; omega
  have hbox : w1.heap[w.heap.size]? = some (.cells #[.pointer (some ⟨P, 0, none⟩)] 82 (0, 0)) := gb_blk (blk_new w _) hg1 (by omega)
  have hbx := (blk_cell hbox 0).trans rfl
  obtain ⟨A', c', hl, hr, hcall⟩ := rest_calls hp1
  have hgt : decide ((bs.drop (p + 4)).length < N) = false := by rw [← HRS.out]; simp at hlen ⊢; omega
  generalize (bs.drop (p + 4)).length = m at *
  have HG1 := Aside0.mk hg1
  have HP1 := Aside0.mk hp1
  clear hg1 hp1 hbox hr hl hlen
  go_wp2_with fail
  refine hcall.mono ?_
  rintro e w2 ⟨rfl, ⟨m2, rfl⟩⟩
  clear hcall
  go_wp2_with fail
  go_loopw [8, 28] (fun v8 v28 wr => ∃ (i : Nat) (ys : List (List PA.S45)) (k : Nat), i ≤ N ∧ v28 = .int .i64 (i : Int) ∧ Aside0 (RepInv (dList cutV) rs N i ys k) ∧ Aside0 (ys.length = i) ∧ Aside0 (Kd.R (Kd.slice 45 PA.k45) 38 wr w.heap.size (new w) v8 ys) ∧ Aside0 (w.grownBy wr (some P)) ∧ Aside0 (PL w0 wr P A c bs (p + 4 + k))) (fun _ v28 _ => N - (intOf v28).toNat)
  case atStart =>
    exact ⟨0, [], 0, Nat.zero_le _, rfl, ⟨RepInv.start _ _ _⟩, ⟨rfl⟩, ⟨Kd.R_nil _ _ _ _ _⟩, ⟨gb_trans (gb_trans (gb_alloc _ _ _) HG1.out) (gb_drewN _ _ _)⟩, ⟨HP1.out.drewN m2⟩⟩
  case round =>
    obtain ⟨i, ys, k, hi, rfl, HI, HYL, HO, HG, HPL⟩ := hrel
    by_cases hiN : i < N
    · obtain ⟨x, j, hx⟩ : ∃ x j, (dList cutV) (rs.drop k) = some (x, j) := by
        cases hv : (dList cutV) (rs.drop k) with
        | none => have := HI.out.none hiN hv; rw [HN.out] at this; cases this
        | some q => exact ⟨q.1, q.2, rfl⟩
      have HX := Aside0.mk hx
      have hx2 : (dList cutV) (bs.drop (p + 4 + k)) = some (x, j) := by rw [← List.drop_drop, ← HRS.out]; exact hx
      have hfit := (dList_fits cutV_fits) _ _ _ hx2
      rw [List.length_drop] at hfit
      have hle := HPL.out.le
      have hval := snap1_some HPL.out (gb_blk hBx HG.out hBP) hx2
      have hd1 : decide (i < N) = true := by simpa using hiN
      have hysz : ys.length ≤ 2147483647 := by rw [HYL.out]; omega
      
      have HGS := Aside0.mk HG.out.size
      have HO0 := HO
      clear hx hx2 hle hfit
      go_wp2_with fail
      refine hval.mono ?_
      rintro e w3 ⟨A3, c3, rfl, hr3, hg3, hp3⟩
      clear hval
      have HO3 := Aside0.mk (Kd.R_grown HO.out hg3 (fun q hq e => by injection e with e; subst e; exact absurd hq (by simp [new]; omega)))
      have HG3 := Aside0.mk (gb_trans HG.out hg3)
      have HP3 := Aside0.mk hp3
      have HR3 := Aside0.mk hr3
      clear hr3
      clear hg3 hp3 HO HG HPL
      have hbase : w.heap.size ≤ w3.heap.size := HG3.out.size
      go_wp2_with (first | ((with_reducible refine gate_builtin (b := .append) (xs := #[.tmp 38, .tmp 40]) rfl ?_); at_builtin; go_loud (refine Kd.R_append (Kd.slice 45 PA.k45) (w0 := w3) w.heap.size rfl (.tmp 38) (.tmp 40) 23 38 (.slice none 0 0) 24 rfl Tryz.underlying23 info38 rfl (by decide) (by omega) u8 ys x [.slice A3 x.length c3] (new w) (new wr) rfl ?hxx (⟨_, rfl, Kd.R_lower HR3.out HGS.out⟩) (okp_new HO0.out HGS.out) (fun q hq => ?hfr) (HO3.out) (Below.refl _ _) ?hba ?hsz ?_); (case hxx => show Value.slice (some ⟨w3.heap.size, 0, none⟩) 1 1 = _; rfl); (case hfr => exact Nat.le_trans hbase hq); (case hba => exact hbase); (case hsz => omega); intro v4 w4 ho hb hg hat; have HO4 := Aside0.mk ho; have HG4 := Aside0.mk (gb_own (HG3.out) hg (R_own_new HO3.out)); have HP4 := Aside0.mk ((HP3.out).grown hg (fun q hq => Nat.lt_of_lt_of_le hP (R_own_new HO3.out q hq))); clear ho hb hg hat HO3 HG3 HP3))
      go_roundw
      case rel => exact ⟨i + 1, ys ++ [x], k + j, by omega, by go_num, ⟨HI.out.step hiN HX.out⟩, ⟨by rw [List.length_append, HYL.out]; rfl⟩, HO4, HG4, ⟨by rw [← Nat.add_assoc]; exact HP4.out⟩⟩
      case measure => simp [intOf]; omega
    · have hNi : i = N := by omega
      subst hNi
      have HE := Aside0.mk (HI.out.done)
      have hd1 : decide (i < i) = false := by simp
      clear hiN
      go_wp2
      go_ret2
      have e := HE.out
      rw [HN.out] at e
      obtain rfl := Option.some.inj e
      obtain ⟨A', c', hv⟩ := Kd.R_slice HO.out
      exact ⟨A', c', by rw [← hv]; rfl, by rw [← hv]; exact HO.out, HG.out, by have := HPL.out; rwa [show p + (k + 4) = p + 4 + k by omega]⟩
set_option maxHeartbeats 1600000 in
set_option maxRecDepth 100000 in
theorem list39_none1 {w0 w : World} {P : Nat} {A : Option Addr} {c : Nat} {bs : List Int} {p : Nat} {ea : Addr} (h : PL w0 w P A c bs p) {B : Nat} (hBx : w.heap[B]? = some (.cells #[.pointer (some ⟨P, 0, none⟩)] 82 (0, 0))) (hBP : B ≠ P) (hE : HasE w0 ea) (hq : take4 (bs.drop p) = none) :
      Calls Tryz.prog 39 #[.agg #[.pointer (some ⟨P, 0, none⟩)], .func (.func 40) #[] #[.pointer (some ⟨B, 0, none⟩)]] w fun e w' =>
        e = .returned (.tuple #[.slice none 0 0, .iface 345 (.pointer (some ea))]) ∧ w.grownBy w' (some P) := by
  have H1 := h.alloc (.cells #[.pointer (some ⟨P, 0, none⟩)] 82)
  have hnum := num_none H1 hE hq
  have HP := Aside0.mk h
  clear hq h H1
  go_enter Tryz.func39, Tryz.ntmps39
  go_wp2_with fail
  refine hnum.mono ?_
  rintro e w1 ⟨rfl, hb1⟩
  clear hnum
  have he := hE.now (below_then (below_alloc (Below.refl _ _) _) (by simp) hb1 |> fun q => below_then HP.out.bel HP.out.bel.size q)
  have HG := Aside0.mk (gb_trans (gb_alloc w (.cells #[.pointer (some ⟨P, 0, none⟩)] 82) P) (gb_below hb1))
  clear hb1
  go_wp2_with fail
  go_quiet (fail)
  go_wp2
  go_ret2
  exact ⟨rfl, gb_trans HG.out (gb_drewN _ _ _)⟩
set_option maxHeartbeats 1600000 in
set_option maxRecDepth 100000 in
theorem list39_none2 {w0 w : World} {P : Nat} {A : Option Addr} {c : Nat} {bs : List Int} {p : Nat} {ea : Addr} (h : PL w0 w P A c bs p) {B : Nat} (hBx : w.heap[B]? = some (.cells #[.pointer (some ⟨P, 0, none⟩)] 82 (0, 0))) (hBP : B ≠ P) (hE : HasE w0 ea) {n : Int} {rs : List Int} (hq : take4 (bs.drop p) = some (n, rs)) (hlen : (rs.length : Int) < n) :
      Calls Tryz.prog 39 #[.agg #[.pointer (some ⟨P, 0, none⟩)], .func (.func 40) #[] #[.pointer (some ⟨B, 0, none⟩)]] w fun e w' =>
        e = .returned (.tuple #[.slice none 0 0, .iface 345 (.pointer (some ea))]) ∧ w.grownBy w' (some P) := by
  obtain ⟨h1, h2⟩ := take4_drop hq
  have hnr := take4_range (fun x hx => h.by8 x (List.mem_of_mem_drop hx)) hq
  obtain ⟨N, rfl⟩ := Int.eq_ofNat_of_zero_le hnr.1
  have H1 := h.alloc (.cells #[.pointer (some ⟨P, 0, none⟩)] 82)
  have hnum := num_some H1 hq
  have hrs : rs = bs.drop (p + 4) := by rw [h1, List.drop_drop]
  have HRS := Aside0.mk hrs
  have hP := h.lt
  clear hq h h1 h2 hnr H1 hrs
  go_enter Tryz.func39, Tryz.ntmps39
  go_wp2_with fail
  refine hnum.mono ?_
  rintro e w1 ⟨rfl, hg1, hp1⟩
  clear hnum
  have hlt : w.heap.size < w1.heap.size := by have := hg1.size; simp at this; omega
  have hbox : w1.heap[w.heap.size]? = some (.cells #[.pointer (some ⟨P, 0, none⟩)] 82 (0, 0)) := gb_blk (blk_new w _) hg1 (by omega)
  have hbx := (blk_cell hbox 0).trans rfl
  obtain ⟨A', c', hl, hr, hcall⟩ := rest_calls hp1
  have hgt : decide ((bs.drop (p + 4)).length < N) = true := by rw [← HRS.out]; simp at hlen ⊢; omega
  generalize (bs.drop (p + 4)).length = m at *
  have HG1 := Aside0.mk hg1
  have HP1 := Aside0.mk hp1
  clear hg1 hp1 hbox hr hl hlen
  go_wp2_with fail
  refine hcall.mono ?_
  rintro e w2 ⟨rfl, ⟨m2, rfl⟩⟩
  clear hcall
  have he : w1.cell? ⟨0, 0, none⟩ = some (.iface 345 (.pointer (some ea))) := hE.now HP1.out.bel
  go_wp2_with fail
  go_quiet (fail)
  go_wp2
  go_ret2
  exact ⟨rfl, gb_trans (gb_trans (gb_trans (gb_alloc _ _ _) HG1.out) (gb_drewN _ _ _)) (gb_drewN _ _ _)⟩
set_option maxHeartbeats 1600000 in
set_option maxRecDepth 100000 in
theorem list39_none3 {w0 w : World} {P : Nat} {A : Option Addr} {c : Nat} {bs : List Int} {p : Nat} {ea : Addr} (h : PL w0 w P A c bs p) {B : Nat} (hBx : w.heap[B]? = some (.cells #[.pointer (some ⟨P, 0, none⟩)] 82 (0, 0))) (hBP : B ≠ P) (hE : HasE w0 ea) {n : Int} {rs : List Int} (hq : take4 (bs.drop p) = some (n, rs)) (hlen : ¬ (rs.length : Int) < n) (ht : dRep (dList cutV) n.toNat rs = none) :
      Calls Tryz.prog 39 #[.agg #[.pointer (some ⟨P, 0, none⟩)], .func (.func 40) #[] #[.pointer (some ⟨B, 0, none⟩)]] w fun e w' =>
        e = .returned (.tuple #[.slice none 0 0, .iface 345 (.pointer (some ea))]) ∧ w.grownBy w' (some P) := by
  obtain ⟨h1, h2⟩ := take4_drop hq
  have hnr := take4_range (fun x hx => h.by8 x (List.mem_of_mem_drop hx)) hq
  obtain ⟨N, rfl⟩ := Int.eq_ofNat_of_zero_le hnr.1
  rw [Int.toNat_natCast] at ht
  have H1 := h.alloc (.cells #[.pointer (some ⟨P, 0, none⟩)] 82)
  have hnum := num_some H1 hq
  have hrs : rs = bs.drop (p + 4) := by rw [h1, List.drop_drop]
  have HN := Aside0.mk ht
  have HRS := Aside0.mk hrs
  have hN : N ≤ 2147483647 := by omega
  have hP := h.lt
  clear hq h h1 h2 hnr H1 hrs ht
  go_enter Tryz.func39, Tryz.ntmps39
  go_wp2_with fail
  refine hnum.mono ?_
  rintro e w1 ⟨rfl, hg1, hp1⟩
  clear hnum
  have hlt : w.heap.size < w1.heap.size := by have := hg1.size; simp at this; omega
  have hbox : w1.heap[w.heap.size]? = some (.cells #[.pointer (some ⟨P, 0, none⟩)] 82 (0, 0)) := gb_blk (blk_new w _) hg1 (by omega)
  have hbx := (blk_cell hbox 0).trans rfl
  obtain ⟨A', c', hl, hr, hcall⟩ := rest_calls hp1
  have hgt : decide ((bs.drop (p + 4)).length < N) = false := by rw [← HRS.out]; simp at hlen ⊢; omega
  generalize (bs.drop (p + 4)).length = m at *
  have HG1 := Aside0.mk hg1
  have HP1 := Aside0.mk hp1
  clear hg1 hp1 hbox hr hl hlen
  go_wp2_with fail
  refine hcall.mono ?_
  rintro e w2 ⟨rfl, ⟨m2, rfl⟩⟩
  clear hcall
  go_wp2_with fail
  go_loopw [8, 28] (fun v8 v28 wr => ∃ (i : Nat) (ys : List (List PA.S45)) (k : Nat), i ≤ N ∧ v28 = .int .i64 (i : Int) ∧ Aside0 (RepInv (dList cutV) rs N i ys k) ∧ Aside0 (ys.length = i) ∧ Aside0 (Kd.R (Kd.slice 45 PA.k45) 38 wr w.heap.size (new w) v8 ys) ∧ Aside0 (w.grownBy wr (some P)) ∧ Aside0 (PL w0 wr P A c bs (p + 4 + k))) (fun _ v28 _ => N - (intOf v28).toNat)
  case atStart =>
    exact ⟨0, [], 0, Nat.zero_le _, rfl, ⟨RepInv.start _ _ _⟩, ⟨rfl⟩, ⟨Kd.R_nil _ _ _ _ _⟩, ⟨gb_trans (gb_trans (gb_alloc _ _ _) HG1.out) (gb_drewN _ _ _)⟩, ⟨HP1.out.drewN m2⟩⟩
  case round =>
    obtain ⟨i, ys, k, hi, rfl, HI, HYL, HO, HG, HPL⟩ := hrel
    by_cases hiN : i < N
    · cases hx : (dList cutV) (rs.drop k) with
      | some q =>
      obtain ⟨x, j⟩ := q
      have HX := Aside0.mk hx
      have hx2 : (dList cutV) (bs.drop (p + 4 + k)) = some (x, j) := by rw [← List.drop_drop, ← HRS.out]; exact hx
      have hfit := (dList_fits cutV_fits) _ _ _ hx2
      rw [List.length_drop] at hfit
      have hle := HPL.out.le
      have hval := snap1_some HPL.out (gb_blk hBx HG.out hBP) hx2
      have hd1 : decide (i < N) = true := by simpa using hiN
      have hysz : ys.length ≤ 2147483647 := by rw [HYL.out]; omega
      
      have HGS := Aside0.mk HG.out.size
      have HO0 := HO
      clear hx hx2 hle hfit
      go_wp2_with fail
      refine hval.mono ?_
      rintro e w3 ⟨A3, c3, rfl, hr3, hg3, hp3⟩
      clear hval
      have HO3 := Aside0.mk (Kd.R_grown HO.out hg3 (fun q hq e => by injection e with e; subst e; exact absurd hq (by simp [new]; omega)))
      have HG3 := Aside0.mk (gb_trans HG.out hg3)
      have HP3 := Aside0.mk hp3
      have HR3 := Aside0.mk hr3
      clear hr3
      clear hg3 hp3 HO HG HPL
      have hbase : w.heap.size ≤ w3.heap.size := HG3.out.size
      go_wp2_with (first | ((with_reducible refine gate_builtin (b := .append) (xs := #[.tmp 38, .tmp 40]) rfl ?_); at_builtin; go_loud (refine Kd.R_append (Kd.slice 45 PA.k45) (w0 := w3) w.heap.size rfl (.tmp 38) (.tmp 40) 23 38 (.slice none 0 0) 24 rfl Tryz.underlying23 info38 rfl (by decide) (by omega) u8 ys x [.slice A3 x.length c3] (new w) (new wr) rfl ?hxx (⟨_, rfl, Kd.R_lower HR3.out HGS.out⟩) (okp_new HO0.out HGS.out) (fun q hq => ?hfr) (HO3.out) (Below.refl _ _) ?hba ?hsz ?_); (case hxx => show Value.slice (some ⟨w3.heap.size, 0, none⟩) 1 1 = _; rfl); (case hfr => exact Nat.le_trans hbase hq); (case hba => exact hbase); (case hsz => omega); intro v4 w4 ho hb hg hat; have HO4 := Aside0.mk ho; have HG4 := Aside0.mk (gb_own (HG3.out) hg (R_own_new HO3.out)); have HP4 := Aside0.mk ((HP3.out).grown hg (fun q hq => Nat.lt_of_lt_of_le hP (R_own_new HO3.out q hq))); clear ho hb hg hat HO3 HG3 HP3))
      go_roundw
      case rel => exact ⟨i + 1, ys ++ [x], k + j, by omega, by go_num, ⟨HI.out.step hiN HX.out⟩, ⟨by rw [List.length_append, HYL.out]; rfl⟩, HO4, HG4, ⟨by rw [← Nat.add_assoc]; exact HP4.out⟩⟩
      case measure => simp [intOf]; omega
      | none =>
      have hx2 : (dList cutV) (bs.drop (p + 4 + k)) = none := by rw [← List.drop_drop, ← HRS.out]; exact hx
      have hval := snap1_none HPL.out (gb_blk hBx HG.out hBP) hE hx2
      have hd1 : decide (i < N) = true := by simpa using hiN
      
      clear hx hx2
      go_wp2_with fail
      refine hval.mono ?_
      rintro e w3 ⟨rfl, hg3⟩
      clear hval
      
      have HG3 := Aside0.mk (gb_trans HG.out hg3)
      clear hg3 HO HG HPL
      go_wp2
      go_ret2
      exact ⟨rfl, HG3.out⟩
    · have hNi : i = N := by omega
      subst hNi
      have e := HI.out.done
      rw [HN.out] at e
      cases e
theorem list39_none {w0 w : World} {P : Nat} {A : Option Addr} {c : Nat} {bs : List Int} {p : Nat} {ea : Addr} (h : PL w0 w P A c bs p) {B : Nat} (hBx : w.heap[B]? = some (.cells #[.pointer (some ⟨P, 0, none⟩)] 82 (0, 0))) (hBP : B ≠ P) (hE : HasE w0 ea) (hd : dList (dList cutV) (bs.drop p) = none) :
      Calls Tryz.prog 39 #[.agg #[.pointer (some ⟨P, 0, none⟩)], .func (.func 40) #[] #[.pointer (some ⟨B, 0, none⟩)]] w fun e w' =>
        e = .returned (.tuple #[.slice none 0 0, .iface 345 (.pointer (some ea))]) ∧ w.grownBy w' (some P) := by
  rw [dList_eq] at hd
  cases hq : take4 (bs.drop p) with
  | none => exact list39_none1 h hBx hBP hE hq
  | some q =>
    rw [hq] at hd
    simp only at hd
    split at hd
    · rename_i hl; exact list39_none2 h hBx hBP hE (n := q.1) (rs := q.2) hq hl
    · rename_i hl; exact list39_none3 h hBx hBP hE (n := q.1) (rs := q.2) hq hl (by simpa using hd)
end Go.Proofs.YtpidhnnckolapaaGreatDoor.K
namespace Go.Proofs.YtpidhnnckolapaaGreatDoor.K
open Go.RowKit Go.Proofs.YtpidhnnckolapaaGreatDoorW.PrintWords Go.Proofs.YtpidhnnckolapaaGreatDoorW.PrintLast
set_option linter.unusedVariables false
set_option linter.unusedSimpArgs false
def dRow : D PA.S43 := fun l => match dList dSlot l with
  | none => none
  | some q => (dList dConfig (l.drop q.2)).map fun t => (⟨q.1, t.1⟩, q.2 + t.2)
theorem dRow_fits : Fits dRow := by
  intro l x k e
  unfold dRow at e
  cases hq : dList dSlot l with
  | none => rw [hq] at e; cases e
  | some q =>
    rw [hq] at e
    obtain ⟨t, ht, e⟩ := Option.map_eq_some_iff.1 e
    have h2 := dList_fits dSlot_fits _ q.1 q.2 hq
    have h3 := dList_fits dConfig_fits _ t.1 t.2 ht
    rw [List.length_drop] at h3
    simp only [Prod.mk.injEq] at e
    omega
theorem R_stay {α : Type} {d : Kd α} {e : Nat} {w1 w2 w3 : World} {base P : Nat} {v : Value} {xs : List α} (h : d.R e w2 base (new w1) v xs) (hg : w2.grownBy w3 (some P)) (hP : P < w1.heap.size) : d.R e w3 base (new w1) v xs :=
  Kd.R_grown h hg (fun k hk e => by injection e with e; simp only [new] at hk; omega)
set_option maxHeartbeats 1600000 in
set_option maxRecDepth 100000 in
theorem row_some {w0 w : World} {P : Nat} {A : Option Addr} {c : Nat} {bs : List Int} {p : Nat} (h : PL w0 w P A c bs p) {x : PA.S43} {k : Nat} (hd : dRow (bs.drop p) = some (x, k)) :
      Calls Tryz.prog 44 #[.agg #[.pointer (some ⟨P, 0, none⟩)]] w fun e w' =>
        ∃ A1 c1 A2 c2, e = .returned (.tuple #[.agg #[.slice A1 x.f0.length c1, .slice A2 x.f1.length c2], .nilIface]) ∧ (Kd.R PA.k47 47 w' w.heap.size (new w) (.slice A1 x.f0.length c1) x.f0 ∧ Kd.R PA.k49 49 w' w.heap.size (new w) (.slice A2 x.f1.length c2) x.f1) ∧ w.grownBy w' (some P) ∧ PL w0 w' P A c bs (p + k) := by
  unfold dRow at hd
  cases hq : dList dSlot (bs.drop p) with
  | none => rw [hq] at hd; cases hd
  | some q =>
  rw [hq] at hd
  obtain ⟨t, ht, e⟩ := Option.map_eq_some_iff.1 hd
  simp only [Prod.mk.injEq] at e
  obtain ⟨rfl, rfl⟩ := e
  obtain ⟨xs, i⟩ := q
  obtain ⟨ys, j⟩ := t
  simp only at ht ⊢
  rw [List.drop_drop] at ht
  have HT := Aside0.mk ht
  have H1 := (h.alloc (.cells #[.pointer (some ⟨P, 0, none⟩)] 82)).alloc (.cells #[.slice none 0 0, .slice none 0 0] 43)
  have hlist1 := list62_some H1 hq
  have hP := h.lt
  have HP := Aside0.mk h
  have hmf : ∀ (fn : Fn) (first cap : Array Value) (w : World), (Instr.makeFunc fn first cap).run Tryz.prog w = .ok (.func fn first cap) w := fun _ _ _ _ => rfl
  clear h H1 hd hq ht
  go_enter Tryz.func44, Tryz.ntmps44
  go_wp2_with fail
  refine hlist1.mono ?_
  rintro e w1 ⟨A1, c1, rfl, hr1, hg1, hp1⟩
  clear hlist1
  have hlt : w.heap.size + 1 < w1.heap.size := by have := hg1.size; simp at this; omega
  have hbox : w1.heap[w.heap.size]? = some (.cells #[.pointer (some ⟨P, 0, none⟩)] 82 (0, 0)) := gb_blk (blk_box (blk_new w _)) hg1 (by omega)
  have hres : w1.heap[w.heap.size + 1]? = some (.cells #[.slice none 0 0, .slice none 0 0] 43 (0, 0)) := gb_blk (by have := blk_new (w.alloc (.cells #[.pointer (some ⟨P, 0, none⟩)] 82)) (.cells #[.slice none 0 0, .slice none 0 0] 43); simpa using this) hg1 (by omega)
  have hbx := (blk_cell hbox 0).trans rfl
  have hlist := list64_some hp1 HT.out
  have HG1 := Aside0.mk hg1
  have HRES := Aside0.mk hres
  have HV1 := Aside0.mk hr1
  clear hg1 hp1 hbox hres hr1
  go_wp2_with fail
  refine hlist.mono ?_
  rintro e w2 ⟨A2, c2, rfl, hr2, hg2, hp2⟩
  clear hlist hbx hmf
  have hres := gb_blk HRES.out hg2 (by omega)
  have hc0 := (blk_cell hres 0).trans rfl
  have hc1 := (blk_cell hres 1).trans rfl
  have hz0 := blk_frozen hres 0
  have hz1 := blk_frozen hres 1
  have hl2 := blk_lt hres
  have HR2 := Aside0.mk hres
  have HG2 := Aside0.mk (gb_trans (gb_trans (gb_trans (gb_alloc w _ P) (gb_alloc _ _ _)) HG1.out) hg2)
  have HP2 := Aside0.mk hp2
  have HV2 := Aside0.mk hr2
  have HV3 := Aside0.mk (R_stay HV1.out hg2 (by simp; omega))
  clear hres hg2 hp2 HG1 HRES hr2 HV1
  go_wp2
  refine bodyPost_ret (results_ct rfl _ _ (w.heap.size + 1) 43 _ (0, 0) _ rfl (put2 HR2.out _ _) Tryz.underlying43 rfl (by kernel_rfl)) rfl ⟨A1, c1, A2, c2, rfl, ⟨?_, ?_⟩, ?_, ?_⟩
  · exact Kd.R_mono (Kd.R_lower (R_put2 HV3.out (by simp) _ _) (by simp; omega)) (fun k hk => by simp [new] at hk ⊢; omega)
  · exact Kd.R_mono (Kd.R_lower (R_put2 HV2.out hlt _ _) (by omega)) (fun k hk => Nat.le_trans (by omega) hk)
  · exact gb_put2 HG2.out (by omega) _ _
  · rw [← Nat.add_assoc]
    exact PL.put2 HP2.out (by omega) (by have := HP.out.bel.size; omega) _ _
set_option maxHeartbeats 1600000 in
set_option maxRecDepth 100000 in
theorem row_none1 {w0 w : World} {P : Nat} {A : Option Addr} {c : Nat} {bs : List Int} {p : Nat} {ea : Addr} (h : PL w0 w P A c bs p) (hE : HasE w0 ea) (hq : dList dSlot (bs.drop p) = none) :
      Calls Tryz.prog 44 #[.agg #[.pointer (some ⟨P, 0, none⟩)]] w fun e w' =>
        e = .returned (.tuple #[.agg #[.slice none 0 0, .slice none 0 0], .iface 345 (.pointer (some ea))]) ∧ w.grownBy w' (some P) := by
  have H1 := (h.alloc (.cells #[.pointer (some ⟨P, 0, none⟩)] 82)).alloc (.cells #[.slice none 0 0, .slice none 0 0] 43)
  have hlist1 := list62_none H1 hE hq
  have hP := h.lt
  have HP := Aside0.mk h
  have hmf : ∀ (fn : Fn) (first cap : Array Value) (w : World), (Instr.makeFunc fn first cap).run Tryz.prog w = .ok (.func fn first cap) w := fun _ _ _ _ => rfl
  clear h H1 hq
  go_enter Tryz.func44, Tryz.ntmps44
  go_wp2_with fail
  refine hlist1.mono ?_
  rintro e w1 ⟨rfl, hg1⟩
  clear hlist1
  have hlt : w.heap.size + 1 < w1.heap.size := by have := hg1.size; simp at this; omega
  have hbox : w1.heap[w.heap.size]? = some (.cells #[.pointer (some ⟨P, 0, none⟩)] 82 (0, 0)) := gb_blk (blk_box (blk_new w _)) hg1 (by omega)
  have hres : w1.heap[w.heap.size + 1]? = some (.cells #[.slice none 0 0, .slice none 0 0] 43 (0, 0)) := gb_blk (by have := blk_new (w.alloc (.cells #[.pointer (some ⟨P, 0, none⟩)] 82)) (.cells #[.slice none 0 0, .slice none 0 0] 43); simpa using this) hg1 (by omega)
  have hc0 := (blk_cell hres 0).trans rfl
  have hc1 := (blk_cell hres 1).trans rfl
  have hz0 := blk_frozen hres 0
  have hz1 := blk_frozen hres 1
  have hl2 := blk_lt hres
  have HR2 := Aside0.mk hres
  have HG2 := Aside0.mk (gb_trans (gb_trans (gb_alloc w _ P) (gb_alloc _ _ _)) hg1)
  clear hres hg1 hbox hmf
  go_wp2
  refine bodyPost_ret (results_ct rfl _ _ (w.heap.size + 1) 43 _ (0, 0) _ rfl (put2 HR2.out _ _) Tryz.underlying43 rfl (by kernel_rfl)) rfl ⟨rfl, ?_⟩
  exact gb_put2 HG2.out (by omega) _ _
set_option maxHeartbeats 1600000 in
set_option maxRecDepth 100000 in
theorem row_none2 {w0 w : World} {P : Nat} {A : Option Addr} {c : Nat} {bs : List Int} {p : Nat} {ea : Addr} (h : PL w0 w P A c bs p) (hE : HasE w0 ea) {xs : List PA.S47} {i : Nat} (hq : dList dSlot (bs.drop p) = some (xs, i)) (ht : dList dConfig ((bs.drop p).drop i) = none) :
      Calls Tryz.prog 44 #[.agg #[.pointer (some ⟨P, 0, none⟩)]] w fun e w' =>
        ∃ A1 n1 c1, e = .returned (.tuple #[.agg #[.slice A1 n1 c1, .slice none 0 0], .iface 345 (.pointer (some ea))]) ∧ w.grownBy w' (some P) := by
  rw [List.drop_drop] at ht
  have HT := Aside0.mk ht
  have H1 := (h.alloc (.cells #[.pointer (some ⟨P, 0, none⟩)] 82)).alloc (.cells #[.slice none 0 0, .slice none 0 0] 43)
  have hlist1 := list62_some H1 hq
  have hP := h.lt
  have HP := Aside0.mk h
  have hmf : ∀ (fn : Fn) (first cap : Array Value) (w : World), (Instr.makeFunc fn first cap).run Tryz.prog w = .ok (.func fn first cap) w := fun _ _ _ _ => rfl
  clear h H1 hq ht
  go_enter Tryz.func44, Tryz.ntmps44
  go_wp2_with fail
  refine hlist1.mono ?_
  rintro e w1 ⟨A1, c1, rfl, hr1, hg1, hp1⟩
  clear hlist1
  have hlt : w.heap.size + 1 < w1.heap.size := by have := hg1.size; simp at this; omega
  have hbox : w1.heap[w.heap.size]? = some (.cells #[.pointer (some ⟨P, 0, none⟩)] 82 (0, 0)) := gb_blk (blk_box (blk_new w _)) hg1 (by omega)
  have hres : w1.heap[w.heap.size + 1]? = some (.cells #[.slice none 0 0, .slice none 0 0] 43 (0, 0)) := gb_blk (by have := blk_new (w.alloc (.cells #[.pointer (some ⟨P, 0, none⟩)] 82)) (.cells #[.slice none 0 0, .slice none 0 0] 43); simpa using this) hg1 (by omega)
  have hbx := (blk_cell hbox 0).trans rfl
  have hlist := list64_none hp1 hE HT.out
  have HG1 := Aside0.mk hg1
  have HRES := Aside0.mk hres
  have HV1 := Aside0.mk hr1
  clear hg1 hp1 hbox hres hr1
  go_wp2_with fail
  refine hlist.mono ?_
  rintro e w2 ⟨rfl, hg2⟩
  clear hlist hbx hmf
  have hres := gb_blk HRES.out hg2 (by omega)
  have hc0 := (blk_cell hres 0).trans rfl
  have hc1 := (blk_cell hres 1).trans rfl
  have hz0 := blk_frozen hres 0
  have hz1 := blk_frozen hres 1
  have hl2 := blk_lt hres
  have HR2 := Aside0.mk hres
  have HG2 := Aside0.mk (gb_trans (gb_trans (gb_trans (gb_alloc w _ P) (gb_alloc _ _ _)) HG1.out) hg2)
  clear hres hg2 HG1 HRES HV1
  go_wp2
  refine bodyPost_ret (results_ct rfl _ _ (w.heap.size + 1) 43 _ (0, 0) _ rfl (put2 HR2.out _ _) Tryz.underlying43 rfl (by kernel_rfl)) rfl ⟨A1, _, c1, rfl, ?_⟩
  exact gb_put2 HG2.out (by omega) _ _
theorem row_none {w0 w : World} {P : Nat} {A : Option Addr} {c : Nat} {bs : List Int} {p : Nat} {ea : Addr} (h : PL w0 w P A c bs p) (hE : HasE w0 ea) (hd : dRow (bs.drop p) = none) :
      Calls Tryz.prog 44 #[.agg #[.pointer (some ⟨P, 0, none⟩)]] w fun e w' =>
        ∃ A1 n1 c1, e = .returned (.tuple #[.agg #[.slice A1 n1 c1, .slice none 0 0], .iface 345 (.pointer (some ea))]) ∧ w.grownBy w' (some P) := by
  unfold dRow at hd
  cases hq : dList dSlot (bs.drop p) with
  | none => exact (row_none1 h hE hq).mono fun e w' hh => ⟨_, _, _, hh⟩
  | some q =>
    rw [hq] at hd
    exact row_none2 h hE (xs := q.1) (i := q.2) hq (by simpa using hd)
theorem info43 : (Tryz.prog.info? 43).map (fun i => (i.zero, i.size, i.bytes)) = some (some (.agg #[(.slice none 0 0), (.slice none 0 0)]), 2, 48) := by kernel_rfl
set_option maxHeartbeats 1600000 in
set_option maxRecDepth 100000 in
theorem list43_some {w0 w : World} {P : Nat} {A : Option Addr} {c : Nat} {bs : List Int} {p : Nat} (h : PL w0 w P A c bs p) {xs : List PA.S43} {k : Nat} (hd : dList dRow (bs.drop p) = some (xs, k)) :
      Calls Tryz.prog 43 #[.agg #[.pointer (some ⟨P, 0, none⟩)], .func (.func 44) #[.agg #[.pointer (some ⟨P, 0, none⟩)]] #[]] w fun e w' =>
        ∃ A' c', e = .returned (.tuple #[.slice A' xs.length c', .nilIface]) ∧ Kd.R PA.k43 43 w' w.heap.size (new w) (.slice A' xs.length c') xs ∧ w.grownBy w' (some P) ∧ PL w0 w' P A c bs (p + k) := by
  rw [dList_eq] at hd
  cases hq : take4 (bs.drop p) with
  | none => rw [hq] at hd; cases hd
  | some q =>
  rw [hq] at hd
  simp only at hd
  split at hd
  · cases hd
  rename_i hlen
  obtain ⟨t, ht, e⟩ := Option.map_eq_some_iff.1 hd
  simp only [Prod.mk.injEq] at e
  obtain ⟨rfl, rfl⟩ := e
  obtain ⟨n, rs⟩ := q
  simp only at hlen ht
  obtain ⟨h1, h2⟩ := take4_drop hq
  have hnr := take4_range (fun x hx => h.by8 x (List.mem_of_mem_drop hx)) hq
  obtain ⟨N, rfl⟩ := Int.eq_ofNat_of_zero_le hnr.1
  rw [Int.toNat_natCast] at ht
  have H1 := h.alloc (.cells #[.pointer (some ⟨P, 0, none⟩)] 82)
  have hnum := num_some H1 hq
  have hrs : rs = bs.drop (p + 4) := by rw [h1, List.drop_drop]
  have HN := Aside0.mk ht
  have HRS := Aside0.mk hrs
  have hN : N ≤ 2147483647 := by omega
  have hP := h.lt
  clear hd hq h h1 h2 hnr H1 hrs ht
  go_enter Tryz.func43, Tryz.ntmps43
  go_wp2_with fail
  refine hnum.mono ?_
  rintro e w1 ⟨rfl, hg1, hp1⟩
  clear hnum
  have hlt : w.heap.size < w1.heap.size := by have := hg1.size; simp at this; omega
  have hbox : w1.heap[w.heap.size]? = some (.cells #[.pointer (some ⟨P, 0, none⟩)] 82 (0, 0)) := gb_blk (blk_new w _) hg1 (by omega)
  have hbx := (blk_cell hbox 0).trans rfl
  obtain ⟨A', c', hl, hr, hcall⟩ := rest_calls hp1
  have hgt : decide ((bs.drop (p + 4)).length < N) = false := by rw [← HRS.out]; simp at hlen ⊢; omega
  generalize (bs.drop (p + 4)).length = m at *
  have HG1 := Aside0.mk hg1
  have HP1 := Aside0.mk hp1
  clear hg1 hp1 hbox hr hl hlen
  go_wp2_with fail
  refine hcall.mono ?_
  rintro e w2 ⟨rfl, ⟨m2, rfl⟩⟩
  clear hcall
  go_wp2_with fail
  go_loopw [8, 28] (fun v8 v28 wr => ∃ (i : Nat) (ys : List PA.S43) (k : Nat), i ≤ N ∧ v28 = .int .i64 (i : Int) ∧ Aside0 (RepInv dRow rs N i ys k) ∧ Aside0 (ys.length = i) ∧ Aside0 (Kd.R PA.k43 43 wr w.heap.size (new w) v8 ys) ∧ Aside0 (w.grownBy wr (some P)) ∧ Aside0 (PL w0 wr P A c bs (p + 4 + k))) (fun _ v28 _ => N - (intOf v28).toNat)
  case atStart =>
    exact ⟨0, [], 0, Nat.zero_le _, rfl, ⟨RepInv.start _ _ _⟩, ⟨rfl⟩, ⟨Kd.R_nil _ _ _ _ _⟩, ⟨gb_trans (gb_trans (gb_alloc _ _ _) HG1.out) (gb_drewN _ _ _)⟩, ⟨HP1.out.drewN m2⟩⟩
  case round =>
    obtain ⟨i, ys, k, hi, rfl, HI, HYL, HO, HG, HPL⟩ := hrel
    by_cases hiN : i < N
    · obtain ⟨x, j, hx⟩ : ∃ x j, dRow (rs.drop k) = some (x, j) := by
        cases hv : dRow (rs.drop k) with
        | none => have := HI.out.none hiN hv; rw [HN.out] at this; cases this
        | some q => exact ⟨q.1, q.2, rfl⟩
      have HX := Aside0.mk hx
      have hx2 : dRow (bs.drop (p + 4 + k)) = some (x, j) := by rw [← List.drop_drop, ← HRS.out]; exact hx
      have hfit := dRow_fits _ _ _ hx2
      rw [List.length_drop] at hfit
      have hle := HPL.out.le
      have hval := row_some HPL.out hx2
      have hd1 : decide (i < N) = true := by simpa using hiN
      have hysz : ys.length ≤ 2147483647 := by rw [HYL.out]; omega
      
      have HGS := Aside0.mk HG.out.size
      have HO0 := HO
      clear hx hx2 hle hfit
      go_wp2_with fail
      refine hval.mono ?_
      rintro e w3 ⟨A3, c3, A4, c4, rfl, hr3, hg3, hp3⟩
      clear hval
      have HO3 := Aside0.mk (Kd.R_grown HO.out hg3 (fun q hq e => by injection e with e; subst e; exact absurd hq (by simp [new]; omega)))
      have HG3 := Aside0.mk (gb_trans HG.out hg3)
      have HP3 := Aside0.mk hp3
      have HR3 := Aside0.mk hr3
      clear hr3
      clear hg3 hp3 HO HG HPL
      have hbase : w.heap.size ≤ w3.heap.size := HG3.out.size
      go_wp2_with (first | ((with_reducible refine gate_builtin (b := .append) (xs := #[.tmp 38, .tmp 40]) rfl ?_); at_builtin; go_loud (refine Kd.R_append PA.k43 (w0 := w3.alloc (.cells #[.slice A3 x.f0.length c3, .slice A4 x.f1.length c4] 43)) w.heap.size rfl (.tmp 38) (.tmp 40) 24 43 (.agg #[(.slice none 0 0), (.slice none 0 0)]) 48 rfl Tryz.underlying24 info43 rfl (by decide) (by omega) u8 ys x [.slice A3 x.f0.length c3, .slice A4 x.f1.length c4] (new w) (new wr) rfl ?hxx (PA.k43_mkM _ _ _ _ (Kd.R_alloc (Kd.R_lower HR3.out.1 HGS.out) _) (Kd.R_alloc (Kd.R_lower HR3.out.2 HGS.out) _)) (okp_new HO0.out HGS.out) (fun q hq => ?hfr) (Kd.R_alloc HO3.out _) (Below.refl _ _) ?hba ?hsz ?_); (case hxx => show Value.slice (some ⟨w3.heap.size + 1, 0, none⟩) 1 1 = _; simp); (case hfr => simp at hq; exact Nat.le_trans hbase (by omega)); (case hba => simp; omega); (case hsz => omega); intro v4 w4 ho hb hg hat; have HO4 := Aside0.mk ho; have HG4 := Aside0.mk (gb_own (gb_trans HG3.out (gb_alloc _ _ _)) hg (R_own_new HO3.out)); have HP4 := Aside0.mk ((HP3.out.alloc _).grown hg (fun q hq => Nat.lt_of_lt_of_le hP (R_own_new HO3.out q hq))); clear ho hb hg hat HO3 HG3 HP3))
      go_roundw
      case rel => exact ⟨i + 1, ys ++ [x], k + j, by omega, by go_num, ⟨HI.out.step hiN HX.out⟩, ⟨by rw [List.length_append, HYL.out]; rfl⟩, HO4, HG4, ⟨by rw [← Nat.add_assoc]; exact HP4.out⟩⟩
      case measure => simp [intOf]; omega
    · have hNi : i = N := by omega
      subst hNi
      have HE := Aside0.mk (HI.out.done)
      have hd1 : decide (i < i) = false := by simp
      clear hiN
      go_wp2
      go_ret2
      have e := HE.out
      rw [HN.out] at e
      obtain rfl := Option.some.inj e
      obtain ⟨A', c', hv⟩ := Kd.R_slice HO.out
      exact ⟨A', c', by rw [← hv]; rfl, by rw [← hv]; exact HO.out, HG.out, by have := HPL.out; rwa [show p + (k + 4) = p + 4 + k by omega]⟩
set_option maxHeartbeats 1600000 in
set_option maxRecDepth 100000 in
theorem list43_none1 {w0 w : World} {P : Nat} {A : Option Addr} {c : Nat} {bs : List Int} {p : Nat} {ea : Addr} (h : PL w0 w P A c bs p) (hE : HasE w0 ea) (hq : take4 (bs.drop p) = none) :
      Calls Tryz.prog 43 #[.agg #[.pointer (some ⟨P, 0, none⟩)], .func (.func 44) #[.agg #[.pointer (some ⟨P, 0, none⟩)]] #[]] w fun e w' =>
        e = .returned (.tuple #[.slice none 0 0, .iface 345 (.pointer (some ea))]) ∧ w.grownBy w' (some P) := by
  have H1 := h.alloc (.cells #[.pointer (some ⟨P, 0, none⟩)] 82)
  have hnum := num_none H1 hE hq
  have HP := Aside0.mk h
  clear hq h H1
  go_enter Tryz.func43, Tryz.ntmps43
  go_wp2_with fail
  refine hnum.mono ?_
  rintro e w1 ⟨rfl, hb1⟩
  clear hnum
  have he := hE.now (below_then (below_alloc (Below.refl _ _) _) (by simp) hb1 |> fun q => below_then HP.out.bel HP.out.bel.size q)
  have HG := Aside0.mk (gb_trans (gb_alloc w (.cells #[.pointer (some ⟨P, 0, none⟩)] 82) P) (gb_below hb1))
  clear hb1
  go_wp2_with fail
  go_quiet (fail)
  go_wp2
  go_ret2
  exact ⟨rfl, gb_trans HG.out (gb_drewN _ _ _)⟩
set_option maxHeartbeats 1600000 in
set_option maxRecDepth 100000 in
theorem list43_none2 {w0 w : World} {P : Nat} {A : Option Addr} {c : Nat} {bs : List Int} {p : Nat} {ea : Addr} (h : PL w0 w P A c bs p) (hE : HasE w0 ea) {n : Int} {rs : List Int} (hq : take4 (bs.drop p) = some (n, rs)) (hlen : (rs.length : Int) < n) :
      Calls Tryz.prog 43 #[.agg #[.pointer (some ⟨P, 0, none⟩)], .func (.func 44) #[.agg #[.pointer (some ⟨P, 0, none⟩)]] #[]] w fun e w' =>
        e = .returned (.tuple #[.slice none 0 0, .iface 345 (.pointer (some ea))]) ∧ w.grownBy w' (some P) := by
  obtain ⟨h1, h2⟩ := take4_drop hq
  have hnr := take4_range (fun x hx => h.by8 x (List.mem_of_mem_drop hx)) hq
  obtain ⟨N, rfl⟩ := Int.eq_ofNat_of_zero_le hnr.1
  have H1 := h.alloc (.cells #[.pointer (some ⟨P, 0, none⟩)] 82)
  have hnum := num_some H1 hq
  have hrs : rs = bs.drop (p + 4) := by rw [h1, List.drop_drop]
  have HRS := Aside0.mk hrs
  have hP := h.lt
  clear hq h h1 h2 hnr H1 hrs
  go_enter Tryz.func43, Tryz.ntmps43
  go_wp2_with fail
  refine hnum.mono ?_
  rintro e w1 ⟨rfl, hg1, hp1⟩
  clear hnum
  have hlt : w.heap.size < w1.heap.size := by have := hg1.size; simp at this; omega
  have hbox : w1.heap[w.heap.size]? = some (.cells #[.pointer (some ⟨P, 0, none⟩)] 82 (0, 0)) := gb_blk (blk_new w _) hg1 (by omega)
  have hbx := (blk_cell hbox 0).trans rfl
  obtain ⟨A', c', hl, hr, hcall⟩ := rest_calls hp1
  have hgt : decide ((bs.drop (p + 4)).length < N) = true := by rw [← HRS.out]; simp at hlen ⊢; omega
  generalize (bs.drop (p + 4)).length = m at *
  have HG1 := Aside0.mk hg1
  have HP1 := Aside0.mk hp1
  clear hg1 hp1 hbox hr hl hlen
  go_wp2_with fail
  refine hcall.mono ?_
  rintro e w2 ⟨rfl, ⟨m2, rfl⟩⟩
  clear hcall
  have he : w1.cell? ⟨0, 0, none⟩ = some (.iface 345 (.pointer (some ea))) := hE.now HP1.out.bel
  go_wp2_with fail
  go_quiet (fail)
  go_wp2
  go_ret2
  exact ⟨rfl, gb_trans (gb_trans (gb_trans (gb_alloc _ _ _) HG1.out) (gb_drewN _ _ _)) (gb_drewN _ _ _)⟩
set_option maxHeartbeats 1600000 in
set_option maxRecDepth 100000 in
theorem list43_none3 {w0 w : World} {P : Nat} {A : Option Addr} {c : Nat} {bs : List Int} {p : Nat} {ea : Addr} (h : PL w0 w P A c bs p) (hE : HasE w0 ea) {n : Int} {rs : List Int} (hq : take4 (bs.drop p) = some (n, rs)) (hlen : ¬ (rs.length : Int) < n) (ht : dRep dRow n.toNat rs = none) :
      Calls Tryz.prog 43 #[.agg #[.pointer (some ⟨P, 0, none⟩)], .func (.func 44) #[.agg #[.pointer (some ⟨P, 0, none⟩)]] #[]] w fun e w' =>
        e = .returned (.tuple #[.slice none 0 0, .iface 345 (.pointer (some ea))]) ∧ w.grownBy w' (some P) := by
  obtain ⟨h1, h2⟩ := take4_drop hq
  have hnr := take4_range (fun x hx => h.by8 x (List.mem_of_mem_drop hx)) hq
  obtain ⟨N, rfl⟩ := Int.eq_ofNat_of_zero_le hnr.1
  rw [Int.toNat_natCast] at ht
  have H1 := h.alloc (.cells #[.pointer (some ⟨P, 0, none⟩)] 82)
  have hnum := num_some H1 hq
  have hrs : rs = bs.drop (p + 4) := by rw [h1, List.drop_drop]
  have HN := Aside0.mk ht
  have HRS := Aside0.mk hrs
  have hN : N ≤ 2147483647 := by omega
  have hP := h.lt
  clear hq h h1 h2 hnr H1 hrs ht
  go_enter Tryz.func43, Tryz.ntmps43
  go_wp2_with fail
  refine hnum.mono ?_
  rintro e w1 ⟨rfl, hg1, hp1⟩
  clear hnum
  have hlt : w.heap.size < w1.heap.size := by have := hg1.size; simp at this; omega
  have hbox : w1.heap[w.heap.size]? = some (.cells #[.pointer (some ⟨P, 0, none⟩)] 82 (0, 0)) := gb_blk (blk_new w _) hg1 (by omega)
  have hbx := (blk_cell hbox 0).trans rfl
  obtain ⟨A', c', hl, hr, hcall⟩ := rest_calls hp1
  have hgt : decide ((bs.drop (p + 4)).length < N) = false := by rw [← HRS.out]; simp at hlen ⊢; omega
  generalize (bs.drop (p + 4)).length = m at *
  have HG1 := Aside0.mk hg1
  have HP1 := Aside0.mk hp1
  clear hg1 hp1 hbox hr hl hlen
  go_wp2_with fail
  refine hcall.mono ?_
  rintro e w2 ⟨rfl, ⟨m2, rfl⟩⟩
  clear hcall
  go_wp2_with fail
  go_loopw [8, 28] (fun v8 v28 wr => ∃ (i : Nat) (ys : List PA.S43) (k : Nat), i ≤ N ∧ v28 = .int .i64 (i : Int) ∧ Aside0 (RepInv dRow rs N i ys k) ∧ Aside0 (ys.length = i) ∧ Aside0 (Kd.R PA.k43 43 wr w.heap.size (new w) v8 ys) ∧ Aside0 (w.grownBy wr (some P)) ∧ Aside0 (PL w0 wr P A c bs (p + 4 + k))) (fun _ v28 _ => N - (intOf v28).toNat)
  case atStart =>
    exact ⟨0, [], 0, Nat.zero_le _, rfl, ⟨RepInv.start _ _ _⟩, ⟨rfl⟩, ⟨Kd.R_nil _ _ _ _ _⟩, ⟨gb_trans (gb_trans (gb_alloc _ _ _) HG1.out) (gb_drewN _ _ _)⟩, ⟨HP1.out.drewN m2⟩⟩
  case round =>
    obtain ⟨i, ys, k, hi, rfl, HI, HYL, HO, HG, HPL⟩ := hrel
    by_cases hiN : i < N
    · cases hx : dRow (rs.drop k) with
      | some q =>
      obtain ⟨x, j⟩ := q
      have HX := Aside0.mk hx
      have hx2 : dRow (bs.drop (p + 4 + k)) = some (x, j) := by rw [← List.drop_drop, ← HRS.out]; exact hx
      have hfit := dRow_fits _ _ _ hx2
      rw [List.length_drop] at hfit
      have hle := HPL.out.le
      have hval := row_some HPL.out hx2
      have hd1 : decide (i < N) = true := by simpa using hiN
      have hysz : ys.length ≤ 2147483647 := by rw [HYL.out]; omega
      
      have HGS := Aside0.mk HG.out.size
      have HO0 := HO
      clear hx hx2 hle hfit
      go_wp2_with fail
      refine hval.mono ?_
      rintro e w3 ⟨A3, c3, A4, c4, rfl, hr3, hg3, hp3⟩
      clear hval
      have HO3 := Aside0.mk (Kd.R_grown HO.out hg3 (fun q hq e => by injection e with e; subst e; exact absurd hq (by simp [new]; omega)))
      have HG3 := Aside0.mk (gb_trans HG.out hg3)
      have HP3 := Aside0.mk hp3
      have HR3 := Aside0.mk hr3
      clear hr3
      clear hg3 hp3 HO HG HPL
      have hbase : w.heap.size ≤ w3.heap.size := HG3.out.size
      go_wp2_with (first | ((with_reducible refine gate_builtin (b := .append) (xs := #[.tmp 38, .tmp 40]) rfl ?_); at_builtin; go_loud (refine Kd.R_append PA.k43 (w0 := w3.alloc (.cells #[.slice A3 x.f0.length c3, .slice A4 x.f1.length c4] 43)) w.heap.size rfl (.tmp 38) (.tmp 40) 24 43 (.agg #[(.slice none 0 0), (.slice none 0 0)]) 48 rfl Tryz.underlying24 info43 rfl (by decide) (by omega) u8 ys x [.slice A3 x.f0.length c3, .slice A4 x.f1.length c4] (new w) (new wr) rfl ?hxx (PA.k43_mkM _ _ _ _ (Kd.R_alloc (Kd.R_lower HR3.out.1 HGS.out) _) (Kd.R_alloc (Kd.R_lower HR3.out.2 HGS.out) _)) (okp_new HO0.out HGS.out) (fun q hq => ?hfr) (Kd.R_alloc HO3.out _) (Below.refl _ _) ?hba ?hsz ?_); (case hxx => show Value.slice (some ⟨w3.heap.size + 1, 0, none⟩) 1 1 = _; simp); (case hfr => simp at hq; exact Nat.le_trans hbase (by omega)); (case hba => simp; omega); (case hsz => omega); intro v4 w4 ho hb hg hat; have HO4 := Aside0.mk ho; have HG4 := Aside0.mk (gb_own (gb_trans HG3.out (gb_alloc _ _ _)) hg (R_own_new HO3.out)); have HP4 := Aside0.mk ((HP3.out.alloc _).grown hg (fun q hq => Nat.lt_of_lt_of_le hP (R_own_new HO3.out q hq))); clear ho hb hg hat HO3 HG3 HP3))
      go_roundw
      case rel => exact ⟨i + 1, ys ++ [x], k + j, by omega, by go_num, ⟨HI.out.step hiN HX.out⟩, ⟨by rw [List.length_append, HYL.out]; rfl⟩, HO4, HG4, ⟨by rw [← Nat.add_assoc]; exact HP4.out⟩⟩
      case measure => simp [intOf]; omega
      | none =>
      have hx2 : dRow (bs.drop (p + 4 + k)) = none := by rw [← List.drop_drop, ← HRS.out]; exact hx
      have hval := row_none HPL.out hE hx2
      have hd1 : decide (i < N) = true := by simpa using hiN
      
      clear hx hx2
      go_wp2_with fail
      refine hval.mono ?_
      rintro e w3 ⟨A3, n3, c3, rfl, hg3⟩
      clear hval
      
      have HG3 := Aside0.mk (gb_trans HG.out hg3)
      clear hg3 HO HG HPL
      go_wp2
      go_ret2
      exact ⟨rfl, gb_trans HG3.out (gb_alloc _ _ _)⟩
    · have hNi : i = N := by omega
      subst hNi
      have e := HI.out.done
      rw [HN.out] at e
      cases e
theorem list43_none {w0 w : World} {P : Nat} {A : Option Addr} {c : Nat} {bs : List Int} {p : Nat} {ea : Addr} (h : PL w0 w P A c bs p) (hE : HasE w0 ea) (hd : dList dRow (bs.drop p) = none) :
      Calls Tryz.prog 43 #[.agg #[.pointer (some ⟨P, 0, none⟩)], .func (.func 44) #[.agg #[.pointer (some ⟨P, 0, none⟩)]] #[]] w fun e w' =>
        e = .returned (.tuple #[.slice none 0 0, .iface 345 (.pointer (some ea))]) ∧ w.grownBy w' (some P) := by
  rw [dList_eq] at hd
  cases hq : take4 (bs.drop p) with
  | none => exact list43_none1 h hE hq
  | some q =>
    rw [hq] at hd
    simp only at hd
    split at hd
    · rename_i hl; exact list43_none2 h hE (n := q.1) (rs := q.2) hq hl
    · rename_i hl; exact list43_none3 h hE (n := q.1) (rs := q.2) hq hl (by simpa using hd)
end Go.Proofs.YtpidhnnckolapaaGreatDoor.K
