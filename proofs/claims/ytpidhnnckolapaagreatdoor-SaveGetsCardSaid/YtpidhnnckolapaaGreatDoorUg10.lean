/- The reader of package save: the snap and Get whole. -/
import Derived.LaidEql
import Derived.Stop.Asserts
import Derived.RowKitTokens
import Derived.Test.YtpidhnnckolapaaGreatDoorUg9
namespace Go.Proofs.YtpidhnnckolapaaGreatDoor.K
open Go.RowKit Go.Proofs.YtpidhnnckolapaaGreatDoorW.PrintWords Go.Proofs.YtpidhnnckolapaaGreatDoorW.PrintLast
set_option linter.unusedVariables false
set_option linter.unusedSimpArgs false
open Go.Extern.Stop Go.Stop Go.Extern
theorem isTypeOf (v : Value) (w : World) : (Extern.ReflectliteType.typeOf #[.iface 345 v]).run Tryz.prog w = .ok (.iface 171 (.agg #[.pointer (some ⟨2, 345, none⟩)])) w := by kernel_rfl
def cmpEntry : Array Value → Sem Value := Extern.ReflectliteType.method fun t => do Extern.Rtype.noPackHeld "Comparable" t; pure (.bool (← typeInfo t).comparable)
theorem isComparable (w : World) : (cmpEntry #[.agg #[.pointer (some ⟨2, 345, none⟩)]]).run Tryz.prog w = .ok (.bool true) w := by kernel_rfl
theorem isMethodComparable (v : Value) (w : World) : (Go.method 483 171 v "Comparable").run Tryz.prog w = .ok (230, v) w := by kernel_rfl
theorem isComp : (Tryz.prog.info? 345).map (·.comparable) = some true := by kernel_rfl
theorem isSize : (Tryz.prog.info? 371).map (·.size) = some 1 := by kernel_rfl
set_option maxRecDepth 100000 in
/-- errors.Is(x, x), x a pointer to an errors.errorString. -/
theorem is_same (a : Addr) (w : World) :
    Calls Tryz.prog 21 #[.iface 345 (.pointer (some a)), .iface 345 (.pointer (some a))] w fun e w' => e = .returned (.bool true) ∧ w = w' := by
  obtain ⟨i, hi, hcmp⟩ := Option.map_eq_some_iff.1 isComp
  obtain ⟨j, hj, hjs⟩ := Option.map_eq_some_iff.1 isSize
  have h8 := @run_callFunc_extern Tryz.prog 45 _ Extern.ReflectliteType.typeOf Tryz.func45 (by kernel_rfl) (by kernel_rfl) (by kernel_rfl) (by kernel_rfl)
  have h32 := @run_callFunc_extern Tryz.prog 230 _ cmpEntry Tryz.func230 (by kernel_rfl) (by kernel_rfl) (by kernel_rfl) (by kernel_rfl)
  have tT := isTypeOf
  have cT := isComparable
  have mR := isMethodComparable
  have heq := run_eql_iface_ptr_same (P := Tryz.prog) w a Tryz.underlying76 Tryz.underlying345 hi hcmp hj
  go_enter Tryz.func21, Tryz.ntmps21
  go_wp2
  refine wp_loop_rounds 1 ?_
  rw [rounds_succ]
  go_wp2
  go_ret
  exact ⟨rfl, rfl⟩
/-- errors.Is(nil, x). -/
theorem is_nil (b : Addr) (w : World) :
    Calls Tryz.prog 21 #[.nilIface, .iface 345 (.pointer (some b))] w fun e w' => e = .returned (.bool false) ∧ w = w' := by
  have hn := run_eql_iface_nil_left (P := Tryz.prog) w 345 (.pointer (some b)) Tryz.underlying76
  go_enter Tryz.func21, Tryz.ntmps21
  go_wp2
  go_ret
  exact ⟨rfl, rfl⟩
end Go.Proofs.YtpidhnnckolapaaGreatDoor.K
namespace Go.Proofs.YtpidhnnckolapaaGreatDoor.K
open Go.RowKit Go.Proofs.YtpidhnnckolapaaGreatDoorW.PrintWords Go.Proofs.YtpidhnnckolapaaGreatDoorW.PrintLast
set_option linter.unusedVariables false
set_option linter.unusedSimpArgs false
theorem put6 {w : World} {g : Nat} {t : TypeId} {a b c d e f : Value} (h : w.heap[g]? = some (.cells #[a, b, c, d, e, f] t (0, 0))) (a' b' c' d' e' f' : Value) :
    ((((((w.setCell ⟨g, 0, none⟩ a').setCell ⟨g, 1, none⟩ b').setCell ⟨g, 2, none⟩ c').setCell ⟨g, 3, none⟩ d').setCell ⟨g, 4, none⟩ e').setCell ⟨g, 5, none⟩ f').heap[g]? = some (.cells #[a', b', c', d', e', f'] t (0, 0)) :=
  blk_put (blk_put (blk_put (blk_put (blk_put (blk_put h 0 a' rfl) 1 b' rfl) 2 c' rfl) 3 d' rfl) 4 e' rfl) 5 f' rfl
theorem gb_put6 {w w1 : World} {P g : Nat} (h : w.grownBy w1 (some P)) (hg : w.heap.size ≤ g) (a b c d e f : Value) :
    w.grownBy ((((((w1.setCell ⟨g, 0, none⟩ a).setCell ⟨g, 1, none⟩ b).setCell ⟨g, 2, none⟩ c).setCell ⟨g, 3, none⟩ d).setCell ⟨g, 4, none⟩ e).setCell ⟨g, 5, none⟩ f) (some P) :=
  gb_new (gb_put5 h hg a b c d e) (q := ⟨g, 5, none⟩) hg f
theorem R_put6 {α : Type} {d : Kd α} {e : Nat} {w1 w2 : World} {base g : Nat} {v : Value} {xs : List α} (h : d.R e w2 base (new w1) v xs) (hg : g < w1.heap.size) (a b c d' e' f : Value) :
    d.R e ((((((w2.setCell ⟨g, 0, none⟩ a).setCell ⟨g, 1, none⟩ b).setCell ⟨g, 2, none⟩ c).setCell ⟨g, 3, none⟩ d').setCell ⟨g, 4, none⟩ e').setCell ⟨g, 5, none⟩ f) base (new w1) v xs := by
  have hk : ∀ k, new w1 k → k ≠ g := fun k hk e => by simp only [new] at hk; omega
  exact Kd.R_far (p := ⟨g, 5, none⟩) (Kd.R_far (p := ⟨g, 4, none⟩) (Kd.R_far (p := ⟨g, 3, none⟩) (Kd.R_far (p := ⟨g, 2, none⟩) (Kd.R_far (p := ⟨g, 1, none⟩) (Kd.R_far (p := ⟨g, 0, none⟩) h hk a) hk b) hk c) hk d') hk e') hk f
theorem R_put1 {α : Type} {d : Kd α} {e : Nat} {w1 w2 : World} {base g j : Nat} {v : Value} {xs : List α} (h : d.R e w2 base (new w1) v xs) (hg : g < w1.heap.size) (a : Value) :
    d.R e (w2.setCell ⟨g, j, none⟩ a) base (new w1) v xs := Kd.R_far (p := ⟨g, j, none⟩) h (fun k hk e => by simp only [new] at hk; simp only at e; omega) a
theorem PL.put1 {w0 w : World} {P : Nat} {A : Option Addr} {n : Nat} {bs : List Int} {p g j : Nat} (h : PL w0 w P A n bs p) (hne : ¬ P = g) (hg : w0.heap.size ≤ g) (a : Value) :
    PL w0 (w.setCell ⟨g, j, none⟩ a) P A n bs p := h.other (q := ⟨g, j, none⟩) hne hg a
theorem gb_put1 {w w1 : World} {P g j : Nat} (h : w.grownBy w1 (some P)) (hg : w.heap.size ≤ g) (a : Value) : w.grownBy (w1.setCell ⟨g, j, none⟩ a) (some P) := gb_new h (q := ⟨g, j, none⟩) hg a
def SnapPost (w : World) (P : Nat) (ea : Addr) (o : Option (List Int × List (List PA.S45) × List PA.S43)) (e : Ending) (w' : World) : Prop :=
  w.grownBy w' (some P) ∧ match o with
    | some q => ∃ A1 c1 A2 c2, e = .returned (.tuple #[.agg #[.int .i64 (q.1.getD 0 0), .int .i64 (q.1.getD 1 0), .int .i64 (q.1.getD 2 0), .int .i64 (q.1.getD 3 0), .slice A1 q.2.1.length c1, .slice A2 q.2.2.length c2], .nilIface]) ∧
        Kd.R (Kd.slice 45 PA.k45) 38 w' w.heap.size (new w) (.slice A1 q.2.1.length c1) q.2.1 ∧ Kd.R PA.k43 43 w' w.heap.size (new w) (.slice A2 q.2.2.length c2) q.2.2
    | none => ∃ (a b c d : Int) (A1 : Option Addr) (n1 c1 : Nat) (A2 : Option Addr) (n2 c2 : Nat), e = .returned (.tuple #[.agg #[.int .i64 a, .int .i64 b, .int .i64 c, .int .i64 d, .slice A1 n1 c1, .slice A2 n2 c2], .iface 345 (.pointer (some ea))])
theorem SnapPost.bad {w : World} {P : Nat} {ea : Addr} {e : Ending} {w' : World} {o : Option (List Int × List (List PA.S45) × List PA.S43)} (ho : o = none) (hg : w.grownBy w' (some P)) {a b c d : Int} {A1 : Option Addr} {n1 c1 : Nat} {A2 : Option Addr} {n2 c2 : Nat}
    (he : e = .returned (.tuple #[.agg #[.int .i64 a, .int .i64 b, .int .i64 c, .int .i64 d, .slice A1 n1 c1, .slice A2 n2 c2], .iface 345 (.pointer (some ea))])) : SnapPost w P ea o e w' := by
  subst ho; exact ⟨hg, a, b, c, d, A1, n1, c1, A2, n2, c2, he⟩
/-- The blocks of snap's own. -/
structure S4 (w wr : World) (P : Nat) (ns : List Int) : Prop where
  b0 : wr.heap[w.heap.size]? = some (.cells #[.pointer (some ⟨P, 0, none⟩)] 82 (0, 0))
  b1 : wr.heap[w.heap.size + 1]? = some (.cells #[.int .i64 (ns.getD 0 0), .int .i64 (ns.getD 1 0), .int .i64 (ns.getD 2 0), .int .i64 0, .slice none 0 0, .slice none 0 0] 26 (0, 0))
  b2 : wr.heap[w.heap.size + 1 + 1]? = some (.cells #[.int .i64 (ns.getD 3 0)] 3 (0, 0))
  b3 : wr.heap[w.heap.size + 1 + 1 + 1]? = some (.cells #[.pointer (some ⟨w.heap.size + 1, 0, none⟩), .pointer (some ⟨w.heap.size + 1, 1, none⟩), .pointer (some ⟨w.heap.size + 1, 2, none⟩), .pointer (some ⟨w.heap.size + 1 + 1, 0, none⟩)] 115 (0, 0))
theorem S4.grown {w wr w1 : World} {P : Nat} {ns : List Int} (h : S4 w wr P ns) (hg : wr.grownBy w1 (some P)) (hP : P < w.heap.size) : S4 w w1 P ns :=
  ⟨gb_blk h.b0 hg (by omega), gb_blk h.b1 hg (by omega), gb_blk h.b2 hg (by omega), gb_blk h.b3 hg (by omega)⟩
def dNum : D Int := fun l => (take4 l).map fun q => (q.1, 4)
theorem dNum_none {l : List Int} (h : take4 l = none) : dNum l = none := by unfold dNum; rw [h]; rfl
theorem dNum_some {l : List Int} {n : Int} {r : List Int} (h : take4 l = some (n, r)) : dNum l = some (n, 4) := by unfold dNum; rw [h]; rfl
/-- What is behind the first byte. -/
def dSnap2 (r : List Int) : Option (List Int × List (List PA.S45) × List PA.S43) := match dRep dNum 4 r with
  | none => none
  | some q => match dList (dList cutV) (r.drop q.2) with
    | none => none
    | some t => match dList dRow (r.drop (q.2 + t.2)) with
      | none => none
      | some u => if (r.drop (q.2 + t.2 + u.2)).length = 0 then some (q.1, t.1, u.1) else none
def dSnap : List Int → Option (List Int × List (List PA.S45) × List PA.S43)
  | [] => none
  | x :: r => if x = 81 then dSnap2 r else none
theorem dSnap2_n {r : List Int} (h : dRep dNum 4 r = none) : dSnap2 r = none := by unfold dSnap2; rw [h]
theorem dSnap2_d {r ns : List Int} {k : Nat} (h : dRep dNum 4 r = some (ns, k)) (h2 : dList (dList cutV) (r.drop k) = none) : dSnap2 r = none := by unfold dSnap2; rw [h]; simp only [h2]
theorem dSnap2_r {r ns : List Int} {k : Nat} {ds : List (List PA.S45)} {j : Nat} (h : dRep dNum 4 r = some (ns, k)) (h2 : dList (dList cutV) (r.drop k) = some (ds, j)) (h3 : dList dRow (r.drop (k + j)) = none) : dSnap2 r = none := by
  unfold dSnap2; rw [h]; simp only [h2, h3]
theorem dSnap2_l {r ns : List Int} {k : Nat} {ds : List (List PA.S45)} {j : Nat} {rs : List PA.S43} {i : Nat} (h : dRep dNum 4 r = some (ns, k)) (h2 : dList (dList cutV) (r.drop k) = some (ds, j)) (h3 : dList dRow (r.drop (k + j)) = some (rs, i)) (h4 : ¬ (r.drop (k + j + i)).length = 0) : dSnap2 r = none := by
  unfold dSnap2; rw [h]; simp only [h2, h3, if_neg h4]
theorem dSnap2_ok {r ns : List Int} {k : Nat} {ds : List (List PA.S45)} {j : Nat} {rs : List PA.S43} {i : Nat} (h : dRep dNum 4 r = some (ns, k)) (h2 : dList (dList cutV) (r.drop k) = some (ds, j)) (h3 : dList dRow (r.drop (k + j)) = some (rs, i)) (h4 : (r.drop (k + j + i)).length = 0) : dSnap2 r = some (ns, ds, rs) := by
  unfold dSnap2; rw [h]; simp only [h2, h3, if_pos h4]
set_option maxHeartbeats 4000000 in
set_option maxRecDepth 100000 in
theorem snap_81 {w0 w : World} {P : Nat} {A : Option Addr} {c : Nat} {bs : List Int} {r : List Int} {ea : Addr} (h : PL w0 w P A c bs 0) (hE : HasE w0 ea) (hbs : bs = 81 :: r) :
      Calls Tryz.prog 20 #[.agg #[.pointer (some ⟨P, 0, none⟩)]] w (SnapPost w P ea (dSnap2 r)) := by
  have H1 := (h.alloc (.cells #[.pointer (some ⟨P, 0, none⟩)] 82)).alloc (.cells #[.int .i64 0, .int .i64 0, .int .i64 0, .int .i64 0, .slice none 0 0, .slice none 0 0] 26)
  obtain ⟨A1, c1, hl1, hr1, hcall1⟩ := rest_calls H1
  have hN := fun m => rest_calls (H1.drewN m)
  have hlen : (bs.drop 0).length = r.length + 1 := by rw [hbs]; simp
  have hP := h.lt
  have hw0 := h.bel.size
  have HH1 := Aside0.mk H1
  have hm := h.sz
  have hg1 : (((bs.drop 0).length : Int) == 0) = false := by rw [hlen]; exact beq_eq_false_iff_ne.mpr (by omega)
  have hi0 : (0 : Int) < ((bs.drop 0).length : Int) := by rw [hlen]; omega
  have hb1 : 1 ≤ bs.length := by rw [hbs]; simp
  have HB := Aside0.mk hbs
  clear hr1 hl1 h H1 hlen hbs
  generalize hlen : (bs.drop 0).length = n at *
  clear hlen
  go_enter Tryz.func20, Tryz.ntmps20
  go_wp2_with fail
  refine hcall1.mono ?_
  rintro e w1 ⟨rfl, ⟨m1, rfl⟩⟩
  clear hcall1
  go_wp2_with fail
  obtain ⟨A2, c2, hl2, hr2, hcall2⟩ := hN m1
  clear hN
  refine hcall2.mono ?_
  rintro e w1 ⟨rfl, ⟨m2, rfl⟩⟩
  clear hcall2
  obtain ⟨ad, rfl, hcell⟩ := (hr2.below HH1.out.bel).2.2 (by omega)
  have k0 := hcell 0 (by omega)
  rw [show (List.drop 0 bs).getD 0 0 = 81 by rw [HB.out]; rfl, addz] at k0
  have hc1 := HH1.out.c1
  have hz1 := HH1.out.z1
  clear hcell hr2 hl2
  go_wp2_with fail
  clear k0 hc1 hz1
  have HPS := Aside0.mk ((((HH1.out.drewN (m1 + m2)).set 1 hb1).alloc (.cells #[.int .i64 0] 3)).alloc (.cells #[.pointer (some ⟨w.heap.size + 1, 0, none⟩), .pointer (some ⟨w.heap.size + 1, 1, none⟩), .pointer (some ⟨w.heap.size + 1, 2, none⟩), .pointer (some ⟨w.heap.size + 1 + 1, 0, none⟩)] 115))
  have HGS := Aside0.mk (gb_trans (gb_trans (gb_trans (gb_trans (gb_trans (gb_alloc w (.cells #[.pointer (some ⟨P, 0, none⟩)] 82) P) (gb_alloc _ (.cells #[.int .i64 0, .int .i64 0, .int .i64 0, .int .i64 0, .slice none 0 0, .slice none 0 0] 26) _)) (gb_drewN _ (m1 + m2) _)) (gb_set _ _ 1 (.int .i64 1))) (gb_alloc _ (.cells #[.int .i64 0] 3) _)) (gb_alloc _ (.cells #[.pointer (some ⟨w.heap.size + 1, 0, none⟩), .pointer (some ⟨w.heap.size + 1, 1, none⟩), .pointer (some ⟨w.heap.size + 1, 2, none⟩), .pointer (some ⟨w.heap.size + 1 + 1, 0, none⟩)] 115) _))
  go_loopw [3, 35] (fun v3 v35 wr => ∃ (i : Nat) (ns : List Int) (k : Nat), i ≤ 4 ∧ v3 = .nilIface ∧ v35 = .int .i64 (i : Int) ∧ Aside0 (RepInv dNum r 4 i ns k) ∧ Aside0 (ns.length = i) ∧ Aside0 (S4 w wr P ns) ∧ Aside0 (w.grownBy wr (some P)) ∧ Aside0 (PL w0 wr P A c bs (1 + k))) (fun _ v35 _ => 4 - (intOf v35).toNat)
  case atStart =>
    refine ⟨0, [], 0, Nat.zero_le _, rfl, rfl, ⟨RepInv.start _ _ _⟩, ⟨rfl⟩, ⟨?_⟩, HGS, HPS⟩
    have e1 : ∀ (x y : World) (o : Obj), (x.alloc o).heap.size = x.heap.size + 1 := fun x y o => by simp
    refine ⟨?_, ?_, ?_, ?_⟩
    · exact blk_box (blk_box (blk_far (w := ((w.alloc _).alloc _).drewN _) (blk_box (blk_new w _)) (by simp; omega) _))
    · exact blk_box (blk_box (blk_far (w := ((w.alloc _).alloc _).drewN _) (by have := blk_new (w.alloc (.cells #[.pointer (some ⟨P, 0, none⟩)] 82)) (.cells #[.int .i64 0, .int .i64 0, .int .i64 0, .int .i64 0, .slice none 0 0, .slice none 0 0] 26); simpa using this) (by simp; omega) _))
    · refine blk_box ?_
      have := blk_new ((((w.alloc (.cells #[.pointer (some ⟨P, 0, none⟩)] 82)).alloc (.cells #[.int .i64 0, .int .i64 0, .int .i64 0, .int .i64 0, .slice none 0 0, .slice none 0 0] 26)).drewN (m1 + m2)).setCell ⟨P, 1, none⟩ (.int .i64 1)) (.cells #[.int .i64 0] 3)
      simpa [World.setCell] using this
    · have := blk_new (((((w.alloc (.cells #[.pointer (some ⟨P, 0, none⟩)] 82)).alloc (.cells #[.int .i64 0, .int .i64 0, .int .i64 0, .int .i64 0, .slice none 0 0, .slice none 0 0] 26)).drewN (m1 + m2)).setCell ⟨P, 1, none⟩ (.int .i64 1)).alloc (.cells #[.int .i64 0] 3)) (.cells #[.pointer (some ⟨w.heap.size + 1, 0, none⟩), .pointer (some ⟨w.heap.size + 1, 1, none⟩), .pointer (some ⟨w.heap.size + 1, 2, none⟩), .pointer (some ⟨w.heap.size + 1 + 1, 0, none⟩)] 115)
      simpa [World.setCell] using this
  case round =>
    obtain ⟨i, ns, k, hi, rfl, rfl, HI, HL, HS, HG, HPL⟩ := hrel
    clear HPS HGS
    have hdr : bs.drop (1 + k) = r.drop k := by rw [HB.out, Nat.add_comm, List.drop_succ_cons]
    by_cases h4 : i < 4
    · have hi4 : i = 0 ∨ i = 1 ∨ i = 2 ∨ i = 3 := by omega
      have hnum0 := fun (n : Int) (rs : List Int) (hq : take4 (r.drop k) = some (n, rs)) => num_some HPL.out (hdr ▸ hq)
      have hnum1 := fun (hq : take4 (r.drop k) = none) => num_none HPL.out hE (hdr ▸ hq)
      have hbx := (blk_cell HS.out.b0 0).trans rfl
      clear hdr
      rcases hi4 with rfl | rfl | rfl | rfl
      · obtain rfl : ns = [] := List.eq_nil_of_length_eq_zero HL.out
        have hp3 : wr.cell? ⟨w.heap.size + 1 + 1 + 1, 0, none⟩ = some (.pointer (some ⟨w.heap.size + 1, 0, none⟩)) := (blk_cell HS.out.b3 0).trans rfl
        cases hq : take4 (r.drop k) with
        | none =>
          have hnum := hnum1 hq
          have HD := Aside0.mk (dSnap2_n (HI.out.none (by decide) (dNum_none hq)))
          clear hnum0 hnum1 hq
          go_wp2_with fail
          refine hnum.mono ?_
          rintro e w3 ⟨rfl, hb3⟩
          clear hnum hbx hp3
          have hg3 := gb_below (P := P) hb3
          have hs3 := HS.out.grown hg3 hP
          have hc0 := (blk_cell hs3.b1 0).trans rfl
          have hc1 := (blk_cell hs3.b1 1).trans rfl
          have hc2 := (blk_cell hs3.b1 2).trans rfl
          have hc3 := (blk_cell hs3.b1 3).trans rfl
          have hc4 := (blk_cell hs3.b1 4).trans rfl
          have hc5 := (blk_cell hs3.b1 5).trans rfl
          have hz0 := blk_frozen hs3.b1 0
          have hz1 := blk_frozen hs3.b1 1
          have hz2 := blk_frozen hs3.b1 2
          have hz3 := blk_frozen hs3.b1 3
          have hz4 := blk_frozen hs3.b1 4
          have hz5 := blk_frozen hs3.b1 5
          have hd0 := (blk_cell hs3.b2 0).trans rfl
          have hy0 := blk_frozen hs3.b2 0
          have hl2 := blk_lt hs3.b2
          have HS3 := Aside0.mk hs3
          have HG3 := Aside0.mk (gb_trans HG.out hg3)
          clear hs3 hg3 hb3 HS HG
          go_wp2
          refine bodyPost_ret (results_ct rfl _ _ (w.heap.size + 1) 26 _ (0, 0) _ rfl (put6 (blk_put HS3.out.b1 0 _ rfl) _ _ _ _ _ _) Tryz.underlying26 rfl (by kernel_rfl)) rfl (SnapPost.bad HD.out (gb_put6 (gb_put1 HG3.out (by omega) _) (by omega) _ _ _ _ _ _) rfl)
        | some q =>
          obtain ⟨n, rs⟩ := q
          have hnum := hnum0 n rs hq
          have HI' := Aside0.mk (HI.out.step (by decide) (dNum_some hq))
          clear hnum0 hnum1 hq
          go_wp2_with fail
          refine hnum.mono ?_
          rintro e w3 ⟨rfl, hg3, hp3'⟩
          clear hnum hbx hp3
          have hs3 := HS.out.grown hg3 hP
          have hcl := (blk_cell hs3.b1 0).trans rfl
          have hfz := blk_frozen hs3.b1 0
          have HS3 := Aside0.mk hs3
          have HG3 := Aside0.mk (gb_trans HG.out hg3)
          have HP3 := Aside0.mk hp3'
          clear hs3 hg3 hp3' HS HG HPL
          go_wp2
          refine ⟨⟨1, [n], k + 4, by decide, rfl, rfl, HI', ⟨rfl⟩, ⟨blk_far HS3.out.b0 (by simp; try omega) _, blk_put HS3.out.b1 0 _ rfl, blk_far HS3.out.b2 (by simp) _, blk_far HS3.out.b3 (by simp; try omega) _⟩, ⟨gb_put1 HG3.out (by omega) _⟩, ⟨by have := HP3.out.put1 (g := w.heap.size + 1) (j := 0) (by omega) (by omega) (.int .i64 n); rw [show 1 + (k + 4) = 1 + k + 4 by omega]; exact this⟩⟩, by simp [intOf]⟩
      · obtain ⟨n0, rfl⟩ : ∃ n0, ns = [n0] := by
          match ns, HL.out with
          | [n0], _ => exact ⟨n0, rfl⟩
        have hp3 : wr.cell? ⟨w.heap.size + 1 + 1 + 1, 1, none⟩ = some (.pointer (some ⟨w.heap.size + 1, 1, none⟩)) := (blk_cell HS.out.b3 1).trans rfl
        cases hq : take4 (r.drop k) with
        | none =>
          have hnum := hnum1 hq
          have HD := Aside0.mk (dSnap2_n (HI.out.none (by decide) (dNum_none hq)))
          clear hnum0 hnum1 hq
          go_wp2_with fail
          refine hnum.mono ?_
          rintro e w3 ⟨rfl, hb3⟩
          clear hnum hbx hp3
          have hg3 := gb_below (P := P) hb3
          have hs3 := HS.out.grown hg3 hP
          have hc0 := (blk_cell hs3.b1 0).trans rfl
          have hc1 := (blk_cell hs3.b1 1).trans rfl
          have hc2 := (blk_cell hs3.b1 2).trans rfl
          have hc3 := (blk_cell hs3.b1 3).trans rfl
          have hc4 := (blk_cell hs3.b1 4).trans rfl
          have hc5 := (blk_cell hs3.b1 5).trans rfl
          have hz0 := blk_frozen hs3.b1 0
          have hz1 := blk_frozen hs3.b1 1
          have hz2 := blk_frozen hs3.b1 2
          have hz3 := blk_frozen hs3.b1 3
          have hz4 := blk_frozen hs3.b1 4
          have hz5 := blk_frozen hs3.b1 5
          have hd0 := (blk_cell hs3.b2 0).trans rfl
          have hy0 := blk_frozen hs3.b2 0
          have hl2 := blk_lt hs3.b2
          have HS3 := Aside0.mk hs3
          have HG3 := Aside0.mk (gb_trans HG.out hg3)
          clear hs3 hg3 hb3 HS HG
          go_wp2
          refine bodyPost_ret (results_ct rfl _ _ (w.heap.size + 1) 26 _ (0, 0) _ rfl (put6 (blk_put HS3.out.b1 1 _ rfl) _ _ _ _ _ _) Tryz.underlying26 rfl (by kernel_rfl)) rfl (SnapPost.bad HD.out (gb_put6 (gb_put1 HG3.out (by omega) _) (by omega) _ _ _ _ _ _) rfl)
        | some q =>
          obtain ⟨n, rs⟩ := q
          have hnum := hnum0 n rs hq
          have HI' := Aside0.mk (HI.out.step (by decide) (dNum_some hq))
          clear hnum0 hnum1 hq
          go_wp2_with fail
          refine hnum.mono ?_
          rintro e w3 ⟨rfl, hg3, hp3'⟩
          clear hnum hbx hp3
          have hs3 := HS.out.grown hg3 hP
          have hcl := (blk_cell hs3.b1 1).trans rfl
          have hfz := blk_frozen hs3.b1 1
          have HS3 := Aside0.mk hs3
          have HG3 := Aside0.mk (gb_trans HG.out hg3)
          have HP3 := Aside0.mk hp3'
          clear hs3 hg3 hp3' HS HG HPL
          go_wp2
          refine ⟨⟨2, [n0, n], k + 4, by decide, rfl, rfl, HI', ⟨rfl⟩, ⟨blk_far HS3.out.b0 (by simp; try omega) _, blk_put HS3.out.b1 1 _ rfl, blk_far HS3.out.b2 (by simp) _, blk_far HS3.out.b3 (by simp; try omega) _⟩, ⟨gb_put1 HG3.out (by omega) _⟩, ⟨by have := HP3.out.put1 (g := w.heap.size + 1) (j := 1) (by omega) (by omega) (.int .i64 n); rw [show 1 + (k + 4) = 1 + k + 4 by omega]; exact this⟩⟩, by simp [intOf]⟩
      · obtain ⟨n0, n1, rfl⟩ : ∃ n0 n1, ns = [n0, n1] := by
          match ns, HL.out with
          | [n0, n1], _ => exact ⟨n0, n1, rfl⟩
        have hp3 : wr.cell? ⟨w.heap.size + 1 + 1 + 1, 2, none⟩ = some (.pointer (some ⟨w.heap.size + 1, 2, none⟩)) := (blk_cell HS.out.b3 2).trans rfl
        cases hq : take4 (r.drop k) with
        | none =>
          have hnum := hnum1 hq
          have HD := Aside0.mk (dSnap2_n (HI.out.none (by decide) (dNum_none hq)))
          clear hnum0 hnum1 hq
          go_wp2_with fail
          refine hnum.mono ?_
          rintro e w3 ⟨rfl, hb3⟩
          clear hnum hbx hp3
          have hg3 := gb_below (P := P) hb3
          have hs3 := HS.out.grown hg3 hP
          have hc0 := (blk_cell hs3.b1 0).trans rfl
          have hc1 := (blk_cell hs3.b1 1).trans rfl
          have hc2 := (blk_cell hs3.b1 2).trans rfl
          have hc3 := (blk_cell hs3.b1 3).trans rfl
          have hc4 := (blk_cell hs3.b1 4).trans rfl
          have hc5 := (blk_cell hs3.b1 5).trans rfl
          have hz0 := blk_frozen hs3.b1 0
          have hz1 := blk_frozen hs3.b1 1
          have hz2 := blk_frozen hs3.b1 2
          have hz3 := blk_frozen hs3.b1 3
          have hz4 := blk_frozen hs3.b1 4
          have hz5 := blk_frozen hs3.b1 5
          have hd0 := (blk_cell hs3.b2 0).trans rfl
          have hy0 := blk_frozen hs3.b2 0
          have hl2 := blk_lt hs3.b2
          have HS3 := Aside0.mk hs3
          have HG3 := Aside0.mk (gb_trans HG.out hg3)
          clear hs3 hg3 hb3 HS HG
          go_wp2
          refine bodyPost_ret (results_ct rfl _ _ (w.heap.size + 1) 26 _ (0, 0) _ rfl (put6 (blk_put HS3.out.b1 2 _ rfl) _ _ _ _ _ _) Tryz.underlying26 rfl (by kernel_rfl)) rfl (SnapPost.bad HD.out (gb_put6 (gb_put1 HG3.out (by omega) _) (by omega) _ _ _ _ _ _) rfl)
        | some q =>
          obtain ⟨n, rs⟩ := q
          have hnum := hnum0 n rs hq
          have HI' := Aside0.mk (HI.out.step (by decide) (dNum_some hq))
          clear hnum0 hnum1 hq
          go_wp2_with fail
          refine hnum.mono ?_
          rintro e w3 ⟨rfl, hg3, hp3'⟩
          clear hnum hbx hp3
          have hs3 := HS.out.grown hg3 hP
          have hcl := (blk_cell hs3.b1 2).trans rfl
          have hfz := blk_frozen hs3.b1 2
          have HS3 := Aside0.mk hs3
          have HG3 := Aside0.mk (gb_trans HG.out hg3)
          have HP3 := Aside0.mk hp3'
          clear hs3 hg3 hp3' HS HG HPL
          go_wp2
          refine ⟨⟨3, [n0, n1, n], k + 4, by decide, rfl, rfl, HI', ⟨rfl⟩, ⟨blk_far HS3.out.b0 (by simp; try omega) _, blk_put HS3.out.b1 2 _ rfl, blk_far HS3.out.b2 (by simp) _, blk_far HS3.out.b3 (by simp; try omega) _⟩, ⟨gb_put1 HG3.out (by omega) _⟩, ⟨by have := HP3.out.put1 (g := w.heap.size + 1) (j := 2) (by omega) (by omega) (.int .i64 n); rw [show 1 + (k + 4) = 1 + k + 4 by omega]; exact this⟩⟩, by simp [intOf]⟩
      · obtain ⟨n0, n1, n2, rfl⟩ : ∃ n0 n1 n2, ns = [n0, n1, n2] := by
          match ns, HL.out with
          | [n0, n1, n2], _ => exact ⟨n0, n1, n2, rfl⟩
        have hp3 : wr.cell? ⟨w.heap.size + 1 + 1 + 1, 3, none⟩ = some (.pointer (some ⟨w.heap.size + 1 + 1, 0, none⟩)) := (blk_cell HS.out.b3 3).trans rfl
        cases hq : take4 (r.drop k) with
        | none =>
          have hnum := hnum1 hq
          have HD := Aside0.mk (dSnap2_n (HI.out.none (by decide) (dNum_none hq)))
          clear hnum0 hnum1 hq
          go_wp2_with fail
          refine hnum.mono ?_
          rintro e w3 ⟨rfl, hb3⟩
          clear hnum hbx hp3
          have hg3 := gb_below (P := P) hb3
          have hs3 := HS.out.grown hg3 hP
          have hc0 := (blk_cell hs3.b1 0).trans rfl
          have hc1 := (blk_cell hs3.b1 1).trans rfl
          have hc2 := (blk_cell hs3.b1 2).trans rfl
          have hc3 := (blk_cell hs3.b1 3).trans rfl
          have hc4 := (blk_cell hs3.b1 4).trans rfl
          have hc5 := (blk_cell hs3.b1 5).trans rfl
          have hz0 := blk_frozen hs3.b1 0
          have hz1 := blk_frozen hs3.b1 1
          have hz2 := blk_frozen hs3.b1 2
          have hz3 := blk_frozen hs3.b1 3
          have hz4 := blk_frozen hs3.b1 4
          have hz5 := blk_frozen hs3.b1 5
          have hd0 := (blk_cell hs3.b2 0).trans rfl
          have hy0 := blk_frozen hs3.b2 0
          have hl2 := blk_lt hs3.b2
          have HS3 := Aside0.mk hs3
          have HG3 := Aside0.mk (gb_trans HG.out hg3)
          clear hs3 hg3 hb3 HS HG
          go_wp2
          refine bodyPost_ret (results_ct rfl _ _ (w.heap.size + 1) 26 _ (0, 0) _ rfl (put6 (blk_far HS3.out.b1 (by simp) _) _ _ _ _ _ _) Tryz.underlying26 rfl (by kernel_rfl)) rfl (SnapPost.bad HD.out (gb_put6 (gb_put1 HG3.out (by omega) _) (by omega) _ _ _ _ _ _) rfl)
        | some q =>
          obtain ⟨n, rs⟩ := q
          have hnum := hnum0 n rs hq
          have HI' := Aside0.mk (HI.out.step (by decide) (dNum_some hq))
          clear hnum0 hnum1 hq
          go_wp2_with fail
          refine hnum.mono ?_
          rintro e w3 ⟨rfl, hg3, hp3'⟩
          clear hnum hbx hp3
          have hs3 := HS.out.grown hg3 hP
          have hcl := (blk_cell hs3.b2 0).trans rfl
          have hfz := blk_frozen hs3.b2 0
          have HS3 := Aside0.mk hs3
          have HG3 := Aside0.mk (gb_trans HG.out hg3)
          have HP3 := Aside0.mk hp3'
          clear hs3 hg3 hp3' HS HG HPL
          go_wp2
          refine ⟨⟨4, [n0, n1, n2, n], k + 4, by decide, rfl, rfl, HI', ⟨rfl⟩, ⟨blk_far HS3.out.b0 (by simp; try omega) _, blk_far HS3.out.b1 (by simp) _, blk_put HS3.out.b2 0 _ rfl, blk_far HS3.out.b3 (by simp; try omega) _⟩, ⟨gb_put1 HG3.out (by omega) _⟩, ⟨by have := HP3.out.put1 (g := w.heap.size + 1 + 1) (j := 0) (by omega) (by omega) (.int .i64 n); rw [show 1 + (k + 4) = 1 + k + 4 by omega]; exact this⟩⟩, by simp [intOf]⟩
    · obtain rfl : i = 4 := by omega
      obtain ⟨n0, n1, n2, n3, rfl⟩ : ∃ n0 n1 n2 n3, ns = [n0, n1, n2, n3] := by
        match ns, HL.out with
        | [n0, n1, n2, n3], _ => exact ⟨n0, n1, n2, n3, rfl⟩
      have HDN := Aside0.mk HI.out.done
      have hmf : ∀ (fn : Fn) (first cap : Array Value) (w : World), (Instr.makeFunc fn first cap).run Tryz.prog w = .ok (.func fn first cap) w := fun _ _ _ _ => rfl
      have hd0 := (blk_cell HS.out.b2 0).trans rfl
      have hs3 := (blk_cell HS.out.b1 3).trans rfl
      have hf3 := blk_frozen HS.out.b1 3
      have hbx := (blk_cell HS.out.b0 0).trans rfl
      have HB0 := Aside0.mk (blk_far (p := ⟨w.heap.size + 1, 3, none⟩) HS.out.b0 (by simp; try omega) (.int .i64 n3))
      have HB1 := Aside0.mk (blk_put HS.out.b1 3 (.int .i64 n3) rfl)
      have HPL4 := Aside0.mk (HPL.out.put1 (g := w.heap.size + 1) (j := 3) (by omega) (by omega) (.int .i64 n3))
      have HG4 := Aside0.mk (gb_put1 (j := 3) HG.out (g := w.heap.size + 1) (by omega) (.int .i64 n3))
      have hlt : w.heap.size + 1 < wr.heap.size := blk_lt HS.out.b1
      clear HS HG HI HL HPL
      cases hd : dList (dList cutV) (r.drop k) with
      | none =>
        have hcall := list39_none HPL4.out HB0.out (by omega) hE (hdr ▸ hd)
        have HD := Aside0.mk (dSnap2_d HDN.out hd)
        clear hd
        go_wp2_with fail
        refine hcall.mono ?_
        rintro e w4 ⟨rfl, hg4⟩
        clear hcall hmf hd0 hs3 hf3 hbx
        have hb1 := gb_blk HB1.out hg4 (by omega)
        have hc0 := (blk_cell hb1 0).trans rfl
        have hz0 := blk_frozen hb1 0
        have hc1 := (blk_cell hb1 1).trans rfl
        have hz1 := blk_frozen hb1 1
        have hc2 := (blk_cell hb1 2).trans rfl
        have hz2 := blk_frozen hb1 2
        have hc3 := (blk_cell hb1 3).trans rfl
        have hz3 := blk_frozen hb1 3
        have hc4 := (blk_cell hb1 4).trans rfl
        have hz4 := blk_frozen hb1 4
        have hc5 := (blk_cell hb1 5).trans rfl
        have hz5 := blk_frozen hb1 5
        have HB1' := Aside0.mk hb1
        have HG5 := Aside0.mk (gb_trans HG4.out hg4)
        clear hb1 hg4 HB1 HG4
        go_wp2
        refine bodyPost_ret (results_ct rfl _ _ (w.heap.size + 1) 26 _ (0, 0) _ rfl (put6 (blk_put HB1'.out 4 _ rfl) _ _ _ _ _ _) Tryz.underlying26 rfl (by kernel_rfl)) rfl (SnapPost.bad HD.out (gb_put6 (gb_put1 HG5.out (by omega) _) (by omega) _ _ _ _ _ _) rfl)
      | some q =>
        obtain ⟨ds, j⟩ := q
        have hcall := list39_some HPL4.out HB0.out (by omega) (hdr ▸ hd)
        have HD4 := Aside0.mk hd
        clear hd
        go_wp2_with fail
        refine hcall.mono ?_
        rintro e w4 ⟨Ad, cd, rfl, hrd, hg4, hp4⟩
        clear hcall hd0 hs3 hf3 hbx
        have hb1 := gb_blk HB1.out hg4 (by omega)
        have hs4 := (blk_cell hb1 4).trans rfl
        have hf4 := blk_frozen hb1 4
        have hlt4 : w.heap.size + 1 < w4.heap.size := blk_lt hb1
        have hbx := (blk_cell (gb_blk HB0.out hg4 (by omega)) 0).trans rfl
        have HB5 := Aside0.mk (blk_put hb1 4 (.slice Ad ds.length cd) rfl)
        have HPL5 := Aside0.mk (hp4.put1 (g := w.heap.size + 1) (j := 4) (by omega) (by omega) (.slice Ad ds.length cd))
        have HG5 := Aside0.mk (gb_put1 (j := 4) (gb_trans HG4.out hg4) (g := w.heap.size + 1) (by omega) (.slice Ad ds.length cd))
        have HB05 := Aside0.mk (blk_far (p := ⟨w.heap.size + 1, 4, none⟩) (gb_blk HB0.out hg4 (by omega)) (by simp; try omega) (.slice Ad ds.length cd))
        have HRD := Aside0.mk (R_put1 (g := w.heap.size + 1) (j := 4) hrd (by simp; try omega) (.slice Ad ds.length cd))
        have hdr5 : bs.drop (1 + k + j) = r.drop (k + j) := by rw [HB.out, show 1 + k + j = (k + j) + 1 by omega, List.drop_succ_cons]
        clear hb1 hg4 hp4 hrd HB1 HG4 HPL4 HB0 hdr
        cases hd : dList dRow (r.drop (k + j)) with
        | none =>
          have hcall := list43_none HPL5.out hE (hdr5 ▸ hd)
          have HD := Aside0.mk (dSnap2_r HDN.out HD4.out hd)
          clear hd
          go_wp2_with fail
          refine hcall.mono ?_
          rintro e w5 ⟨rfl, hg5⟩
          clear hcall hmf hs4 hf4 hbx
          have hb1 := gb_blk HB5.out hg5 (by simp; try omega)
          have hc0 := (blk_cell hb1 0).trans rfl
          have hz0 := blk_frozen hb1 0
          have hc1 := (blk_cell hb1 1).trans rfl
          have hz1 := blk_frozen hb1 1
          have hc2 := (blk_cell hb1 2).trans rfl
          have hz2 := blk_frozen hb1 2
          have hc3 := (blk_cell hb1 3).trans rfl
          have hz3 := blk_frozen hb1 3
          have hc4 := (blk_cell hb1 4).trans rfl
          have hz4 := blk_frozen hb1 4
          have hc5 := (blk_cell hb1 5).trans rfl
          have hz5 := blk_frozen hb1 5
          have HB1' := Aside0.mk hb1
          have HG6 := Aside0.mk (gb_trans HG5.out hg5)
          clear hb1 hg5 HB5 HG5
          go_wp2
          refine bodyPost_ret (results_ct rfl _ _ (w.heap.size + 1) 26 _ (0, 0) _ rfl (put6 (blk_put HB1'.out 5 _ rfl) _ _ _ _ _ _) Tryz.underlying26 rfl (by kernel_rfl)) rfl (SnapPost.bad HD.out (gb_put6 (gb_put1 HG6.out (by omega) _) (by omega) _ _ _ _ _ _) rfl)
        | some q =>
          obtain ⟨rws, m⟩ := q
          have hcall := list43_some HPL5.out (hdr5 ▸ hd)
          have HD5 := Aside0.mk hd
          clear hd hdr5
          go_wp2_with fail
          refine hcall.mono ?_
          rintro e w5 ⟨Ar, cr, rfl, hrr, hg5, hp5⟩
          clear hcall hmf hs4 hf4 hbx
          have hb1 := gb_blk HB5.out hg5 (by simp; try omega)
          have hs5 := (blk_cell hb1 5).trans rfl
          have hf5 := blk_frozen hb1 5
          have hlt5 : w.heap.size + 1 < w5.heap.size := blk_lt hb1
          have hbx := (blk_cell (gb_blk HB05.out hg5 (by simp; try omega)) 0).trans rfl
          have HB6 := Aside0.mk (blk_put hb1 5 (.slice Ar rws.length cr) rfl)
          have hPL6 := hp5.put1 (g := w.heap.size + 1) (j := 5) (by omega) (by omega) (.slice Ar rws.length cr)
          have HG6 := Aside0.mk (gb_put1 (j := 5) (gb_trans HG5.out hg5) (g := w.heap.size + 1) (by omega) (.slice Ar rws.length cr))
          have HRR := Aside0.mk (R_put1 (g := w.heap.size + 1) (j := 5) hrr (by simp; try omega) (.slice Ar rws.length cr))
          have HRD6 := Aside0.mk (R_put1 (g := w.heap.size + 1) (j := 5) (R_stay HRD.out hg5 (by simp; try omega)) (by simp; try omega) (.slice Ar rws.length cr))
          have hdr6 : bs.drop (1 + k + j + m) = r.drop (k + j + m) := by rw [HB.out, show 1 + k + j + m = (k + j + m) + 1 by omega, List.drop_succ_cons]
          clear hb1 hg5 hp5 hrr HB5 HG5 HPL5 HB05
          obtain ⟨A9, c9, hl9, hr9, hrest⟩ := rest_calls hPL6
          rw [hdr6] at hrest
          have HP6 := Aside0.mk hPL6
          clear hr9 hl9 hPL6 hdr6
          by_cases hz : (r.drop (k + j + m)).length = 0
          · have HD := Aside0.mk (dSnap2_ok HDN.out HD4.out HD5.out hz)
            rw [hz] at hrest
            go_wp2_with fail
            refine hrest.mono ?_
            rintro e w6 ⟨rfl, ⟨m6, rfl⟩⟩
            clear hrest hs5 hf5 hbx
            have hc0 := (blk_cell HB6.out 0).trans rfl
            have hz0 := blk_frozen HB6.out 0
            have hc1 := (blk_cell HB6.out 1).trans rfl
            have hz1 := blk_frozen HB6.out 1
            have hc2 := (blk_cell HB6.out 2).trans rfl
            have hz2 := blk_frozen HB6.out 2
            have hc3 := (blk_cell HB6.out 3).trans rfl
            have hz3 := blk_frozen HB6.out 3
            have hc4 := (blk_cell HB6.out 4).trans rfl
            have hz4 := blk_frozen HB6.out 4
            have hc5 := (blk_cell HB6.out 5).trans rfl
            have hz5 := blk_frozen HB6.out 5
            go_wp2
            refine bodyPost_ret (results_ct rfl _ _ (w.heap.size + 1) 26 _ (0, 0) _ rfl (put6 (w := World.drewN _ m6) HB6.out _ _ _ _ _ _) Tryz.underlying26 rfl (by kernel_rfl)) rfl ?_
            have hgm := gb_drewN (w5.setCell { block := w.heap.size + 1, off := 5 } (Value.slice Ar rws.length cr)) m6 P
            have hsz : P < w5.heap.size := by omega
            unfold SnapPost
            rw [HD.out]
            refine ⟨gb_put6 (gb_trans HG6.out hgm) (by omega) _ _ _ _ _ _, Ad, cd, Ar, cr, rfl, ?_, ?_⟩
            · exact Kd.R_mono (Kd.R_lower (R_put6 (R_stay HRD6.out hgm (by simp; try omega)) (by simp; try omega) _ _ _ _ _ _) (by simp; try omega)) (fun k hk => Nat.le_trans (by simp; try omega) hk)
            · exact Kd.R_mono (Kd.R_lower (R_put6 (R_stay HRR.out hgm (by simp; try omega)) (by simp; try omega) _ _ _ _ _ _) (by simp; try omega)) (fun k hk => Nat.le_trans (by simp; try omega) hk)
          · have HD := Aside0.mk (dSnap2_l HDN.out HD4.out HD5.out hz)
            have hgt : (0 : Int) < ((r.drop (k + j + m)).length : Int) := by omega
            generalize hnn : (r.drop (k + j + m)).length = nn at *
            clear hnn
            go_wp2_with fail
            refine hrest.mono ?_
            rintro e w6 ⟨rfl, ⟨m6, rfl⟩⟩
            clear hrest hs5 hf5 hbx
            have hE9 : (w5.setCell { block := w.heap.size + 1, off := 5 } (Value.slice Ar rws.length cr)).cell? ⟨0, 0, none⟩ = some (.iface 345 (.pointer (some ea))) := hE.now HP6.out.bel
            have hc0 := (blk_cell HB6.out 0).trans rfl
            have hz0 := blk_frozen HB6.out 0
            have hc1 := (blk_cell HB6.out 1).trans rfl
            have hz1 := blk_frozen HB6.out 1
            have hc2 := (blk_cell HB6.out 2).trans rfl
            have hz2 := blk_frozen HB6.out 2
            have hc3 := (blk_cell HB6.out 3).trans rfl
            have hz3 := blk_frozen HB6.out 3
            have hc4 := (blk_cell HB6.out 4).trans rfl
            have hz4 := blk_frozen HB6.out 4
            have hc5 := (blk_cell HB6.out 5).trans rfl
            have hz5 := blk_frozen HB6.out 5
            go_wp2
            refine bodyPost_ret (results_ct rfl _ _ (w.heap.size + 1) 26 _ (0, 0) _ rfl (put6 (w := World.drewN _ m6) HB6.out _ _ _ _ _ _) Tryz.underlying26 rfl (by kernel_rfl)) rfl (SnapPost.bad HD.out (gb_put6 (gb_trans HG6.out (gb_drewN _ m6 _)) (by omega) _ _ _ _ _ _) rfl)
set_option maxHeartbeats 4000000 in
set_option maxRecDepth 100000 in
theorem snap_nil {w0 w : World} {P : Nat} {A : Option Addr} {c : Nat} {bs : List Int} {ea : Addr} (h : PL w0 w P A c bs 0) (hE : HasE w0 ea) (hbs : bs = []) :
      Calls Tryz.prog 20 #[.agg #[.pointer (some ⟨P, 0, none⟩)]] w (SnapPost w P ea none) := by
  have H1 := (h.alloc (.cells #[.pointer (some ⟨P, 0, none⟩)] 82)).alloc (.cells #[.int .i64 0, .int .i64 0, .int .i64 0, .int .i64 0, .slice none 0 0, .slice none 0 0] 26)
  obtain ⟨A1, c1, hl1, hr1, hcall1⟩ := rest_calls H1
  have hN := fun m => rest_calls (H1.drewN m)
  have hP := h.lt
  have hw0 := h.bel.size
  have HH1 := Aside0.mk H1
  have hm := h.sz
  have hB1 : ((w.alloc (.cells #[.pointer (some ⟨P, 0, none⟩)] 82)).alloc (.cells #[.int .i64 0, .int .i64 0, .int .i64 0, .int .i64 0, .slice none 0 0, .slice none 0 0] 26)).heap[w.heap.size + 1]? = some (.cells #[.int .i64 0, .int .i64 0, .int .i64 0, .int .i64 0, .slice none 0 0, .slice none 0 0] 26 (0, 0)) := by
    have := blk_new (w.alloc (.cells #[.pointer (some ⟨P, 0, none⟩)] 82)) (.cells #[.int .i64 0, .int .i64 0, .int .i64 0, .int .i64 0, .slice none 0 0, .slice none 0 0] 26)
    simpa using this
  have HB1 := Aside0.mk hB1
  have HG := Aside0.mk (gb_trans (gb_alloc w (.cells #[.pointer (some ⟨P, 0, none⟩)] 82) P) (gb_alloc _ (.cells #[.int .i64 0, .int .i64 0, .int .i64 0, .int .i64 0, .slice none 0 0, .slice none 0 0] 26) _))
  have HEE := Aside0.mk (hE.now H1.bel)
  clear hr1 hl1 h H1 hB1
  have hlen : (bs.drop 0).length = 0 := by rw [hbs]; rfl
  rw [hlen] at hcall1
  go_enter Tryz.func20, Tryz.ntmps20
  go_wp2_with fail
  refine hcall1.mono ?_
  rintro e w1 ⟨rfl, ⟨m1, rfl⟩⟩
  clear hcall1 hN
  have hE9 := HEE.out
  go_wp2
  refine bodyPost_ret (results_ct rfl _ _ (w.heap.size + 1) 26 _ (0, 0) _ rfl (put6 (w := World.drewN _ m1) HB1.out _ _ _ _ _ _) Tryz.underlying26 rfl (by kernel_rfl)) rfl (SnapPost.bad rfl (gb_put6 (gb_trans HG.out (gb_drewN _ m1 _)) (by omega) _ _ _ _ _ _) rfl)
set_option maxHeartbeats 4000000 in
set_option maxRecDepth 100000 in
theorem snap_ne {w0 w : World} {P : Nat} {A : Option Addr} {c : Nat} {bs : List Int} {ea : Addr} (h : PL w0 w P A c bs 0) (hE : HasE w0 ea) {x : Int} {r : List Int} (hbs : bs = x :: r) (hx : x ≠ 81) :
      Calls Tryz.prog 20 #[.agg #[.pointer (some ⟨P, 0, none⟩)]] w (SnapPost w P ea none) := by
  have H1 := (h.alloc (.cells #[.pointer (some ⟨P, 0, none⟩)] 82)).alloc (.cells #[.int .i64 0, .int .i64 0, .int .i64 0, .int .i64 0, .slice none 0 0, .slice none 0 0] 26)
  obtain ⟨A1, c1, hl1, hr1, hcall1⟩ := rest_calls H1
  have hN := fun m => rest_calls (H1.drewN m)
  have hP := h.lt
  have hw0 := h.bel.size
  have HH1 := Aside0.mk H1
  have hm := h.sz
  have hB1 : ((w.alloc (.cells #[.pointer (some ⟨P, 0, none⟩)] 82)).alloc (.cells #[.int .i64 0, .int .i64 0, .int .i64 0, .int .i64 0, .slice none 0 0, .slice none 0 0] 26)).heap[w.heap.size + 1]? = some (.cells #[.int .i64 0, .int .i64 0, .int .i64 0, .int .i64 0, .slice none 0 0, .slice none 0 0] 26 (0, 0)) := by
    have := blk_new (w.alloc (.cells #[.pointer (some ⟨P, 0, none⟩)] 82)) (.cells #[.int .i64 0, .int .i64 0, .int .i64 0, .int .i64 0, .slice none 0 0, .slice none 0 0] 26)
    simpa using this
  have HB1 := Aside0.mk hB1
  have HG := Aside0.mk (gb_trans (gb_alloc w (.cells #[.pointer (some ⟨P, 0, none⟩)] 82) P) (gb_alloc _ (.cells #[.int .i64 0, .int .i64 0, .int .i64 0, .int .i64 0, .slice none 0 0, .slice none 0 0] 26) _))
  have HEE := Aside0.mk (hE.now H1.bel)
  clear hr1 hl1 h H1 hB1
  have hlen : (bs.drop 0).length = r.length + 1 := by rw [hbs]; simp
  have hg1 : (((bs.drop 0).length : Int) == 0) = false := by rw [hlen]; exact beq_eq_false_iff_ne.mpr (by omega)
  have hi0 : (0 : Int) < ((bs.drop 0).length : Int) := by rw [hlen]; omega
  have hge : (x == 81) = false := beq_eq_false_iff_ne.mpr hx
  have HB := Aside0.mk hbs
  clear hlen hbs
  generalize hlen : (bs.drop 0).length = n at *
  clear hlen
  go_enter Tryz.func20, Tryz.ntmps20
  go_wp2_with fail
  refine hcall1.mono ?_
  rintro e w1 ⟨rfl, ⟨m1, rfl⟩⟩
  clear hcall1
  go_wp2_with fail
  obtain ⟨A2, c2, hl2, hr2, hcall2⟩ := hN m1
  clear hN
  refine hcall2.mono ?_
  rintro e w1 ⟨rfl, ⟨m2, rfl⟩⟩
  clear hcall2
  obtain ⟨ad, rfl, hcell⟩ := (hr2.below HH1.out.bel).2.2 (by omega)
  have k0 := hcell 0 (by omega)
  rw [show (List.drop 0 bs).getD 0 0 = x by rw [HB.out]; rfl, addz] at k0
  clear hcell hr2 hl2
  have hE9 := HEE.out
  go_wp2
  refine bodyPost_ret (results_ct rfl _ _ (w.heap.size + 1) 26 _ (0, 0) _ rfl (put6 (w := World.drewN _ (m1 + m2)) HB1.out _ _ _ _ _ _) Tryz.underlying26 rfl (by kernel_rfl)) rfl (SnapPost.bad rfl (gb_put6 (gb_trans HG.out (gb_drewN _ (m1 + m2) _)) (by omega) _ _ _ _ _ _) rfl)
theorem snap_calls {w0 w : World} {P : Nat} {A : Option Addr} {c : Nat} {bs : List Int} {ea : Addr} (h : PL w0 w P A c bs 0) (hE : HasE w0 ea) :
      Calls Tryz.prog 20 #[.agg #[.pointer (some ⟨P, 0, none⟩)]] w (SnapPost w P ea (dSnap bs)) := by
  match hb : bs with
  | [] => exact snap_nil h hE rfl
  | x :: r =>
    by_cases hx : x = 81
    · subst hx
      have : dSnap (81 :: r) = dSnap2 r := by simp only [dSnap, if_true]
      rw [this]
      exact snap_81 h hE rfl
    · have : dSnap (x :: r) = none := by simp only [dSnap, if_neg hx]
      rw [this]
      exact snap_ne h hE rfl hx
end Go.Proofs.YtpidhnnckolapaaGreatDoor.K
namespace Go.Proofs.YtpidhnnckolapaaGreatDoor.K
open Go.RowKit Go.Proofs.YtpidhnnckolapaaGreatDoorW.PrintWords Go.Proofs.YtpidhnnckolapaaGreatDoorW.PrintLast
set_option linter.unusedVariables false
set_option linter.unusedSimpArgs false
def GetPost (w : World) (o : Option (List Int × List (List PA.S45) × List PA.S43)) (e : Ending) (w' : World) : Prop :=
  Below w.heap.size w w' ∧ match o with
    | some q => ∃ A1 c1 A2 c2, e = .returned (.tuple #[.agg #[.int .i64 (q.1.getD 0 0), .int .i64 (q.1.getD 1 0), .int .i64 (q.1.getD 2 0), .int .i64 (q.1.getD 3 0), .slice A1 q.2.1.length c1, .slice A2 q.2.2.length c2], .int .i64 0]) ∧
        Kd.R (Kd.slice 45 PA.k45) 38 w' w.heap.size (new w) (.slice A1 q.2.1.length c1) q.2.1 ∧ Kd.R PA.k43 43 w' w.heap.size (new w) (.slice A2 q.2.2.length c2) q.2.2
    | none => e = .returned (.tuple #[.agg #[.int .i64 0, .int .i64 0, .int .i64 0, .int .i64 0, .slice none 0 0, .slice none 0 0], .int .i64 4])
theorem R_get {α : Type} {d : Kd α} {e : Nat} {w w1 : World} {v : Value} {xs : List α} {o1 o2 o3 : Obj} (h : d.R e w1 ((w.alloc o1).alloc o2).heap.size (new ((w.alloc o1).alloc o2)) v xs) : d.R e (w1.alloc o3) w.heap.size (new w) v xs := by
  have h1 : d.R e (w1.alloc o3) ((w.alloc o1).alloc o2).heap.size (new ((w.alloc o1).alloc o2)) v xs := R_stay h (gb_alloc w1 o3 w.heap.size) (by simp; try omega)
  exact Kd.R_mono (Kd.R_lower h1 (by simp; try omega)) (fun k hk => Nat.le_trans (by simp; try omega) hk)
set_option maxHeartbeats 4000000 in
set_option maxRecDepth 100000 in
theorem Get_calls {w : World} {A : Option Addr} {c : Nat} {bs : List Int} {ea : Addr} (hR : ReadsInt w .u8 A bs.length bs) (hc : bs.length ≤ c) (h8 : ∀ x ∈ bs, 0 ≤ x ∧ x ≤ 255) (hs : bs.length ≤ 100000000000000) (hE : HasE w ea) :
      Calls Tryz.prog 9 #[.slice A bs.length c] w (GetPost w (dSnap bs)) := by
  have hb2 : (((w.alloc (.cells #[.int .i64 0, .int .i64 0, .int .i64 0, .int .i64 0, .slice none 0 0, .slice none 0 0] 26)).alloc (.cells #[.slice A bs.length c, .int .i64 0] 80))).heap[w.heap.size + 1]? = some (.cells #[.slice A bs.length c, .int .i64 ((0 : Nat) : Int)] 80 (0, 0)) := by
    have := blk_new (w.alloc (.cells #[.int .i64 0, .int .i64 0, .int .i64 0, .int .i64 0, .slice none 0 0, .slice none 0 0] 26)) (.cells #[.slice A bs.length c, .int .i64 0] 80)
    simpa using this
  have hPL : PL w ((w.alloc (.cells #[.int .i64 0, .int .i64 0, .int .i64 0, .int .i64 0, .slice none 0 0, .slice none 0 0] 26)).alloc (.cells #[.slice A bs.length c, .int .i64 0] 80)) (w.heap.size + 1) A c bs 0 :=
    ⟨hb2, hR, by omega, below_alloc (below_alloc (Below.refl _ _) _) _, hc, by omega, h8, hs⟩
  have hsnap := snap_calls hPL hE
  have HP := Aside0.mk hPL
  have hg0 := gb_trans (gb_alloc w (.cells #[.int .i64 0, .int .i64 0, .int .i64 0, .int .i64 0, .slice none 0 0, .slice none 0 0] 26) (w.heap.size + 1)) (gb_alloc _ (.cells #[.slice A bs.length c, .int .i64 0] 80) _)
  have HG0 := Aside0.mk hg0
  have HB0 := Aside0.mk (blk_box (o := (.cells #[.slice A bs.length c, .int .i64 0] 80)) (blk_new w (.cells #[.int .i64 0, .int .i64 0, .int .i64 0, .int .i64 0, .slice none 0 0, .slice none 0 0] 26)))
  clear hb2 hPL hg0
  go_enter Tryz.func9, Tryz.ntmps9
  go_wp2_with fail
  refine hsnap.mono ?_
  rintro e w1 ⟨hg1, hq⟩
  clear hsnap
  have hE1 := hE.now (gb_lift (below_alloc (below_alloc (Below.refl _ _) (.cells #[.int .i64 0, .int .i64 0, .int .i64 0, .int .i64 0, .slice none 0 0, .slice none 0 0] 26)) (.cells #[.slice A bs.length c, .int .i64 0] 80)) hg1 (by omega))
  have hb0 := gb_blk HB0.out hg1 (by omega)
  have hlt : w.heap.size + 1 < w1.heap.size := by have := hg1.size; simp at this; omega
  have h00 : 0 < w1.heap.size := by omega
  have hlt' : w.heap.size < w1.heap.size := by omega
  cases hd : dSnap bs with
  | none =>
    rw [hd] at hq
    obtain ⟨a, b, c', d, A1, n1, c1, A2, n2, c2, rfl⟩ := hq
    have his := is_same ea (w1.alloc (.cells #[.int .i64 a, .int .i64 b, .int .i64 c', .int .i64 d, .slice A1 n1 c1, .slice A2 n2 c2] 26))
    have hc0 := (blk_cell hb0 0).trans rfl
    have hc1 := (blk_cell hb0 1).trans rfl
    have hc2 := (blk_cell hb0 2).trans rfl
    have hc3 := (blk_cell hb0 3).trans rfl
    have hc4 := (blk_cell hb0 4).trans rfl
    have hc5 := (blk_cell hb0 5).trans rfl
    have hz0 := blk_frozen hb0 0
    have hz1 := blk_frozen hb0 1
    have hz2 := blk_frozen hb0 2
    have hz3 := blk_frozen hb0 3
    have hz4 := blk_frozen hb0 4
    have hz5 := blk_frozen hb0 5
    have HG1 := Aside0.mk (gb_trans HG0.out hg1)
    have HBB := Aside0.mk hb0
    have HD := Aside0.mk hd
    clear hg1 hb0 hd HG0
    go_wp2_with fail
    refine his.mono ?_
    rintro e w2 ⟨rfl, rfl⟩
    clear his
    go_wp2
    refine bodyPost_ret (results_ct rfl _ _ w.heap.size 26 _ (0, 0) _ rfl (blk_box (put6 HBB.out _ _ _ _ _ _)) Tryz.underlying26 rfl (by kernel_rfl)) rfl ?_
    have hbel : Below w.heap.size w _ := gb_lift (Below.refl _ _) (gb_trans (gb_put6 (g := w.heap.size) HG1.out (by omega) (.int .i64 0) (.int .i64 0) (.int .i64 0) (.int .i64 0) (.slice none 0 0) (.slice none 0 0)) (gb_alloc _ (.cells #[.int .i64 a, .int .i64 b, .int .i64 c', .int .i64 d, .slice A1 n1 c1, .slice A2 n2 c2] 26) _)) (by omega)
    unfold GetPost
    rw [HD.out]
    exact ⟨hbel, rfl⟩
  | some q =>
    rw [hd] at hq
    obtain ⟨A1, c1, A2, c2, rfl, hr1, hr2⟩ := hq
    obtain ⟨q0, q1, q2⟩ := q
    simp only at hr1 hr2 ⊢
    have hc0 := (blk_cell hb0 0).trans rfl
    have hz0 := blk_frozen hb0 0
    have hc1 := (blk_cell hb0 1).trans rfl
    have hz1 := blk_frozen hb0 1
    have hc2 := (blk_cell hb0 2).trans rfl
    have hz2 := blk_frozen hb0 2
    have hc3 := (blk_cell hb0 3).trans rfl
    have hz3 := blk_frozen hb0 3
    have hc4 := (blk_cell hb0 4).trans rfl
    have hz4 := blk_frozen hb0 4
    have hc5 := (blk_cell hb0 5).trans rfl
    have hz5 := blk_frozen hb0 5
    have HG1 := Aside0.mk (gb_trans HG0.out hg1)
    have HBB := Aside0.mk hb0
    have HR1 := Aside0.mk hr1
    have HR2 := Aside0.mk hr2
    generalize hq0 : q0.getD 0 0 = a0 at *
    generalize hq1 : q0.getD 1 0 = a1 at *
    generalize hq2 : q0.getD 2 0 = a2 at *
    generalize hq3 : q0.getD 3 0 = a3 at *
    have HD := Aside0.mk hd
    clear hg1 hb0 hd HG0 hr1 hr2
    have his := is_nil ea (w1.alloc (.cells #[.int .i64 a0, .int .i64 a1, .int .i64 a2, .int .i64 a3, .slice A1 q1.length c1, .slice A2 q2.length c2] 26))
    go_wp2_with fail
    refine his.mono ?_
    rintro e w2 ⟨rfl, rfl⟩
    clear his
    go_wp2
    refine bodyPost_ret (results_ct rfl _ _ w.heap.size 26 _ (0, 0) _ rfl (blk_box (put6 HBB.out _ _ _ _ _ _)) Tryz.underlying26 rfl (by kernel_rfl)) rfl ?_
    have hbel : Below w.heap.size w _ := gb_lift (Below.refl _ _) (gb_trans (gb_put6 (g := w.heap.size) HG1.out (by omega) (.int .i64 a0) (.int .i64 a1) (.int .i64 a2) (.int .i64 a3) (.slice A1 q1.length c1) (.slice A2 q2.length c2)) (gb_alloc _ (.cells #[.int .i64 a0, .int .i64 a1, .int .i64 a2, .int .i64 a3, .slice A1 q1.length c1, .slice A2 q2.length c2] 26) _)) (by omega)
    unfold GetPost
    rw [HD.out]
    refine ⟨hbel, A1, c1, A2, c2, ?_, ?_, ?_⟩
    · simp only [hq0, hq1, hq2, hq3]; rfl
    · exact R_get (R_put6 HR1.out (by simp; try omega) _ _ _ _ _ _)
    · exact R_get (R_put6 HR2.out (by simp; try omega) _ _ _ _ _ _)
end Go.Proofs.YtpidhnnckolapaaGreatDoor.K
