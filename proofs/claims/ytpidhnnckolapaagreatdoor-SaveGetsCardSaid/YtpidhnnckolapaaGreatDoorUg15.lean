/- The law's closed automaton (awake): the maps. -/
import Derived.Deep.AppendLies
import Derived.Lib.SliceRun
import Derived.MapKept
import Derived.Deep.RegionHeld3
import Derived.Deep.QuietTactic
import Derived.BigQuiet
import Derived.RegionTactic
import Derived.Test.YtpidhnnckolapaaGreatDoorUg14
namespace Go.Proofs.YtpidhnnckolapaaGreatDoor.K
open Go.RowKit Go.Proofs.YtpidhnnckolapaaGreatDoorW.PrintWords Go.Proofs.YtpidhnnckolapaaGreatDoorW.PrintLast
set_option linter.unusedVariables false
set_option linter.unusedSimpArgs false
/-- A configuration of the first state, without values, in a block. -/
def CfB (w : World) (g : Nat) : Prop := w.cell? ⟨g, 0, none⟩ = some (.int .i64 0) ∧ w.cell? ⟨g, 1, none⟩ = some (.slice none 0 0)
theorem CfB.below {w w1 : World} {g : Nat} (h : CfB w g) (hb : Below w.heap.size w w1) : CfB w1 g := ⟨pw_cell_below hb h.1, pw_cell_below hb h.2⟩
theorem CfB.far {w : World} {g P j : Nat} (h : CfB w g) (hne : g ≠ P) (u : Value) : CfB (w.setCell ⟨P, j, none⟩ u) g := ⟨by rw [cell_far (by exact hne)]; exact h.1, by rw [cell_far (by exact hne)]; exact h.2⟩
theorem StartAt.cf {w : World} {A : Nat} (h : StartAt w A) : CfB w A := ⟨(blk_cell h 0).trans rfl, (blk_cell h 1).trans rfl⟩
theorem owns2 {w : World} {base e g cap n : Nat} {u0 u1 : Value} (h : w.ownsRow base e 2 (.slice (some ⟨g, 0, none⟩) n cap) n [u0, u1]) : n = 1 ∧ 1 ≤ cap ∧ base ≤ g ∧ w.cell? ⟨g, 0, none⟩ = some u0 ∧ w.cell? ⟨g, 1, none⟩ = some u1 := by
  obtain ⟨h1, h2⟩ := h
  have hn : n = 1 := by simp at h1; omega
  subst hn
  rcases h2 with ⟨hv, _⟩ | ⟨g', cap', cur, hv, hb, hg, hc, _, hs, ht⟩
  · cases hv
  · simp only [Value.slice.injEq, Option.some.injEq, Addr.mk.injEq] at hv
    obtain ⟨⟨rfl, _, _⟩, _, rfl⟩ := hv
    have e0 : cur.toList[0]? = some u0 := by have := congrArg (fun l => l[0]?) ht; simpa [List.getElem?_take] using this
    have e1 : cur.toList[1]? = some u1 := by have := congrArg (fun l => l[1]?) ht; simpa [List.getElem?_take] using this
    refine ⟨rfl, hc, hb, ?_, ?_⟩
    · rw [blk_cell hg 0]; simpa using e0
    · rw [blk_cell hg 1]; simpa using e1
theorem owns_empty {w : World} {base e g : Nat} (hg : w.heap[g]? = some (.cells #[] e (0, 0))) (hb : base ≤ g) : w.ownsRow base e 2 (.slice (some ⟨g, 0, none⟩) 0 0) 0 [] :=
  ⟨rfl, .inr ⟨g, 0, #[], rfl, hb, hg, Nat.le_refl _, Nat.zero_le _, rfl, rfl⟩⟩
theorem info49' : (Tryz.prog.info? 49).map (fun i => (i.zero, i.size, i.bytes)) = some (some (.agg #[(.int .i64 0), (.slice none 0 0)]), 2, 32) := by kernel_rfl
theorem grown_new {w W w1 : World} {g : Nat} (h : Below w.heap.size w W) (hg : W.grownBy w1 (some g)) (hn : w.heap.size ≤ g) : Below w.heap.size w w1 :=
  Below.grown h hg h.size (fun j e => by cases e; exact hn)
set_option maxHeartbeats 4000000 in
set_option maxRecDepth 100000 in
theorem clone49 {w : World} {g c : Nat} (h : CfB w g) : Calls Tryz.prog 141 #[.slice (some ⟨g, 0, none⟩) 1 c] w fun e w' => ∃ g' c', e = .returned (.slice (some ⟨g', 0, none⟩) 1 c') ∧ 1 ≤ c' ∧ w.heap.size ≤ g' ∧ CfB w' g' ∧ Below w.heap.size w w' := by
  obtain ⟨i0, hi, hz0, hz1, hz2⟩ := info_parts info49'
  have hal := below_alloc (Below.refl _ w) (.cells #[] 49)
  have hown : (w.alloc (.cells #[] 49)).ownsRow w.heap.size 49 2 (.slice (some ⟨w.heap.size, 0, none⟩) 0 0) 0 [] := owns_empty (blk_new w _) (Nat.le_refl _)
  have hnew : ∀ (j : Nat) (u : Value), [Value.int .i64 0, Value.slice none 0 0][j]? = some u → (w.alloc (.cells #[] 49)).cell? ((⟨g, 0, none⟩ : Addr).add j) = some u := by
    intro j u hj
    have h' := h.below hal
    have : j = 0 ∨ j = 1 := by have := (List.getElem?_eq_some_iff.1 hj).1; simp at this; omega
    rcases this with rfl | rfl
    · rw [addz]; cases hj; exact h'.1
    · rw [adds]; cases hj; simpa using h'.2
  have HO := Aside0.mk hown
  have HN := Aside0.mk hnew
  have HB := Aside0.mk hal
  clear hown hnew hal h
  have heq := fun (a : Option Addr) (n c : Nat) (w : World) => Go.Lib.run_eql_slice_nil (P := Tryz.prog) w 41 49 a n c 0 0 Tryz.underlying41
  go_enter Tryz.func141, Tryz.ntmps141
  go_wp2_with (first | ((with_reducible refine gate_builtin (b := .append) (xs := #[.tmp 5, .tmp 6]) rfl ?_); at_builtin; go_loud (refine wpList_append_lies _ rfl (.tmp 5) (.tmp 6) 41 rfl w.heap.size 49 i0 _ 2 32 Tryz.underlying41 hi hz0 hz1 hz2 rfl (by decide) (.slice (some ⟨w.heap.size, 0, none⟩) 0 0) 0 [] rfl HO.out ⟨g, 0, none⟩ 1 c [.int .i64 0, .slice none 0 0] rfl rfl HN.out (by simp [Value.oneCell']) (by decide) (by decide) (by decide) (by simp) _ rfl ?_); intro g2 cap w2 ho2 hg2 hat2 hlt2; have HO2 := Aside0.mk ho2; have HG2 := Aside0.mk hg2; clear ho2 hg2 hat2))
  go_ret
  obtain ⟨_, h2, h3, h4, h5⟩ := owns2 HO2.out
  exact ⟨_, _, rfl, h2, h3, ⟨h4, h5⟩, grown_new HB.out HG2.out (Nat.le_refl _)⟩
set_option maxHeartbeats 4000000 in
set_option maxRecDepth 100000 in
theorem clone47 (w : World) : Calls Tryz.prog 108 #[.slice none 0 0] w fun e w' => e = .returned (.slice none 0 0) ∧ w = w' := by
  have heq := fun (a : Option Addr) (n c : Nat) (w : World) => Go.Lib.run_eql_slice_nil (P := Tryz.prog) w 40 47 a n c 0 0 Tryz.underlying40
  go_enter Tryz.func108, Tryz.ntmps108
  go_wp2_with fail
  go_ret
  exact ⟨rfl, rfl⟩
set_option maxHeartbeats 4000000 in
set_option maxRecDepth 100000 in
theorem copied_q {w : World} {g c : Nat} (h : CfB w g) : Calls Tryz.prog 107 #[.slice none 0 0, .slice (some ⟨g, 0, none⟩) 1 c] w fun e w' => ∃ g' c', e = .returned (.agg #[.slice none 0 0, .slice (some ⟨g', 0, none⟩) 1 c']) ∧ 1 ≤ c' ∧ w.heap.size ≤ g' ∧ CfB w' g' ∧ Below w.heap.size w w' := by
  have hal := below_alloc (Below.refl _ w) (.cells #[.slice none 0 0, .slice none 0 0] 43)
  have h1 := clone49 (c := c) (h.below hal)
  have HB := Aside0.mk hal
  have HX := Aside0.mk (blk_new w (.cells #[.slice none 0 0, .slice none 0 0] 43))
  clear hal h
  go_enter Tryz.func107, Tryz.ntmps107
  go_wp2_with fail
  refine (clone47 _).mono ?_
  rintro e w1 ⟨rfl, rfl⟩
  go_wp2_with fail
  refine h1.mono ?_
  rintro e w2 ⟨g2, c2, rfl, hc2, hg2, hcf, hb2⟩
  have hne : g2 ≠ w.heap.size := by simp at hg2; omega
  have hge : w.heap.size ≤ g2 := by simp at hg2; omega
  have HNE := Aside0.mk hne
  clear h1
  have hx := blk_below HX.out hb2
  have hx0 := (blk_cell hx 0).trans (rfl : _ = some (.slice none 0 0 : Value))
  have hx1 := (blk_cell hx 1).trans (rfl : _ = some (.slice none 0 0 : Value))
  have hz0 := blk_frozen hx 0
  have hz1 := blk_frozen hx 1
  have hxl := blk_lt hx
  have HX2 := Aside0.mk hx
  have HB2 := Aside0.mk (below_then HB.out HB.out.size hb2)
  have HCF := Aside0.mk hcf
  have HC2 := Aside0.mk hc2
  clear hx hb2 hcf hc2 hg2 hne
  go_wp2_with fail
  refine bodyPost_ret (results_single rfl (.cell w.heap.size 43 _ (0, 0) _ rfl (put2 HX2.out _ _) Tryz.underlying43 rfl (by kernel_rfl) .nil)) rfl ⟨g2, c2, rfl, HC2.out, hge, (HCF.out.far HNE.out _).far HNE.out _, ?_⟩
  exact (HB2.out.setCell (p := ⟨w.heap.size, 0, none⟩) (Nat.le_refl _) _).setCell (p := ⟨w.heap.size, 1, none⟩) (Nat.le_refl _) _
set_option maxHeartbeats 4000000 in
set_option maxRecDepth 100000 in
theorem Key_q (w : World) : Calls Tryz.prog 106 #[.slice none 0 0] w fun e w' => e = .returned (.string ⟨#[]⟩) ∧ w = w' := by
  have hcv := own_string (P := Tryz.prog) (w := w) (base := w.heap.size) (v := .slice none 0 0) (src := 29) (dst := 9) (e := 5) Tryz.underlying29 Tryz.underlying5 Tryz.underlying9 (Kd.own_of_R (Kd.R_nil (Kd.int .u8) 5 w w.heap.size (new w)))
  go_enter Tryz.func106, Tryz.ntmps106
  go_wp2_with fail
  refine wp_loop_rounds 1 ?_
  rw [rounds_succ]
  go_wp2_with fail
  go_ret
  exact ⟨rfl, rfl⟩
/-- A block of the heap laid anew. -/
def setB (w : World) (a : Nat) (o : Obj) : World := { w with heap := w.heap.setIfInBounds a o }
theorem setB_size (w : World) (a : Nat) (o : Obj) : (setB w a o).heap.size = w.heap.size := by simp [setB]
theorem setB_same {w : World} {a : Nat} {o o' : Obj} (h : w.heap[a]? = some o) : (setB w a o').heap[a]? = some o' := (Go.MapKept.heap_set h).1
theorem setB_far {w : World} {a g : Nat} (o' : Obj) (hne : g ≠ a) : (setB w a o').heap[g]? = w.heap[g]? := by
  simp [setB, Ne.symm hne]
theorem gb_setB (w : World) (a : Nat) (o : Obj) : w.grownBy (setB w a o) (some a) := ⟨rfl, rfl, rfl, by simp [setB], fun k _ hk => setB_far o (fun e => hk (by rw [e]))⟩
theorem below_setB {w0 w : World} {a : Nat} (o : Obj) (h : Below w0.heap.size w0 w) (ha : w0.heap.size ≤ a) : Below w0.heap.size w0 (setB w a o) :=
  Below.grown h (gb_setB w a o) h.size (fun j e => by cases e; exact ha)
theorem cfB_setB {w : World} {a g : Nat} (o : Obj) (hne : g ≠ a) (h : CfB w g) : CfB (setB w a o) g :=
  ⟨(World.cell?_of_block (a := ⟨g, 0, none⟩) (setB_far o hne)).trans h.1, (World.cell?_of_block (a := ⟨g, 1, none⟩) (setB_far o hne)).trans h.2⟩
theorem zero3 (w : World) : (zeroValue 3).run Tryz.prog w = .ok (.int .i64 0) w := by kernel_rfl
theorem zero43 (w : World) : (zeroValue 43).run Tryz.prog w = .ok (.agg #[.slice none 0 0, .slice none 0 0]) w := by kernel_rfl
theorem lk_empty {w : World} {b : Nat} (h : w.heap[b]? = some (.map #[] 0)) : (Instr.lookup 136 (.map (some b)) (.string ⟨#[]⟩) true).run Tryz.prog w = .ok (.tuple #[.int .i64 0, .bool false]) w := by
  simp [Instr.lookup, run_underlying Tryz.underlying136, Go.MapKept.run_getObj_map h, Go.MapKept.run_checkKey Tryz.underlying9 (k := .string ⟨#[]⟩) trivial true 9999, Go.MapKept.run_findKey (w := w) Tryz.underlying9 (k := .string ⟨#[]⟩) (l := []) (a := none) rfl, zero3, Result.andThen]
theorem me135 {w : World} {a : Nat} (h : w.heap[a]? = some (.map #[] 0)) : (Instr.mapEntry 135 (.map (some a)) (.int .i64 1)).run Tryz.prog w = .ok (.tuple #[.agg #[.slice none 0 0, .slice none 0 0], .int .i64 0]) (setB w a (.map #[⟨.int .i64 1, .agg #[.slice none 0 0, .slice none 0 0], 0⟩] 1)) := by
  simp [Instr.mapEntry, run_underlying Tryz.underlying135, Go.MapKept.run_getObj_map h, Go.MapKept.run_checkKey Tryz.underlying3 (k := .int .i64 1) rfl false 9999, Go.MapKept.run_findKey (w := w) Tryz.underlying3 (k := .int .i64 1) (l := []) (a := none) rfl, zero43, Go.MapKept.run_setObj_map _ h, Result.andThen, goInt, setB]
theorem me136 {w : World} {a : Nat} (h : w.heap[a]? = some (.map #[] 0)) : (Instr.mapEntry 136 (.map (some a)) (.string ⟨#[]⟩)).run Tryz.prog w = .ok (.tuple #[.int .i64 0, .int .i64 0]) (setB w a (.map #[⟨.string ⟨#[]⟩, .int .i64 0, 0⟩] 1)) := by
  simp [Instr.mapEntry, run_underlying Tryz.underlying136, Go.MapKept.run_getObj_map h, Go.MapKept.run_checkKey Tryz.underlying9 (k := .string ⟨#[]⟩) trivial false 9999, Go.MapKept.run_findKey (w := w) Tryz.underlying9 (k := .string ⟨#[]⟩) (l := []) (a := none) rfl, zero3, Go.MapKept.run_setObj_map _ h, Result.andThen, goInt, setB]
theorem es_one {t : TypeId} {w : World} {a : Nat} {k z : Value} (v : Value) (h : w.heap[a]? = some (.map #[⟨k, z, 0⟩] 1)) : (Instr.entryStore t (.map (some a)) (.int .i64 0) v).run Tryz.prog w = .ok () (setB w a (.map #[⟨k, v, 0⟩] 1)) := by
  simp [Instr.entryStore, Go.MapKept.run_getObj_map h, asInt, asIntOf, Go.MapKept.run_setObj_map _ h, Result.andThen, setB]
theorem len_map {w : World} {a : Nat} {es : Array MapEntry} {c : Nat} (h : w.heap[a]? = some (.map es c)) : (Builtin.len_ #[135] 3 #[.map (some a)]).run Tryz.prog w = .ok (.int .i64 (es.size : Int)) w := by
  simp [Builtin.len_, run_underlying Tryz.underlying135, Go.MapKept.run_getObj_map h, Result.andThen, goInt]
/-- What the one row that is put leaves. -/
def PutT (w0 w : World) (T a b : Nat) (e : Ending) (w' : World) : Prop := e = .returned (.tuple #[.int .i64 1, .int .i64 0]) ∧ ∃ g' c', 1 ≤ c' ∧ w.heap.size ≤ g' ∧ CfB w' g' ∧ TbAt w' T a b (.map #[⟨.int .i64 1, .agg #[.slice none 0 0, .slice (some ⟨g', 0, none⟩) 1 c'], 0⟩] 1) (.map #[⟨.string ⟨#[]⟩, .int .i64 1, 0⟩] 1) 1 ∧ Below w0.heap.size w0 w' ∧ ∀ k, k < w.heap.size → k ≠ T → k ≠ a → k ≠ b → w'.heap[k]? = w.heap[k]?
theorem TbAt.ca {w : World} {T a b : Nat} {ea eb : Obj} {last : Int} (h : TbAt w T a b ea eb last) (o : Obj) : TbAt (setB w a o) T a b o eb last :=
  ⟨(setB_far o (by have := h.ab; have := h.bt; omega)).trans h.tb, setB_same h.ma, (setB_far o (by have := h.ab; omega)).trans h.mb, h.ab, h.bt⟩
theorem TbAt.cb {w : World} {T a b : Nat} {ea eb : Obj} {last : Int} (h : TbAt w T a b ea eb last) (o : Obj) : TbAt (setB w b o) T a b ea o last :=
  ⟨(setB_far o (by have := h.bt; omega)).trans h.tb, (setB_far o (by have := h.ab; omega)).trans h.ma, setB_same h.mb, h.ab, h.bt⟩
theorem TbAt.drew {w : World} {T a b : Nat} {ea eb : Obj} {last : Int} (h : TbAt w T a b ea eb last) : TbAt w.drew T a b ea eb last := ⟨h.tb, h.ma, h.mb, h.ab, h.bt⟩
theorem TbAt.set {w : World} {T a b : Nat} {ea eb : Obj} {last : Int} (h : TbAt w T a b ea eb last) (n : Int) : TbAt (w.setCell ⟨T, 3, none⟩ (.int .i64 n)) T a b ea eb n :=
  ⟨(blk_set h.tb 3 _).trans rfl, (Below.heap_setCell w ⟨T, 3, none⟩ (.int .i64 n) a (by have := h.ab; have := h.bt; show a ≠ T; omega)).trans h.ma, (Below.heap_setCell w ⟨T, 3, none⟩ (.int .i64 n) b (by have := h.bt; show b ≠ T; omega)).trans h.mb, h.ab, h.bt⟩
theorem TbAt.c0 {w : World} {T a b : Nat} {ea eb : Obj} {last : Int} (h : TbAt w T a b ea eb last) : w.cell? ⟨T, 0, none⟩ = some (.map (some a)) := (blk_cell h.tb 0).trans rfl
theorem TbAt.c1 {w : World} {T a b : Nat} {ea eb : Obj} {last : Int} (h : TbAt w T a b ea eb last) : w.cell? ⟨T, 1, none⟩ = some (.map (some b)) := (blk_cell h.tb 1).trans rfl
theorem TbAt.c2 {w : World} {T a b : Nat} {ea eb : Obj} {last : Int} (h : TbAt w T a b ea eb last) : w.cell? ⟨T, 2, none⟩ = some (.int .i64 3) := (blk_cell h.tb 2).trans rfl
theorem TbAt.c3 {w : World} {T a b : Nat} {ea eb : Obj} {last : Int} (h : TbAt w T a b ea eb last) : w.cell? ⟨T, 3, none⟩ = some (.int .i64 last) := (blk_cell h.tb 3).trans rfl
end Go.Proofs.YtpidhnnckolapaaGreatDoor.K
namespace Go.Proofs.YtpidhnnckolapaaGreatDoor.K
open Go.RowKit Go.Proofs.YtpidhnnckolapaaGreatDoorW.PrintWords Go.Proofs.YtpidhnnckolapaaGreatDoorW.PrintLast
set_option linter.unusedVariables false
set_option linter.unusedSimpArgs false
set_option maxHeartbeats 4000000 in
set_option maxRecDepth 100000 in
theorem Put_t {w0 w : World} {T a b g c : Nat} (h : TbAt w T a b (.map #[] 0) (.map #[] 0) 0) (hg : CfB w g) (hb0 : Below w0.heap.size w0 w) (ha : w0.heap.size ≤ a) : Calls Tryz.prog 57 #[.pointer (some ⟨T, 0, none⟩), .slice none 0 0, .slice (some ⟨g, 0, none⟩) 1 c] w (PutT w0 w T a b) := by
  have ht0 := h.c0
  have ht1 := h.c1
  have ht2 := h.c2
  have ht3 := h.c3
  have hz3 := blk_frozen h.tb 3
  have hTl := blk_lt h.tb
  have hlk := lk_empty h.mb
  have hln := len_map (w := w) h.ma
  have hln1 := len_map (w := w.drew) (es := #[]) (c := 0) h.ma
  have HT := Aside0.mk h
  have HG := Aside0.mk hg
  have HB0 := Aside0.mk hb0
  have hgT : g ≠ T := by
    intro e; subst e
    have := hg.1; rw [ht0] at this; cases this
  have HGT := Aside0.mk hgT
  clear h hg hb0 hgT
  go_enter Tryz.func57, Tryz.ntmps57
  go_wp2_with fail
  refine (Key_q _).mono ?_
  rintro e w1 ⟨rfl, rfl⟩
  go_wp2_with fail
  go_region
  go_wp2_with fail
  have HTQ := Aside0.mk (HT.out.set 1).drew
  have HGQ := Aside0.mk (show CfB (w.setCell ⟨T, 3, none⟩ (.int .i64 1)).drew g from HG.out.far HGT.out _)
  have HBQ := Aside0.mk (below_drew (HB0.out.setCell (p := ⟨T, 3, none⟩) (by have := HT.out.ab; have := HT.out.bt; simp only; omega) (.int .i64 1)))
  have HFQ : Aside0 (∀ k, k < w.heap.size → k ≠ T → (w.setCell ⟨T, 3, none⟩ (.int .i64 1)).drew.heap[k]? = w.heap[k]?) := ⟨fun k _ hk => Below.heap_setCell w ⟨T, 3, none⟩ (.int .i64 1) k hk⟩
  have hsz : (w.setCell ⟨T, 3, none⟩ (.int .i64 1)).drew.heap.size = w.heap.size := by simp [World.setCell, World.drew]
  have HSZ := Aside0.mk hsz
  clear ht0 ht1 ht2 ht3 hz3 hlk hln hln1 hsz
  generalize hWq : (w.setCell ⟨T, 3, none⟩ (.int .i64 1)).drew = wq at *
  clear hWq
  have d0 := HTQ.out.c0
  have d1 := HTQ.out.c1
  have d3 := HTQ.out.c3
  have hTq := blk_lt HTQ.out.tb
  go_region_held3 (fun w' => w'.cell? ⟨T, 0, none⟩ = some (.map (some a)) ∧ w'.cell? ⟨T, 1, none⟩ = some (.map (some b)) ∧ w'.cell? ⟨T, 3, none⟩ = some (.int .i64 1))
    (first | go_keep | exact ⟨HT2.c0, HT2.c1, HT2.c3⟩ | exact ⟨HT3.c0, HT3.c1, HT3.c3⟩ | exact ⟨HT4.c0, HT4.c1, HT4.c3⟩ | exact ⟨HT5.c0, HT5.c1, HT5.c3⟩ | exact ⟨HT6.c0, HT6.c1, HT6.c3⟩)
    (first | (go_at_call 107; refine (copied_q (CfB.below (w1 := wq.drew) HGQ.out ?_)).mono ?_; exact below_drew (Below.refl _ _); rintro e w2 ⟨g2, c2, rfl, hc2, hg2, hcf, hb2⟩; have HG2 := Aside0.mk hg2; have HT2 := HTQ.out.drew.below hb2; have q2 := me135 HT2.ma; have HT3 := HT2.ca (.map #[⟨.int .i64 1, .agg #[.slice none 0 0, .slice none 0 0], 0⟩] 1); have q3 := es_one (t := 135) (.agg #[.slice none 0 0, .slice (some ⟨g2, 0, none⟩) 1 c2]) HT3.ma; have HT4 := HT3.ca (.map #[⟨.int .i64 1, .agg #[.slice none 0 0, .slice (some ⟨g2, 0, none⟩) 1 c2], 0⟩] 1); have q4 := me136 HT4.mb; have HT5 := HT4.cb (.map #[⟨.string ⟨#[]⟩, .int .i64 0, 0⟩] 1); have q5 := es_one (t := 136) (.int .i64 1) HT5.mb; have HT6 := HT5.cb (.map #[⟨.string ⟨#[]⟩, .int .i64 1, 0⟩] 1); have HCF := Aside0.mk hcf; have HB2 := Aside0.mk hb2; have HC2 := Aside0.mk hc2; clear hcf hb2 hc2 hg2))
  have x3 := HT6.c3
  have hTl6 := blk_lt HT6.tb
  have H6 := Aside0.mk HT6
  clear HT2 HT3 HT4 HT5 HT6 q2 q3 q4 q5 d0 d1 d3
  go_wp2_with fail
  go_ret2
  have hsz : wq.drew.heap.size = wq.heap.size := rfl
  have h2 := HG2.out
  have hab := HTQ.out.ab
  have hbt := HTQ.out.bt
  have hq := HSZ.out
  rw [hsz] at h2
  have hbl := blk_lt HTQ.out.tb
  refine ⟨rfl, g2, c2, HC2.out, by omega, ?_, H6.out, ?_, ?_⟩
  · exact cfB_setB _ (by omega) (cfB_setB _ (by omega) (cfB_setB _ (by omega) (cfB_setB _ (by omega) HCF.out)))
  · have hlow := below_then (below_drew HBQ.out) (by rw [hsz]; exact HBQ.out.size) HB2.out
    exact below_setB _ (below_setB _ (below_setB _ (below_setB _ hlow ha) ha) (by omega)) (by omega)
  · intro k hk hkT hka hkb
    rw [setB_far _ hkb, setB_far _ hkb, setB_far _ hka, setB_far _ hka]
    exact (HB2.out.block k (by rw [hsz]; omega)).trans (HFQ.out k hk hkT)
end Go.Proofs.YtpidhnnckolapaaGreatDoor.K
namespace Go.Proofs.YtpidhnnckolapaaGreatDoor.K
open Go.RowKit Go.Proofs.YtpidhnnckolapaaGreatDoorW.PrintWords Go.Proofs.YtpidhnnckolapaaGreatDoorW.PrintLast
set_option linter.unusedVariables false
set_option linter.unusedSimpArgs false
set_option maxHeartbeats 4000000 in
set_option maxRecDepth 100000 in
theorem Add_nil (w : World) (id : Int) : Calls Tryz.prog 58 #[.pointer none, .int .i64 id, .slice none 0 0] w fun e w' => e = .returned (.bool false) ∧ Below w.heap.size w w' := by
  go_enter Tryz.func58, Tryz.ntmps58
  go_wp2_with fail
  go_ret
  exact ⟨rfl, below_alloc (below_alloc (Below.refl _ _) _) _⟩
/-- What engine's put leaves. -/
def PutE (w0 w : World) (T a b : Nat) (e : Ending) (w' : World) : Prop := e = .returned (.tuple #[]) ∧ ∃ g' c', 1 ≤ c' ∧ CfB w' g' ∧ TbAt w' T a b (.map #[⟨.int .i64 1, .agg #[.slice none 0 0, .slice (some ⟨g', 0, none⟩) 1 c'], 0⟩] 1) (.map #[⟨.string ⟨#[]⟩, .int .i64 1, 0⟩] 1) 1 ∧ Below w0.heap.size w0 w' ∧ ∀ k, k < w.heap.size → k ≠ T → k ≠ a → k ≠ b → w'.heap[k]? = w.heap[k]?
set_option maxHeartbeats 4000000 in
set_option maxRecDepth 100000 in
theorem put_m {w0 w : World} {M T a b g c : Nat} (hm14 : w.cell? ⟨M, 14, none⟩ = some (.pointer (some ⟨T, 0, none⟩))) (hm15 : w.cell? ⟨M, 15, none⟩ = some (.pointer none)) (h : TbAt w T a b (.map #[] 0) (.map #[] 0) 0) (hg : CfB w g) (hb0 : Below w0.heap.size w0 w) (ha : w0.heap.size ≤ a) (hMT : M ≠ T) (hMa : M ≠ a) (hMb : M ≠ b) : Calls Tryz.prog 33 #[.pointer (some ⟨M, 0, none⟩), .agg #[.slice none 0 0, .slice (some ⟨g, 0, none⟩) 1 c]] w fun e w' => PutE w0 w T a b e w' := by
  have hal := below_alloc (Below.refl _ w) (.cells #[.slice none 0 0, .slice (some ⟨g, 0, none⟩) 1 c] 43)
  have HX := Aside0.mk (blk_new w (.cells #[.slice none 0 0, .slice (some ⟨g, 0, none⟩) 1 c] 43))
  have hMl := World.block_lt_of_cell? w _ hm14
  simp only at hMl
  have HT := Aside0.mk (h.below hal).drew
  have HG := Aside0.mk (show CfB (w.alloc (.cells #[.slice none 0 0, .slice (some ⟨g, 0, none⟩) 1 c] 43)).drew g from hg.below (below_drew hal))
  have HB := Aside0.mk (below_drew (below_alloc hb0 (.cells #[.slice none 0 0, .slice (some ⟨g, 0, none⟩) 1 c] 43)))
  have HTl := Aside0.mk (blk_lt h.tb)
  have HAL := Aside0.mk hal
  clear h hg hb0 hal
  go_enter Tryz.func33, Tryz.ntmps33
  go_wp2_with fail
  go_region_held3 (fun w' => w'.cell? ⟨M, 14, none⟩ = some (.pointer (some ⟨T, 0, none⟩)) ∧ w'.cell? ⟨w.heap.size, 0, none⟩ = some (.slice none 0 0) ∧ w'.cell? ⟨w.heap.size, 1, none⟩ = some (.slice (some ⟨g, 0, none⟩) 1 c))
    (first | go_keep | exact ⟨hn14, hnx0, hnx1⟩)
    (first | (go_at_call 57; refine (Put_t HT.out HG.out HB.out ha).mono ?_; rintro e w2 ⟨rfl, g2, c2, hc2, hg2, hcf, htb, hbl, hfr⟩; have hblkM : w2.heap[M]? = w.heap[M]? := (hfr M (by simp [World.drew]; omega) hMT hMa hMb).trans (HAL.out.block M hMl); have hblkX := (hfr w.heap.size (by simp [World.drew]) (by have := HTl.out; omega) (by have := HTl.out; have := htb.ab; have := htb.bt; omega) (by have := HTl.out; have := htb.bt; omega)).trans HX.out; have hn14 : w2.cell? ⟨M, 14, none⟩ = some (.pointer (some ⟨T, 0, none⟩)) := (World.cell?_of_block (a := ⟨M, 14, none⟩) hblkM).trans hm14; have hn15 : w2.cell? ⟨M, 15, none⟩ = some (.pointer none) := (World.cell?_of_block (a := ⟨M, 15, none⟩) hblkM).trans hm15; have hnx0 := (blk_cell hblkX 0).trans (rfl : _ = some (.slice none 0 0 : Value)); have hnx1 := (blk_cell hblkX 1).trans (rfl : _ = some (.slice (some ⟨g, 0, none⟩) 1 c : Value)); have hxl2 := blk_lt hblkX; have HQ := Aside0.mk hcf; have HQT := Aside0.mk htb; have HQB := Aside0.mk hbl; have HQF := Aside0.mk hfr; have HQC := Aside0.mk hc2; clear hcf htb hbl hfr hc2 hg2 hblkM hblkX))
  go_wp2_with fail
  go_region_held3 (fun w' => w'.cell? ⟨M, 15, none⟩ = some (.pointer none) ∧ w'.cell? ⟨w.heap.size, 0, none⟩ = some (.slice none 0 0))
    (first | go_keep | exact ⟨hp15, hpx0⟩)
    (first | (go_at_call 58; refine (Add_nil _ _).mono ?_; rintro e w3 ⟨rfl, hb3⟩; have hb3' := below_then (below_drew (Below.refl _ w2)) (Nat.le_refl _) hb3; have hp15 := pw_cell_below hb3' hn15; have hpx0 := pw_cell_below hb3' hnx0; have HB3 := Aside0.mk hb3'; clear hb3 hb3'))
  go_wp2_with fail
  (first | go_end0 | ((try simp only [Exit.inBlock, Exit.then]); refine bodyPost_ret (results_none rfl _ _ _) rfl ?_))
  refine ⟨rfl, g2, c2, HQC.out, HQ.out.below HB3.out, HQT.out.below HB3.out, below_then HQB.out HQB.out.size HB3.out, ?_⟩
  intro k hk hkT hka hkb
  have hlt2 : k < w2.heap.size := by omega
  exact (HB3.out.block k hlt2).trans ((HQF.out k (by simp [World.drew]; omega) hkT hka hkb).trans (HAL.out.block k hk))
end Go.Proofs.YtpidhnnckolapaaGreatDoor.K
