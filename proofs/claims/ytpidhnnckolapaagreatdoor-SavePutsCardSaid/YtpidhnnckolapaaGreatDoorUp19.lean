/- The snap that SavePuts is handed is opened; the row's laid cells give the words and the sentinel. -/
import Derived.OpenShut
import Derived.Deep.Slices
import Derived.ChangeSame
import Derived.RowKit
import Derived.KernelRfl
import Derived.Stop.LaidErr
import Derived.LaidSub
import Derived.Test.YtpidhnnckolapaaGreatDoorUp18
import Derived.Test.YtpidhnnckolapaaGreatDoorRows
namespace Go.Proofs.YtpidhnnckolapaaGreatDoor.K
open Go.RowKit Go.Proofs.YtpidhnnckolapaaGreatDoorW.PrintWords Go.Proofs.YtpidhnnckolapaaGreatDoorW.PrintLast
set_option linter.unusedVariables false
set_option linter.unusedSimpArgs false
/-- A reading of type t gives the kind d, with what its elements are. -/
def Opens {α : Type} (t : TypeId) (d : Kd α) (ok : α → Prop) : Prop :=
  ∀ {H : Type} {enc : TypeId × Value → H} {w : World} {base : Nat} {spare : Nat → Bool} {held : Bool} {fuel : Nat} {cs : List Value} {x : DataW H × List MemPlace},
    DataW.trod enc Tryz.prog w base spare held fuel t cs = some x → ∃ a, d.K w a cs ∧ ok a
theorem opens_int {t : TypeId} {k : IntKind} (ht : Tryz.prog.underlying t = some (.int k)) : Opens t (Kd.int k) (fun n => (Lit.int k n).wf = true) := by
  intro H enc w base spare held fuel cs x h
  obtain ⟨n, rfl, _, hw⟩ := DataW.trod_int ht h
  exact ⟨n, rfl, hw⟩
theorem opens_iso {α β : Type} {t : TypeId} {d : Kd α} {f : β → α} {ok : α → Prop} {ok' : β → Prop} (g : α → β) (hg : ∀ a, f (g a) = a) (hok : ∀ a, ok a → ok' (g a)) (h : Opens t d ok) : Opens t (Kd.iso d f) ok' := by
  intro H enc w base spare held fuel cs x hx
  obtain ⟨a, ha, ho⟩ := h hx
  refine ⟨g a, ?_, hok a ho⟩
  show d.K w (f (g a)) cs
  rw [hg]
  exact ha
theorem opens_slice {α : Type} {t e : TypeId} {d : Kd α} {ok : α → Prop} (ht : Tryz.prog.underlying t = some (.slice e)) (hs : Tryz.prog.cellsOf e = d.sz) (h : Opens e d ok) : Opens t (Kd.slice e d) (fun l => ∀ x ∈ l, ok x) := by
  intro H enc w base spare held fuel cs x hx
  rcases Go.Deep.open_slice ht hx with ⟨rfl, _⟩ | ⟨a, len, cap, m, n, D, Pl, rfl, hb, hl, hm, hmm, _, hi⟩
  · exact ⟨[], ⟨none, 0, rfl, Nat.le_refl 0, Kd.C_nil d w⟩, fun _ h => by cases h⟩
  · have hle : len ≤ m := by
      rw [hmm]
      split <;> omega
    have key : ∀ i : Fin len, ∃ y : α, ok y ∧ ∃ c : List Value, c.length = d.sz ∧ d.K w y c ∧ ∀ j u, c[j]? = some u → w.cell? (a.add (i.1 * d.sz + j)) = some u := by
      intro i
      obtain ⟨c, hc, ht'⟩ := hi i.1 (by omega)
      obtain ⟨y, hy, hoy⟩ := h ht'
      rw [hs] at hc
      obtain ⟨_, hcl, hat⟩ := World.cells?_some hc
      refine ⟨y, hoy, c, hcl, hy, fun j u hu => ?_⟩
      have hj : j < d.sz := by
        have := (List.getElem?_eq_some_iff.1 hu).1
        omega
      have := hat j hj
      rw [Go.Deep.add_add] at this
      rw [this, hu]
    obtain ⟨f, hf⟩ := Classical.axiomOfChoice key
    have hlen : (List.ofFn f).length = len := List.length_ofFn
    refine ⟨List.ofFn f, ⟨some a, cap, by rw [hlen], by rw [hlen]; exact hl, rfl, ?_, fun _ => ⟨a, rfl, fun j p hj => ?_⟩⟩, fun y hy => ?_⟩
    · rw [hlen]
      exact Nat.le_trans hl (Nat.le_trans hm (by decide))
    · rw [List.getElem?_ofFn] at hj
      split at hj
      · rename_i hjl
        obtain rfl := Option.some.inj hj
        exact (hf ⟨j, hjl⟩).2
      · cases hj
    · obtain ⟨i, rfl⟩ := List.mem_ofFn.1 hy
      exact (hf i).1
theorem opens_struct2 {α β : Type} {t : TypeId} {f0 f1 : Field} {d0 : Kd α} {d1 : Kd β} {ok0 : α → Prop} {ok1 : β → Prop} (ht : Tryz.prog.underlying t = some (.struct #[f0, f1])) (ho0 : f0.offset = 0) (ho1 : f1.offset = d0.sz)
    (hs0 : Tryz.prog.cellsOf f0.type = d0.sz) (hs1 : Tryz.prog.cellsOf f1.type = d1.sz) (hc : Tryz.prog.cellsOf t = d0.sz + d1.sz) (h0 : Opens f0.type d0 ok0) (h1 : Opens f1.type d1 ok1) : Opens t (Kd.pair d0 d1) (fun x => ok0 x.1 ∧ ok1 x.2) := by
  intro H enc w base spare held fuel cs x hx
  obtain ⟨y0, y1, n, _, hl, t0, t1⟩ := Go.ChangeShapes.trod_struct2 ht hx
  obtain ⟨a, ka, oa⟩ := h0 t0
  obtain ⟨b, kb, ob⟩ := h1 t1
  refine ⟨(a, b), ⟨_, _, ?_, ka, kb⟩, oa, ob⟩
  rw [ho0, ho1, hs0, hs1, List.drop_zero, List.take_of_length_le (l := cs.drop d0.sz) (by rw [List.length_drop, hl, hc]; omega), List.take_append_drop]
set_option maxRecDepth 100000 in
theorem opens_45 : Opens 45 PA.k45 wfI := by
  refine opens_iso (d := Kd.pair (Kd.int .i64) (Kd.pair (Kd.int .i64) (Kd.pair Kd.string Kd.bool))) (ok := fun x => -9223372036854775808 ≤ x.2.1 ∧ x.2.1 ≤ 9223372036854775807) (fun x => ⟨x.1, x.2.1, x.2.2.1, x.2.2.2⟩) (fun a => rfl) (fun a h => h) ?_
  intro H enc w base spare held fuel cs x hx
  obtain ⟨xs, n, _, _, hl, hlen, hg⟩ := DataW.trod_struct Tryz.underlying45 hx
  have hl4 : cs.length = 4 := hl.trans (by kernel_rfl)
  match cs, hl4 with
  | [c0, c1, c2, c3], _ =>
    match xs, hlen with
    | [y0, y1, y2, y3], _ =>
      have e0 := hg 0 _ rfl
      have e1 := hg 1 _ rfl
      have e2 := hg 2 _ rfl
      have e3 := hg 3 _ rfl
      simp only [show Tryz.prog.cellsOf 3 = 1 by kernel_rfl, show Tryz.prog.cellsOf 2 = 1 by kernel_rfl, show Tryz.prog.cellsOf 9 = 1 by kernel_rfl, show Tryz.prog.cellsOf 4 = 1 by kernel_rfl, List.drop_zero, List.drop_succ_cons, List.take_succ_cons, List.take_zero, List.getElem?_cons_zero, List.getElem?_cons_succ] at e0 e1 e2 e3
      obtain ⟨n0, q0, _, _⟩ := DataW.trod_int Tryz.underlying3 e0
      obtain ⟨n1, q1, _, w1⟩ := DataW.trod_int Tryz.underlying2 e1
      obtain ⟨n2, q2, _⟩ := DataW.trod_string Tryz.underlying9 e2
      obtain ⟨n3, q3, _⟩ := DataW.trod_bool Tryz.underlying4 e3
      injection q0 with q0
      injection q1 with q1
      injection q2 with q2
      injection q3 with q3
      subst q0 q1 q2 q3
      refine ⟨(n0, n1, n2, n3), ⟨[.int .i64 n0], _, rfl, rfl, [.int .i64 n1], _, rfl, rfl, [.string n2], [.bool n3], rfl, rfl, rfl⟩, ?_⟩
      exact Go.bounds_i64 w1
theorem opens_47 : Opens 47 PA.k47 (fun z => wfI z.f1) :=
  opens_iso (fun x => ⟨x.1, x.2⟩) (fun a => rfl) (fun a h => h.2) (opens_struct2 Tryz.underlying47 rfl rfl (by kernel_rfl) (by kernel_rfl) (by kernel_rfl) (opens_int Tryz.underlying3) opens_45)
theorem opens_38 : Opens 38 (Kd.slice 45 PA.k45) (fun l => ∀ x ∈ l, wfI x) := opens_slice Tryz.underlying38 (by kernel_rfl) opens_45
theorem opens_49 : Opens 49 PA.k49 (fun z => ∀ u ∈ z.f1, wfI u) :=
  opens_iso (fun x => ⟨x.1, x.2⟩) (fun a => rfl) (fun a h => h.2) (opens_struct2 Tryz.underlying49 rfl rfl (by kernel_rfl) (by kernel_rfl) (by kernel_rfl) (opens_int Tryz.underlying3) opens_38)
theorem opens_43 : Opens 43 PA.k43 (fun y => (∀ z ∈ y.f0, wfI z.f1) ∧ ∀ z ∈ y.f1, ∀ u ∈ z.f1, wfI u) :=
  opens_iso (fun x => ⟨x.1, x.2⟩) (fun a => rfl) (fun a h => h) (opens_struct2 Tryz.underlying43 rfl rfl (by kernel_rfl) (by kernel_rfl) (by kernel_rfl) (opens_slice Tryz.underlying40 (by kernel_rfl) opens_47) (opens_slice Tryz.underlying41 (by kernel_rfl) opens_49))
theorem opens_23 : Opens 23 (Kd.slice 38 (Kd.slice 45 PA.k45)) (fun l => ∀ y ∈ l, ∀ x ∈ y, wfI x) := opens_slice Tryz.underlying23 (by kernel_rfl) opens_38
theorem opens_24 : Opens 24 (Kd.slice 43 PA.k43) (fun l => ∀ y ∈ l, (∀ z ∈ y.f0, wfI z.f1) ∧ ∀ z ∈ y.f1, ∀ u ∈ z.f1, wfI u) := opens_slice Tryz.underlying24 (by kernel_rfl) opens_43
set_option maxRecDepth 100000 in
/-- The snap's struct, by value. -/
theorem open_26 {H : Type} {enc : TypeId × Value → H} {w : World} {base : Nat} {spare : Nat → Bool} {held : Bool} {b0 : Nat} {r : Reach} {v : Value} {y : DataW H} {p : List MemPlace} (hv : Value.okWide Tryz.prog w r b0 26 v) (h : DataW.Trod enc Tryz.prog w base spare held 26 v y p) :
    ∃ (a b c d : Int) (A4 A5 : Option Addr) (c4 c5 : Nat) (l4 : List (List PA.S45)) (l5 : List PA.S43), v = .agg #[.int .i64 a, .int .i64 b, .int .i64 c, .int .i64 d, .slice A4 l4.length c4, .slice A5 l5.length c5] ∧
      Kd.C (Kd.slice 45 PA.k45) w A4 l4.length l4 ∧ l4.length ≤ c4 ∧ Kd.C PA.k43 w A5 l5.length l5 ∧ l5.length ≤ c5 ∧ wfIS l4 l5 := by
  obtain ⟨cs, rfl, hsz⟩ := Go.WideShapes.okWide_struct Tryz.underlying26 hv
  obtain ⟨l⟩ := cs
  have hl6 : l.length = 6 := hsz.trans (by kernel_rfl)
  match l, hl6 with
  | [v0, v1, v2, v3, v4, v5], _ =>
    obtain ⟨fuel, hf⟩ := h
    obtain ⟨xs, n, _, _, _, hlen, hg⟩ := DataW.trod_struct Tryz.underlying26 hf
    match xs, hlen with
    | [y0, y1, y2, y3, y4, y5], _ =>
      have e0 := hg 0 _ rfl
      have e1 := hg 1 _ rfl
      have e2 := hg 2 _ rfl
      have e3 := hg 3 _ rfl
      have e4 := hg 4 _ rfl
      have e5 := hg 5 _ rfl
      simp only [Value.cells, show Tryz.prog.cellsOf 3 = 1 by kernel_rfl, show Tryz.prog.cellsOf 22 = 1 by kernel_rfl, show Tryz.prog.cellsOf 23 = 1 by kernel_rfl, show Tryz.prog.cellsOf 24 = 1 by kernel_rfl, List.drop_zero, List.drop_succ_cons, List.take_succ_cons, List.take_zero, List.getElem?_cons_zero, List.getElem?_cons_succ] at e0 e1 e2 e3 e4 e5
      obtain ⟨n0, q0, _, _⟩ := DataW.trod_int Tryz.underlying3 e0
      obtain ⟨n1, q1, _, _⟩ := DataW.trod_int Tryz.underlying3 e1
      obtain ⟨n2, q2, _, _⟩ := DataW.trod_int Tryz.underlying3 e2
      obtain ⟨n3, q3, _, _⟩ := DataW.trod_int Tryz.underlying22 e3
      obtain ⟨l4, ⟨A4, c4, q4, h4, k4⟩, w4⟩ := opens_23 e4
      obtain ⟨l5, ⟨A5, c5, q5, h5, k5⟩, w5⟩ := opens_24 e5
      injection q0 with q0
      injection q1 with q1
      injection q2 with q2
      injection q3 with q3
      injection q4 with q4
      injection q5 with q5
      subst q0 q1 q2 q3 q4 q5
      exact ⟨n0, n1, n2, n3, A4, A5, c4, c5, l4, l5, rfl, k4, h4, k5, h5, w4, w5⟩
end Go.Proofs.YtpidhnnckolapaaGreatDoor.K
namespace Go.Proofs.YtpidhnnckolapaaGreatDoor.K
open Go.RowKit Go.Proofs.YtpidhnnckolapaaGreatDoorW.PrintWords Go.Proofs.YtpidhnnckolapaaGreatDoorW.PrintLast
set_option linter.unusedVariables false
set_option linter.unusedSimpArgs false
theorem gWords : Tryz.prog.globalNamed "proctor/schema.words" = some 1 := by kernel_rfl
theorem gWordsType : (Tryz.prog.globals[1]?).map (·.type) = some 298 := by kernel_rfl
theorem gShort : Tryz.prog.globalNamed "proctor/save.errShort" = some 0 := by kernel_rfl
theorem gShortType : (Tryz.prog.globals[0]?).map (·.type) = some 76 := by kernel_rfl
theorem star : "*" ++ "errors.errorString" = "*errors.errorString" := by decide
/-- THE ONE ROW OF THAT NAME. -/
theorem row345 (u : TypeId) (h : Tryz.prog.typeName? 3 u = some "*errors.errorString") : u = 345 :=
  typeName_ptr_named (nm := "errors.errorString") (by rw [star]; kernel_rfl) (by kernel_rfl) (by decide) u (by rw [star]; exact h)
theorem laid_words_eq : (Rows.laid_proctor_schema_words : DataW Unit) = .agg ((List.range 22).map fun j => .lit (.string (wordAt j).data.toList)) := rfl
/-- WHAT THE ROW's LIST GIVES: the words, and the sentinel. -/
theorem laid_of {W : World} (h : laidMet Tryz.prog [("proctor/schema.words", Rows.laid_proctor_schema_words), ("proctor/save.errShort", Rows.laid_proctor_save_errShort)] W) : ∃ ea, Laid W ea := by
  have hs : laidMet Tryz.prog [("proctor/save.errShort", Rows.laid_proctor_save_errShort)] W := h.filter (fun x => x.1 == "proctor/save.errShort")
  obtain ⟨a, s, hv, _⟩ := laid_sentinel hs gShort gShortType Tryz.underlying76 row345 Tryz.underlying345 Tryz.underlying371 rfl rfl Tryz.underlying9 (by kernel_rfl) (by kernel_rfl)
  refine ⟨a, fun j hj => ?_, by have h0 := World.var?_cell gShort hv 0; exact h0⟩
  obtain ⟨ps, ⟨g, t, cs, fuel, p, q, hg, ht, hvar, hd, _, _⟩, _⟩ := h
  obtain rfl := Option.some.inj (gWords.symm.trans hg)
  obtain rfl := Option.some.inj (gWordsType.symm.trans ht)
  rw [laid_words_eq] at hd
  obtain ⟨xs, m, _, hx, hl, hlen, hat⟩ := DataW.trod_array Tryz.underlying298 hd
  have hc := World.var?_cell gWords hvar j
  rw [hc]
  have hy := hat j hj
  have hjx : j < xs.length := by omega
  rw [List.getElem?_eq_getElem hjx, show Tryz.prog.cellsOf 9 = 1 by kernel_rfl] at hy
  obtain ⟨s', hcs, hxs, _⟩ := DataW.trod_string Tryz.underlying9 hy
  have he : xs.map (·.1) = (List.range 22).map fun j => (.lit (.string (wordAt j).data.toList) : DataW Unit) := by
    have := congrArg Prod.fst hx
    simp only [DataW.agg.injEq] at this
    exact this.symm
  have h1 : (xs.map (·.1))[j]? = some (xs[j]).1 := by
    rw [List.getElem?_map, List.getElem?_eq_getElem hjx]
    rfl
  rw [he, hxs, List.getElem?_map, List.getElem?_range hj] at h1
  simp only [Option.map_some, Option.some.injEq, DataW.lit.injEq, Lit.string.injEq] at h1
  have h2 : s' = wordAt j := by
    cases s' with
    | mk d =>
      cases hw : wordAt j with
      | mk d' =>
        rw [hw] at h1
        exact congrArg ByteArray.mk (Array.toList_inj.1 h1.symm)
  have h3 : cs.toList[j]? = some (.string s') := by
    have := congrArg (·[0]?) hcs
    simpa [List.getElem?_take, List.getElem?_drop] using this
  rw [← h2]
  simpa using h3
end Go.Proofs.YtpidhnnckolapaaGreatDoor.K
