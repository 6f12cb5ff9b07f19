/- The opening of slices; the row's laid cells give the words and the sentinel. -/
import Derived.OpenShut
import Derived.Deep.Slices
import Derived.ChangeSame
import Derived.RowKit
import Derived.KernelRfl
import Derived.Stop.LaidErr
import Derived.LaidSub
import Derived.Test.YtpidhnnckolapaaGreatDoorUg18
import Derived.Test.YtpidhnnckolapaaGreatDoorRows
namespace Go.Proofs.YtpidhnnckolapaaGreatDoor.K
open Go.RowKit Go.Proofs.YtpidhnnckolapaaGreatDoorW.PrintWords Go.Proofs.YtpidhnnckolapaaGreatDoorW.PrintLast
set_option linter.unusedVariables false
set_option linter.unusedSimpArgs false
/-- A reading of type t gives the kind d, with what its elements are. -/
def Opens {α : Type} (t : TypeId) (d : Kd α) (ok : α → Prop) : Prop :=
  ∀ {H : Type} {enc : TypeId × Value → H} {w : World} {base : Nat} {spare : Nat → Bool} {held : Bool} {fuel : Nat} {cs : List Value} {x : DataW H × List MemPlace},
    DataW.trod enc Tryz.prog w base spare held fuel t cs = some x → ∃ a, d.K w a cs ∧ ok a
theorem opens_int {t : TypeId} {k : IntKind} (ht : Tryz.prog.underlying t = some (.int k)) : Opens t (Kd.int k) (fun n => (Lit.int k n).wf = true) := by
  intro H enc w base spare held fuel cs x h
  obtain ⟨n, rfl, _, hw⟩ := DataW.trod_int ht h
  exact ⟨n, rfl, hw⟩
theorem opens_slice {α : Type} {t e : TypeId} {d : Kd α} {ok : α → Prop} (ht : Tryz.prog.underlying t = some (.slice e)) (hs : Tryz.prog.cellsOf e = d.sz) (h : Opens e d ok) : Opens t (Kd.slice e d) (fun l => ∀ x ∈ l, ok x) := by
  intro H enc w base spare held fuel cs x hx
  rcases Go.Deep.open_slice ht hx with ⟨rfl, _⟩ | ⟨a, len, cap, m, n, D, Pl, rfl, hb, hl, hm, hmm, _, hi⟩
  · exact ⟨[], ⟨none, 0, rfl, Nat.le_refl 0, Kd.C_nil d w⟩, fun _ h => by cases h⟩
  · have hle : len ≤ m := by
      rw [hmm]
      split <;> omega
    have key : ∀ i : Fin len, ∃ y : α, ok y ∧ ∃ c : List Value, c.length = d.sz ∧ d.K w y c ∧ ∀ j u, c[j]? = some u → w.cell? (a.add (i.1 * d.sz + j)) = some u := by
      intro i
      obtain ⟨c, hc, ht'⟩ := hi i.1 (by omega)
      obtain ⟨y, hy, hoy⟩ := h ht'
      rw [hs] at hc
      obtain ⟨_, hcl, hat⟩ := World.cells?_some hc
      refine ⟨y, hoy, c, hcl, hy, fun j u hu => ?_⟩
      have hj : j < d.sz := by
        have := (List.getElem?_eq_some_iff.1 hu).1
        omega
      have := hat j hj
      rw [Go.Deep.add_add] at this
      rw [this, hu]
    obtain ⟨f, hf⟩ := Classical.axiomOfChoice key
    have hlen : (List.ofFn f).length = len := List.length_ofFn
    refine ⟨List.ofFn f, ⟨some a, cap, by rw [hlen], by rw [hlen]; exact hl, rfl, ?_, fun _ => ⟨a, rfl, fun j p hj => ?_⟩⟩, fun y hy => ?_⟩
    · rw [hlen]
      exact Nat.le_trans hl (Nat.le_trans hm (by decide))
    · rw [List.getElem?_ofFn] at hj
      split at hj
      · rename_i hjl
        obtain rfl := Option.some.inj hj
        exact (hf ⟨j, hjl⟩).2
      · cases hj
    · obtain ⟨i, rfl⟩ := List.mem_ofFn.1 hy
      exact (hf i).1
end Go.Proofs.YtpidhnnckolapaaGreatDoor.K
namespace Go.Proofs.YtpidhnnckolapaaGreatDoor.K
open Go.RowKit Go.Proofs.YtpidhnnckolapaaGreatDoorW.PrintWords Go.Proofs.YtpidhnnckolapaaGreatDoorW.PrintLast
set_option linter.unusedVariables false
set_option linter.unusedSimpArgs false
theorem gWords : Tryz.prog.globalNamed "proctor/schema.words" = some 1 := by kernel_rfl
theorem gWordsType : (Tryz.prog.globals[1]?).map (·.type) = some 298 := by kernel_rfl
theorem gShort : Tryz.prog.globalNamed "proctor/save.errShort" = some 0 := by kernel_rfl
theorem gShortType : (Tryz.prog.globals[0]?).map (·.type) = some 76 := by kernel_rfl
theorem star : "*" ++ "errors.errorString" = "*errors.errorString" := by decide
/-- THE ONE ROW OF THAT NAME. -/
theorem row345 (u : TypeId) (h : Tryz.prog.typeName? 3 u = some "*errors.errorString") : u = 345 :=
  typeName_ptr_named (nm := "errors.errorString") (by rw [star]; kernel_rfl) (by kernel_rfl) (by decide) u (by rw [star]; exact h)
theorem laid_words_eq : (Rows.laid_proctor_schema_words : DataW Unit) = .agg ((List.range 22).map fun j => .lit (.string (wordAt j).data.toList)) := rfl
/-- WHAT THE ROW's LIST GIVES: the words, and the sentinel. -/
theorem laid_of {W : World} (h : laidMet Tryz.prog [("proctor/schema.words", Rows.laid_proctor_schema_words), ("proctor/save.errShort", Rows.laid_proctor_save_errShort)] W) : ∃ ea, Laid W ea := by
  have hs : laidMet Tryz.prog [("proctor/save.errShort", Rows.laid_proctor_save_errShort)] W := h.filter (fun x => x.1 == "proctor/save.errShort")
  obtain ⟨a, s, hv, _⟩ := laid_sentinel hs gShort gShortType Tryz.underlying76 row345 Tryz.underlying345 Tryz.underlying371 rfl rfl Tryz.underlying9 (by kernel_rfl) (by kernel_rfl)
  refine ⟨a, fun j hj => ?_, by have h0 := World.var?_cell gShort hv 0; exact h0⟩
  obtain ⟨ps, ⟨g, t, cs, fuel, p, q, hg, ht, hvar, hd, _, _⟩, _⟩ := h
  obtain rfl := Option.some.inj (gWords.symm.trans hg)
  obtain rfl := Option.some.inj (gWordsType.symm.trans ht)
  rw [laid_words_eq] at hd
  obtain ⟨xs, m, _, hx, hl, hlen, hat⟩ := DataW.trod_array Tryz.underlying298 hd
  have hc := World.var?_cell gWords hvar j
  rw [hc]
  have hy := hat j hj
  have hjx : j < xs.length := by omega
  rw [List.getElem?_eq_getElem hjx, show Tryz.prog.cellsOf 9 = 1 by kernel_rfl] at hy
  obtain ⟨s', hcs, hxs, _⟩ := DataW.trod_string Tryz.underlying9 hy
  have he : xs.map (·.1) = (List.range 22).map fun j => (.lit (.string (wordAt j).data.toList) : DataW Unit) := by
    have := congrArg Prod.fst hx
    simp only [DataW.agg.injEq] at this
    exact this.symm
  have h1 : (xs.map (·.1))[j]? = some (xs[j]).1 := by
    rw [List.getElem?_map, List.getElem?_eq_getElem hjx]
    rfl
  rw [he, hxs, List.getElem?_map, List.getElem?_range hj] at h1
  simp only [Option.map_some, Option.some.injEq, DataW.lit.injEq, Lit.string.injEq] at h1
  have h2 : s' = wordAt j := by
    cases s' with
    | mk d =>
      cases hw : wordAt j with
      | mk d' =>
        rw [hw] at h1
        exact congrArg ByteArray.mk (Array.toList_inj.1 h1.symm)
  have h3 : cs.toList[j]? = some (.string s') := by
    have := congrArg (·[0]?) hcs
    simpa [List.getElem?_take, List.getElem?_drop] using this
  rw [← h2]
  simpa using h3
end Go.Proofs.YtpidhnnckolapaaGreatDoor.K
