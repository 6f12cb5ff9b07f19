/- Keys: the number, the text and one value as bytes. -/
import Derived.RegionTactic
import Derived.Laws.CopyRow
import Derived.Laws.CopyOwn
import Derived.Test.YtpidhnnckolapaaGreatDoorUg10
namespace Go.Proofs.YtpidhnnckolapaaGreatDoor.K
open Go.RowKit Go.Proofs.YtpidhnnckolapaaGreatDoorW.PrintWords Go.Proofs.YtpidhnnckolapaaGreatDoorW.PrintLast
set_option linter.unusedVariables false
set_option linter.unusedSimpArgs false
theorem xor_in (n : Int) (h0 : -9223372036854775808 ≤ n) (h1 : n ≤ 9223372036854775807) : bits BinOp.xor IntKind.u64 (IntKind.u64.wrap n) 9223372036854775808 = n + 9223372036854775808 := by
  rw [IntKind.wrap_u64]
  by_cases hn : 0 ≤ n
  · obtain ⟨a, rfl⟩ := Int.eq_ofNat_of_zero_le hn
    have hx := bits_xor_u64_nat a 9223372036854775808 (by omega) (by omega)
    rw [show ((9223372036854775808 : Nat) : Int) = 9223372036854775808 from rfl] at hx
    have h2 := nat_xor_top a (by omega)
    rw [show (2 : Nat) ^ 63 = 9223372036854775808 from rfl] at h2
    rw [show ((a : Int) % 18446744073709551616) = (a : Int) by omega, hx, h2]; omega
  · obtain ⟨b, hb⟩ := Int.eq_ofNat_of_zero_le (show 0 ≤ n + 9223372036854775808 by omega)
    have e : n % 18446744073709551616 = ((9223372036854775808 + b : Nat) : Int) := by omega
    have hx := bits_xor_u64_nat (9223372036854775808 + b) 9223372036854775808 (by omega) (by omega)
    rw [show ((9223372036854775808 : Nat) : Int) = 9223372036854775808 from rfl] at hx
    have h2 := nat_xor_top' b (by omega)
    rw [show (2 : Nat) ^ 63 = 9223372036854775808 from rfl] at h2
    rw [e, hx, h2, hb]
/-- Eight bytes, the highest first. -/
def beB (u : Int) : List Int := [u / 72057594037927936 % 256, u / 281474976710656 % 256, u / 1099511627776 % 256, u / 4294967296 % 256, u / 16777216 % 256, u / 65536 % 256, u / 256 % 256, u % 256]
theorem C_block {w : World} {g : Nat} {t : TypeId} {u : Int} (h : w.heap[g]? = some (.cells #[.int .u8 (u / 72057594037927936 % 256), .int .u8 (u / 281474976710656 % 256), .int .u8 (u / 1099511627776 % 256), .int .u8 (u / 4294967296 % 256), .int .u8 (u / 16777216 % 256), .int .u8 (u / 65536 % 256), .int .u8 (u / 256 % 256), .int .u8 (u % 256)] t (0, 0))) :
    (Kd.int .u8).C w (some ⟨g, 0, none⟩) 8 (beB u) := by
  refine ⟨rfl, by decide, fun _ => ⟨_, rfl, fun j p hj => ⟨[.int .u8 p], rfl, rfl, fun i v hv => ?_⟩⟩⟩
  have hi : i = 0 := by
    rcases i with _ | i
    · rfl
    · simp at hv
  subst hi
  have hv' : v = .int .u8 p := by simpa using hv.symm
  subst hv'
  have hj8 : j < 8 := (List.getElem?_eq_some_iff.1 hj).1
  have : j = 0 ∨ j = 1 ∨ j = 2 ∨ j = 3 ∨ j = 4 ∨ j = 5 ∨ j = 6 ∨ j = 7 := by omega
  rcases this with rfl | rfl | rfl | rfl | rfl | rfl | rfl | rfl <;> (simp [beB] at hj; subst hj; exact (blk_cell h _).trans rfl)
set_option maxHeartbeats 4000000 in
set_option maxRecDepth 100000 in
theorem number_calls {w : World} {n : Int} (h0 : -9223372036854775808 ≤ n) (h1 : n ≤ 9223372036854775807) :
    Calls Tryz.prog 145 #[.int .i64 n] w fun e w' => ∃ v, e = .returned v ∧ Kd.R (Kd.int .u8) 5 w' w.heap.size (new w) v (beB (n + 9223372036854775808)) ∧ Below w.heap.size w w' := by
  have hU := xor_in n h0 h1
  have hmk : ∀ W : World, (Instr.makeSlice 29 (.int .i64 8) (.int .i64 8)).run Tryz.prog W = .ok (.slice (some ⟨W.heap.size, 0, none⟩) 8 8) (W.alloc (.cells (madeCells #[.int .u8 0] 8) 5)) := print_make (P := Tryz.prog) 29 5 .u8 1 Tryz.underlying29 info5 (by decide) 8 (by decide)
  generalize n + 9223372036854775808 = u at *
  go_enter Tryz.func145, Tryz.ntmps145
  go_wp2_with fail
  refine wp_loop_rounds 9 ?_
  rw [rounds_succ]
  go_wp2_with fail
  rw [rounds_succ]
  go_wp2_with fail
  rw [rounds_succ]
  go_wp2_with fail
  rw [rounds_succ]
  go_wp2_with fail
  rw [rounds_succ]
  go_wp2_with fail
  rw [rounds_succ]
  go_wp2_with fail
  rw [rounds_succ]
  go_wp2_with fail
  rw [rounds_succ]
  go_wp2_with fail
  rw [rounds_succ]
  have hB := Aside0.mk (below_alloc (Below.refl w.heap.size w) (.cells #[.int .u8 (u / 72057594037927936 % 256), .int .u8 (u / 281474976710656 % 256), .int .u8 (u / 1099511627776 % 256), .int .u8 (u / 4294967296 % 256), .int .u8 (u / 16777216 % 256), .int .u8 (u / 65536 % 256), .int .u8 (u / 256 % 256), .int .u8 (u % 256)] 310))
  have hK := Aside0.mk (blk_new w (.cells #[.int .u8 (u / 72057594037927936 % 256), .int .u8 (u / 281474976710656 % 256), .int .u8 (u / 1099511627776 % 256), .int .u8 (u / 4294967296 % 256), .int .u8 (u / 16777216 % 256), .int .u8 (u / 65536 % 256), .int .u8 (u / 256 % 256), .int .u8 (u % 256)] 310))
  generalize hW : w.alloc (.cells #[.int .u8 (u / 72057594037927936 % 256), .int .u8 (u / 281474976710656 % 256), .int .u8 (u / 1099511627776 % 256), .int .u8 (u / 4294967296 % 256), .int .u8 (u / 16777216 % 256), .int .u8 (u / 65536 % 256), .int .u8 (u / 256 % 256), .int .u8 (u % 256)] 310) = W at *
  have hWs : W.heap.size = w.heap.size + 1 := by rw [← hW]; simp
  have hmg : (W.alloc (.cells (madeCells #[.int .u8 0] 8) 5)).heap[w.heap.size + 1]? = some (.cells (madeCells #[.int .u8 0] 8) 5 (0, 0)) := by
    have := blk_new W (.cells (madeCells #[.int .u8 0] 8) 5)
    rw [hWs] at this
    exact this
  have hC : (Kd.int .u8).C (W.alloc (.cells (madeCells #[.int .u8 0] 8) 5)) (some ⟨w.heap.size, 0, none⟩) 8 (beB u) := C_block (blk_box hK.out)
  have hcp := run_copy_row Tryz.prog (W.alloc (.cells (madeCells #[.int .u8 0] 8) 5)) 29 29 3 5 (w.heap.size + 1) 0 8 8 ⟨w.heap.size, 0, none⟩ 8 8 (madeCells #[.int .u8 0] 8) 5 ((beB u).map (Value.int .u8)) Tryz.underlying29 (by kernel_rfl) hmg rfl (by
    intro j v hj
    have hj8 : j < 8 := (List.getElem?_eq_some_iff.1 hj).1
    have : j = 0 ∨ j = 1 ∨ j = 2 ∨ j = 3 ∨ j = 4 ∨ j = 5 ∨ j = 6 ∨ j = 7 := by omega
    rcases this with rfl | rfl | rfl | rfl | rfl | rfl | rfl | rfl <;> (simp [beB] at hj; subst hj; exact (blk_cell (blk_box hK.out) _).trans rfl)) (by simp [beB, madeCells]) (by intro v hv; simp only [List.mem_map] at hv; obtain ⟨q, _, rfl⟩ := hv; rfl)
  have hro := setRow_heap (W.alloc (.cells (madeCells #[.int .u8 0] 8) 5)) (w.heap.size + 1) (madeCells #[.int .u8 0] 8) ((madeCells #[.int .u8 0] 8).toList.take 0 ++ (beB u).map (Value.int .u8) ++ (madeCells #[.int .u8 0] 8).toList.drop (0 + ((beB u).map (Value.int .u8)).length)).toArray 5 (0, 0) hmg
  have hbb := below_setRow (g := w.heap.size + 1) (below_alloc hB.out (.cells (madeCells #[.int .u8 0] 8) 5)) (by omega) ((madeCells #[.int .u8 0] 8).toList.take 0 ++ (beB u).map (Value.int .u8) ++ (madeCells #[.int .u8 0] 8).toList.drop (0 + ((beB u).map (Value.int .u8)).length)).toArray
  generalize hW3 : World.setRow _ _ _ = W3 at *
  have HRO := Aside0.mk hro
  have HBB := Aside0.mk hbb
  clear hW hC hU hmg hro hbb
  go_wp2_with fail
  go_ret
  refine ⟨_, rfl, Kd.R_of_own ⟨rfl, .inr ⟨w.heap.size + 1, 8, _, rfl, by omega, HRO.out, ?_, ?_, ?_, ?_⟩⟩ (fun k hk => by simp [Value.ownBlock] at hk; simp only [new]; omega), HBB.out⟩
  all_goals first | decide | (simp [beB, madeCells, encs]; done) | rfl
end Go.Proofs.YtpidhnnckolapaaGreatDoor.K
namespace Go.Proofs.YtpidhnnckolapaaGreatDoor.K
open Go.RowKit Go.Proofs.YtpidhnnckolapaaGreatDoorW.PrintWords Go.Proofs.YtpidhnnckolapaaGreatDoorW.PrintLast
set_option linter.unusedVariables false
set_option linter.unusedSimpArgs false
/-- A text's bytes. -/
def sB (s : ByteArray) : List Int := s.data.toList.map fun x => (x.toNat : Int)
theorem sB_len (s : ByteArray) : (sB s).length = s.size := by unfold sB; rw [List.length_map, Array.length_toList]; rfl
theorem str_sB (s : ByteArray) : strOfNums (sB s) = s := by
  have : ((fun n : Int => UInt8.ofNat n.toNat) ∘ fun x : UInt8 => (x.toNat : Int)) = id := funext fun b => by simp
  apply ByteArray.ext
  unfold strOfNums sB
  rw [List.map_map, this, List.map_id]
theorem sB_str (l : List Int) (h : ∀ x ∈ l, 0 ≤ x ∧ x ≤ 255) : sB (strOfNums l) = l := by
  unfold sB
  rw [strOfNums_data, List.map_map]
  conv => rhs; rw [← List.map_id l]
  apply List.map_congr_left
  intro x hx
  have := h x hx
  simp only [Function.comp, id]
  rw [UInt8.toNat_ofNat']
  omega
theorem sB_drop (s : ByteArray) (i : Nat) (h : i < s.size) : (sB s).drop i = bt s (i : Int) :: (sB s).drop (i + 1) := by
  have hl : i < (sB s).length := by rw [sB_len]; exact h
  rw [List.drop_eq_getElem_cons hl]
  congr 1
  simp [sB, bt, h]
  rfl
/-- A text's bytes as they are written: 0 as 0, 255. -/
def esc : List Int → List Int
  | [] => []
  | x :: r => if x = 0 then 0 :: 255 :: esc r else x :: esc r
def textB (s : ByteArray) : List Int := esc (sB s) ++ [0, 1]
theorem esc_len (l : List Int) : (esc l).length ≤ 2 * l.length := by
  induction l with
  | nil => simp [esc]
  | cons x r ih => unfold esc; split <;> simp <;> omega
theorem textB_len (s : ByteArray) : (textB s).length ≤ 2 * s.size + 2 := by
  have := esc_len (sB s)
  rw [sB_len] at this
  simp [textB]; omega
theorem text_l0 (s : ByteArray) (hs : s.size ≤ 1000000000) : ∀ (m i : Nat) (k : Nat) (x3 : List Int), s.size = i + m → m < k → x3.length ≤ 2 * i → PA.key_text.l0 k s x3 (s.size : Int) (i : Int) = some (x3 ++ esc ((sB s).drop i) ++ [0, 1]) := by
  intro m
  induction m with
  | zero =>
    intro i k x3 h hk hx
    obtain ⟨k, rfl⟩ : ∃ j, k = j + 1 := ⟨k - 1, by omega⟩
    have hd : (sB s).drop i = [] := List.drop_eq_nil_of_le (by rw [sB_len]; omega)
    rw [PA.key_text.l0.eq_2, if_neg (by omega), hd]
    simp only [Option.bind_some, List.length_cons, List.length_nil, esc, List.append_nil]
    rw [if_pos (by omega)]
  | succ m ih =>
    intro i k x3 h hk hx
    obtain ⟨k, rfl⟩ : ∃ j, k = j + 1 := ⟨k - 1, by omega⟩
    rw [PA.key_text.l0.eq_2, if_pos (by omega), if_pos (by omega), if_pos (by omega), if_pos (by omega), Option.bind_some, sB_drop s i (by omega)]
    have hw : wrap64 ((i : Int) + 1) = ((i + 1 : Nat) : Int) := by unfold wrap64; omega
    rw [hw]
    by_cases hz : bt s (i : Int) = 0
    · rw [if_pos hz, if_pos (by simp; omega), ih (i + 1) k _ (by omega) (by omega) (by simp; omega), esc, if_pos hz, hz]
      simp
    · rw [if_neg hz, ih (i + 1) k _ (by omega) (by omega) (by simp; omega), esc, if_neg hz]
      simp
theorem text_f (s : ByteArray) (hs : s.size ≤ 1000000000) : PA.key_text.f (s.size + 1) s = some (textB s) := by
  have := text_l0 s hs s.size 0 (s.size + 1) [] (by omega) (by omega) (by simp)
  simpa [PA.key_text.f, textB] using this
theorem text_calls {s : ByteArray} (hs : s.size ≤ 1000000000) (w : World) :
    Calls Tryz.prog 146 #[.string s] w fun e w' => ∃ v, e = .returned v ∧ Kd.R (Kd.int .u8) 5 w' w.heap.size (new w) v (textB s) ∧ Below w.heap.size w w' :=
  (PA.key_text.calls (s.size + 1) s (textB s) w (text_f s hs)).mono fun e w' ⟨v, he, hr, hb⟩ => ⟨v, he, Kd.R_mono (Kd.R_bound hr) (fun k hk => hk.2.1), hb⟩
/-- A value's bytes. -/
def keyB (x : PA.S45) : List Int := if x.f0 = 1 then 1 :: beB (x.f1 + 9223372036854775808) else if x.f0 = 2 then 2 :: textB x.f2 else [x.f0 % 256, if x.f3 = true then 1 else 0]
theorem R_block1 {w : World} {g : Nat} {x : Int} {base : Nat} {ok : Nat → Prop} (h : w.heap[g]? = some (.cells #[.int .u8 x] 5 (0, 0))) (hb : base ≤ g) (hok : ok g) : Kd.R (Kd.int .u8) 5 w base ok (.slice (some ⟨g, 0, none⟩) 1 1) [x] :=
  Kd.R_of_own ⟨rfl, .inr ⟨g, 1, _, rfl, hb, h, (by simp), (by decide), rfl, rfl⟩⟩ (fun k hk => by simp [Value.ownBlock] at hk; subst hk; exact hok)
theorem C_block1 {w : World} {g : Nat} {x : Int} (h : w.heap[g]? = some (.cells #[.int .u8 x] 5 (0, 0))) : (Kd.int .u8).C w (some ⟨g, 0, none⟩) 1 [x] :=
  (Kd.R_reads' (R_block1 (base := 0) (ok := fun _ => True) h (Nat.zero_le _) trivial)).2.2
theorem box1 (w : World) (o1 o2 : Obj) : ((w.alloc o1).alloc o2).heap[w.heap.size + 1]? = some o2 := by
  have := blk_new (w.alloc o1) o2
  simpa using this
set_option maxHeartbeats 4000000 in
set_option maxRecDepth 100000 in
theorem one_calls {w : World} {x : PA.S45} (h1 : -9223372036854775808 ≤ x.f1 ∧ x.f1 ≤ 9223372036854775807) (h2 : x.f2.size ≤ 1000000000) :
    Calls Tryz.prog 115 #[aggV x] w fun e w' => ∃ v, e = .returned v ∧ Kd.R (Kd.int .u8) 5 w' w.heap.size (new w) v (keyB x) ∧ Below w.heap.size w w' := by
  obtain ⟨f0, f1, f2, f3⟩ := x
  simp only [aggV] at h1 h2 ⊢
  have hblk := box1 w (.cells #[.int .i64 f0, .int .i64 f1, .string f2, .bool f3] 45) (.cells #[.int .u8 (f0 % 256)] 5)
  have hbel := below_alloc (below_alloc (Below.refl w.heap.size w) (.cells #[.int .i64 f0, .int .i64 f1, .string f2, .bool f3] 45)) (.cells #[.int .u8 (f0 % 256)] 5)
  have HBL := Aside0.mk hblk
  have HBE := Aside0.mk hbel
  clear hblk hbel
  by_cases c1 : f0 = 1
  · subst c1
    have hk : keyB ⟨1, f1, f2, f3⟩ = [1] ++ beB (f1 + 9223372036854775808) := by simp [keyB]
    rw [hk]
    have hcall := number_calls (w := (w.alloc (.cells #[.int .i64 1, .int .i64 f1, .string f2, .bool f3] 45)).alloc (.cells #[.int .u8 1] 5)) h1.1 h1.2
    clear hk
    go_enter Tryz.func115, Tryz.ntmps115
    go_wp2_with fail
    refine hcall.mono ?_
    rintro e w1 ⟨v, rfl, hr, hb⟩
    clear hcall
    obtain ⟨Av, cv, rfl⟩ := Kd.R_slice hr
    have hO : Kd.R (Kd.int .u8) 5 w1 w.heap.size (new w) (.slice (some ⟨w.heap.size + 1, 0, none⟩) 1 1) [1] := R_block1 (blk_below HBL.out hb) (by omega) (by simp only [new]; omega)
    have hBel := below_then HBE.out HBE.out.size hb
    have HO := Aside0.mk hO
    have HR := Aside0.mk (Kd.R_reads' hr).2.2
    have HB := Aside0.mk hBel
    have hsz : w.heap.size ≤ w1.heap.size := hBel.size
    clear hO hr hBel hb HBL HBE
    go_wp2_with (first | ((with_reducible refine gate_builtin (b := .append) (xs := #[.tmp 12, .tmp 15]) rfl ?_); at_builtin; refine Kd.R_append_rows (Kd.int .u8) (w0 := w) w.heap.size rfl (.tmp 12) (.tmp 15) 29 5 (.int .u8 0) 1 rfl Tryz.underlying29 info5 rfl (by decide) (by omega) _ [1] (beB (f1 + 9223372036854775808)) _ _ _ (new w) (fun _ => False) rfl rfl HO.out HR.out (fun _ _ h => h) (fun _ h => h.elim) (fun k hk => by simp only [new]; omega) HB.out hsz (by simp [beB]) ?_; intro v2 w2 ho2 hb2 hg2 hat2; have HO2 := Aside0.mk ho2; have HB2 := Aside0.mk hb2; clear ho2 hb2 hg2 hat2))
    go_ret
    exact ⟨_, rfl, HO2.out, HB2.out⟩
  · have hc1 : (f0 == 1) = false := beq_eq_false_iff_ne.mpr c1
    by_cases c2 : f0 = 2
    · subst c2
      have hk : keyB ⟨2, f1, f2, f3⟩ = [2] ++ textB f2 := by simp [keyB]
      rw [hk]
      have hcall := text_calls h2 ((w.alloc (.cells #[.int .i64 2, .int .i64 f1, .string f2, .bool f3] 45)).alloc (.cells #[.int .u8 2] 5))
      have htl := textB_len f2
      have hsl : [(2:Int)].length = 1 := rfl
      clear hk
      go_enter Tryz.func115, Tryz.ntmps115
      go_wp2_with fail
      refine hcall.mono ?_
      rintro e w1 ⟨v, rfl, hr, hb⟩
      clear hcall
      obtain ⟨Av, cv, rfl⟩ := Kd.R_slice hr
      have hO : Kd.R (Kd.int .u8) 5 w1 w.heap.size (new w) (.slice (some ⟨w.heap.size + 1, 0, none⟩) 1 1) [2] := R_block1 (blk_below HBL.out hb) (by omega) (by simp only [new]; omega)
      have hBel := below_then HBE.out HBE.out.size hb
      have HO := Aside0.mk hO
      have HR := Aside0.mk (Kd.R_reads' hr).2.2
      have HB := Aside0.mk hBel
      have hsz : w.heap.size ≤ w1.heap.size := hBel.size
      clear hO hr hBel hb HBL HBE
      go_wp2_with (first | ((with_reducible refine gate_builtin (b := .append) (xs := #[.tmp 19, .tmp 22]) rfl ?_); at_builtin; refine Kd.R_append_rows (Kd.int .u8) (w0 := w) w.heap.size rfl (.tmp 19) (.tmp 22) 29 5 (.int .u8 0) 1 rfl Tryz.underlying29 info5 rfl (by decide) (by omega) _ [2] (textB f2) _ _ _ (new w) (fun _ => False) rfl rfl HO.out HR.out (fun _ _ h => h) (fun _ h => h.elim) (fun k hk => by simp only [new]; omega) HB.out hsz (by rw [hsl]; omega) ?_; intro v2 w2 ho2 hb2 hg2 hat2; have HO2 := Aside0.mk ho2; have HB2 := Aside0.mk hb2; clear ho2 hb2 hg2 hat2))
      go_ret
      exact ⟨_, rfl, HO2.out, HB2.out⟩
    · have hc2 : (f0 == 2) = false := beq_eq_false_iff_ne.mpr c2
      have hk : keyB ⟨f0, f1, f2, f3⟩ = [f0 % 256] ++ [if f3 = true then 1 else 0] := by simp [keyB, c1, c2]
      rw [hk]
      clear hk c1 c2
      cases f3 with
      | true =>
        have hO : Kd.R (Kd.int .u8) 5 (((w.alloc (.cells #[.int .i64 f0, .int .i64 f1, .string f2, .bool true] 45)).alloc (.cells #[.int .u8 (f0 % 256)] 5)).alloc (.cells #[.int .u8 1] 5)) w.heap.size (new w) (.slice (some ⟨w.heap.size + 1, 0, none⟩) 1 1) [f0 % 256] := R_block1 (blk_box HBL.out) (by omega) (by simp only [new]; omega)
        have hC := C_block1 (blk_new ((w.alloc (.cells #[.int .i64 f0, .int .i64 f1, .string f2, .bool true] 45)).alloc (.cells #[.int .u8 (f0 % 256)] 5)) (.cells #[.int .u8 1] 5))
        have HB := Aside0.mk (below_alloc HBE.out (.cells #[.int .u8 1] 5))
        have hW2 : ((w.alloc (.cells #[.int .i64 f0, .int .i64 f1, .string f2, .bool true] 45)).alloc (.cells #[.int .u8 (f0 % 256)] 5)).heap.size = w.heap.size + 1 + 1 := by simp
        rw [hW2] at hC
        have HO := Aside0.mk hO
        have HC := Aside0.mk hC
        clear hO hC hW2 HBL HBE
        go_enter Tryz.func115, Tryz.ntmps115
        go_wp2_with (first | ((with_reducible refine gate_builtin (b := .append) (xs := #[.tmp 26, .tmp 27]) rfl ?_); at_builtin; refine Kd.R_append_rows (Kd.int .u8) (w0 := w) w.heap.size rfl (.tmp 26) (.tmp 27) 29 5 (.int .u8 0) 1 rfl Tryz.underlying29 info5 rfl (by decide) (by omega) _ [f0 % 256] [1] (some ⟨w.heap.size + 1 + 1, 0, none⟩) 1 1 (new w) (fun _ => False) rfl rfl HO.out HC.out (fun _ _ h => h) (fun _ h => h.elim) (fun k hk => by simp only [new]; simp at hk; omega) HB.out (by simp; try omega) (by simp) ?_; intro v2 w2 ho2 hb2 hg2 hat2; have HO2 := Aside0.mk ho2; have HB2 := Aside0.mk hb2; clear ho2 hb2 hg2 hat2))
        go_ret
        exact ⟨_, rfl, HO2.out, HB2.out⟩
      | false =>
        have hO : Kd.R (Kd.int .u8) 5 (((w.alloc (.cells #[.int .i64 f0, .int .i64 f1, .string f2, .bool false] 45)).alloc (.cells #[.int .u8 (f0 % 256)] 5)).alloc (.cells #[.int .u8 0] 5)) w.heap.size (new w) (.slice (some ⟨w.heap.size + 1, 0, none⟩) 1 1) [f0 % 256] := R_block1 (blk_box HBL.out) (by omega) (by simp only [new]; omega)
        have hC := C_block1 (blk_new ((w.alloc (.cells #[.int .i64 f0, .int .i64 f1, .string f2, .bool false] 45)).alloc (.cells #[.int .u8 (f0 % 256)] 5)) (.cells #[.int .u8 0] 5))
        have HB := Aside0.mk (below_alloc HBE.out (.cells #[.int .u8 0] 5))
        have hW2 : ((w.alloc (.cells #[.int .i64 f0, .int .i64 f1, .string f2, .bool false] 45)).alloc (.cells #[.int .u8 (f0 % 256)] 5)).heap.size = w.heap.size + 1 + 1 := by simp
        rw [hW2] at hC
        have HO := Aside0.mk hO
        have HC := Aside0.mk hC
        clear hO hC hW2 HBL HBE
        go_enter Tryz.func115, Tryz.ntmps115
        go_wp2_with (first | ((with_reducible refine gate_builtin (b := .append) (xs := #[.tmp 29, .tmp 30]) rfl ?_); at_builtin; refine Kd.R_append_rows (Kd.int .u8) (w0 := w) w.heap.size rfl (.tmp 29) (.tmp 30) 29 5 (.int .u8 0) 1 rfl Tryz.underlying29 info5 rfl (by decide) (by omega) _ [f0 % 256] [0] (some ⟨w.heap.size + 1 + 1, 0, none⟩) 1 1 (new w) (fun _ => False) rfl rfl HO.out HC.out (fun _ _ h => h) (fun _ h => h.elim) (fun k hk => by simp only [new]; simp at hk; omega) HB.out (by simp; try omega) (by simp) ?_; intro v2 w2 ho2 hb2 hg2 hat2; have HO2 := Aside0.mk ho2; have HB2 := Aside0.mk hb2; clear ho2 hb2 hg2 hat2))
        go_ret
        exact ⟨_, rfl, HO2.out, HB2.out⟩
end Go.Proofs.YtpidhnnckolapaaGreatDoor.K
namespace Go.Proofs.YtpidhnnckolapaaGreatDoor.K
open Go.RowKit Go.Proofs.YtpidhnnckolapaaGreatDoorW.PrintWords Go.Proofs.YtpidhnnckolapaaGreatDoorW.PrintLast
set_option linter.unusedVariables false
set_option linter.unusedSimpArgs false
theorem eqS (a b : ByteArray) : (a.toList == b.toList) = decide (a = b) := by
  rw [ByteArray.toList_eq, ByteArray.toList_eq]
  by_cases h : a = b
  · subst h; simp
  · rw [decide_eq_false h]
    refine beq_eq_false_iff_ne.mpr (fun e => h ?_)
    cases a; cases b
    simp only [ByteArray.mk.injEq]
    exact Array.toList_inj.1 e
/-- Is it a value? -/
def rightV (x : PA.S45) : Bool := if x.f0 = 1 then decide (x.f2 = ⟨#[]⟩) && !x.f3 else if x.f0 = 2 then x.f1 == 0 && (!x.f3 && decide (x.f2.size ≤ 4096)) else if x.f0 = 3 then x.f1 == 0 && decide (x.f2 = ⟨#[]⟩) else false
theorem right_f (x : PA.S45) : PA.value_Right.f x.f0 x.f1 x.f2 x.f3 = some (rightV x) := by
  obtain ⟨a, b, c, d⟩ := x
  unfold PA.value_Right.f rightV
  simp only [PA.value_Int.f, PA.value_Str.f, PA.value_Bool.f, Option.bind_some, eqS]
  by_cases h1 : a = 1
  · subst h1; simp only [if_true, beq_self_eq_true, Bool.true_and]
    cases d <;> simp
  · rw [if_neg h1, if_neg h1]
    by_cases h2 : a = 2
    · subst h2; simp only [if_true, beq_self_eq_true, Bool.true_and, decide_true]
      by_cases hb : b = 0
      · subst hb
        cases d <;> simp <;> omega
      · have : (b == 0) = false := beq_eq_false_iff_ne.mpr hb
        simp [this]
    · rw [if_neg h2, if_neg h2]
      by_cases h3 : a = 3
      · subst h3; simp
      · rw [if_neg h3, if_neg h3]
theorem right_calls (x : PA.S45) (w : World) : Calls Tryz.prog 59 #[aggV x] w fun e w' => e = .returned (.bool (rightV x)) ∧ Below w.heap.size w w' :=
  PA.value_Right.calls x.f0 x.f1 x.f2 x.f3 (rightV x) w (right_f x)
set_option maxHeartbeats 4000000 in
set_option maxRecDepth 100000 in
/-- key.Of, of one value that is one. -/
theorem Of_calls {w : World} {x : PA.S45} {g : Nat} (hb : w.heap[g]? = some (.cells #[.int .i64 x.f0, .int .i64 x.f1, .string x.f2, .bool x.f3] 45 (0, 0))) (hR : rightV x = true) (h1 : -9223372036854775808 ≤ x.f1 ∧ x.f1 ≤ 9223372036854775807) (h2 : x.f2.size ≤ 1000000000) :
    Calls Tryz.prog 60 #[.slice (some ⟨g, 0, none⟩) 1 1] w fun e w' => ∃ v, e = .returned v ∧ Kd.R (Kd.int .u8) 5 w' w.heap.size (new w) v (keyB x) ∧ Below w.heap.size w w' := by
  have hright := right_calls x (w.alloc (.cells #[.int .i64 x.f0, .int .i64 x.f1, .string x.f2, .bool x.f3] 45))
  rw [hR] at hright
  have hone := fun (W : World) => one_calls (w := W) h1 h2
  have hkl : (keyB x).length ≤ 2000000010 := by
    unfold keyB
    have := textB_len x.f2
    split
    · simp [beB]
    · split
      · simp; omega
      · simp
  generalize keyB x = kb at *
  obtain ⟨f0, f1, f2, f3⟩ := x
  simp only [aggV] at *
  have hc0 := (blk_cell hb 0).trans rfl
  have hc1 := (blk_cell hb 1).trans rfl
  have hc2 := (blk_cell hb 2).trans rfl
  have hc3 := (blk_cell hb 3).trans rfl
  have hg := blk_lt hb
  have HBX := Aside0.mk (blk_new w (.cells #[.int .i64 f0, .int .i64 f1, .string f2, .bool f3] 45))
  have HBE := Aside0.mk (below_alloc (Below.refl w.heap.size w) (.cells #[.int .i64 f0, .int .i64 f1, .string f2, .bool f3] 45))
  clear hb hR h1 h2
  go_enter Tryz.func60, Tryz.ntmps60
  go_wp2_with fail
  refine wp_loop_rounds 2 ?_
  rw [rounds_succ]
  go_wp2_with fail
  refine hright.mono ?_
  rintro e w1 ⟨rfl, hb1⟩
  clear hright hc0 hc1 hc2 hc3
  have hbx := blk_below HBX.out hb1
  have hc0 := (blk_cell hbx 0).trans rfl
  have hc1 := (blk_cell hbx 1).trans rfl
  have hc2 := (blk_cell hbx 2).trans rfl
  have hc3 := (blk_cell hbx 3).trans rfl
  have hone' := hone w1
  have HB1 := Aside0.mk (below_then HBE.out HBE.out.size hb1)
  clear hbx hb1 hone HBX
  go_wp2_with fail
  refine hone'.mono ?_
  rintro e w2 ⟨v, rfl, hr, hb2⟩
  clear hone' hc0 hc1 hc2 hc3
  obtain ⟨Av, cv, rfl⟩ := Kd.R_slice hr
  have hBel := below_then HB1.out HB1.out.size hb2
  have HO := Aside0.mk (Kd.R_nil (Kd.int .u8) 5 w2 w.heap.size (new w))
  have HR := Aside0.mk (Kd.R_reads' hr).2.2
  have HB := Aside0.mk hBel
  have hsz : w.heap.size ≤ w2.heap.size := hBel.size
  have hnl : ([] : List Int).length = 0 := rfl
  clear hr hBel hb2 HB1
  go_wp2_with (first | ((with_reducible refine gate_builtin (b := .append) (xs := #[.tmp 15, .tmp 17]) rfl ?_); at_builtin; refine Kd.R_append_rows (Kd.int .u8) (w0 := w) w.heap.size rfl (.tmp 15) (.tmp 17) 29 5 (.int .u8 0) 1 rfl Tryz.underlying29 info5 rfl (by decide) (by omega) _ [] kb _ _ _ (new w) (fun _ => False) rfl rfl HO.out HR.out (fun _ _ h => h) (fun _ h => h.elim) (fun k hk => by simp only [new]; omega) HB.out hsz (by rw [hnl]; omega) ?_; intro v2 w3 ho2 hb2 hg2 hat2; have HO2 := Aside0.mk ho2; have HB2 := Aside0.mk hb2; clear ho2 hb2 hg2 hat2))
  rw [rounds_succ]
  go_wp2_with fail
  go_ret
  exact ⟨_, rfl, HO2.out, HB2.out⟩
end Go.Proofs.YtpidhnnckolapaaGreatDoor.K
