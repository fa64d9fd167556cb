/- A part of the proof that the laws of this seat hold. Conditions: none beyond the row. -/
import Derived.Test.YtdaheikpdckogaaEng1
import Derived.Shelf.GgSortFunc.RowK
import Derived.Shelf.GgSortFunc.InsertionK
import Derived.Shelf.SlSortCmp.WholeK
import Derived.Shelf.SlSortCmp.NoneTotal
import Derived.Test.YtdaheikpdckogaaProg
import Derived.Ground.SlsfProg
import Derived.Shelf.Lay
import Derived.Lib.Small
import Derived.Lib.Walk
import Derived.KernelRfl
set_option linter.unusedVariables false
set_option linter.unusedSimpArgs false
set_option linter.unusedSectionVars false
section
/- A row of one's own as the kit's sorts see it: structs of k cells. -/
namespace Go.Eng
open Go.Proofs Go.Sort
set_option linter.unusedSectionVars false
variable {α : Type} [Inhabited α]
theorem flat_get {enc : α → List Value} {k : Nat} (hk : ∀ x, (enc x).length = k) : ∀ (xs : List α) (t : Nat), t < xs.length * k → (xs.flatMap enc)[t]? = some ((enc xs[t / k]!)[t % k]!)
  | [], t, h => by simp at h
  | x :: xs, t, h => by
    have k0 : 0 < k := by rcases Nat.eq_zero_or_pos k with e | e; · subst e; simp at h
                          · exact e
    rw [List.flatMap_cons]
    by_cases e : t < k
    · rw [List.getElem?_append_left (by rw [hk]; exact e), Nat.div_eq_of_lt e, Nat.mod_eq_of_lt e]
      have e' : t < (enc x).length := by rw [hk]; exact e
      simp [e']
    · obtain ⟨u, rfl⟩ : ∃ u, t = k + u := ⟨t - k, by omega⟩
      have hu : u < xs.length * k := by
        rw [List.length_cons, Nat.add_mul, Nat.one_mul] at h; omega
      rw [List.getElem?_append_right (by rw [hk]; omega), hk, Nat.add_sub_cancel_left, flat_get hk xs u hu, Nat.add_div_left _ k0, Nat.add_mod_left]
      simp
theorem flat_len {enc : α → List Value} {k : Nat} (hk : ∀ x, (enc x).length = k) (xs : List α) : (xs.flatMap enc).length = xs.length * k := by
  induction xs with
  | nil => simp
  | cons x xs ih => rw [List.flatMap_cons, List.length_append, hk, ih, List.length_cons, Nat.add_mul]; omega
theorem flatK_list {enc : α → List Value} {k : Nat} (hk : ∀ x, (enc x).length = k) (d : Array α) : (flatK enc k d).toList = d.toList.flatMap enc := by
  apply List.ext_getElem?
  intro t
  by_cases h : t < d.size * k
  · rw [flat_get hk d.toList t (by simpa using h)]
    have := get_flatK enc k d t h
    rw [Array.getElem?_toList]
    rw [getElem!_pos _ t (by simpa using h)] at this
    rw [Array.getElem?_eq_getElem (by simpa using h), this]
    have e : d.toList[t / k]! = d[t / k]! := by rw [getElem!_def, getElem!_def, Array.getElem?_toList]
    rw [e]
  · rw [List.getElem?_eq_none (by simp; omega), List.getElem?_eq_none (by rw [flat_len hk]; simp; omega)]
theorem holdsK_of {enc : α → List Value} {k : Nat} (hk : ∀ x, (enc x).length = k) {w : World} {blk off : Nat} {xs : List α} {cells : Array Value} {t : TypeId} (hb : w.heap[blk]? = some (.cells cells t (0, 0)))
    (h : (cells.toList.drop off).take (xs.length * k) = xs.flatMap enc) : HoldsK enc k w blk off xs.toArray := by
  intro j hj
  have hj' : j < xs.length * k := by simpa using hj
  have e1 : (flatK enc k xs.toArray)[j]! = (enc xs[j / k]!)[j % k]! := by rw [get_flatK _ _ _ _ (by simpa using hj')]; simp
  have e2 : cells[off + j]? = some ((enc xs[j / k]!)[j % k]!) := by
    rw [← flat_get hk xs j hj', ← h, List.getElem?_take_of_lt hj', List.getElem?_drop]; simp
  refine ⟨?_, ?_⟩
  · show World.cell? w ⟨blk, off + j, none⟩ = _
    unfold World.cell?
    simp only [hb]
    rw [e2, e1]; rfl
  · unfold World.frozen?
    simp only [hb]
    simp
theorem putCells_list {F : Array Value} {off : Nat} {cells : Array Value} (h : off + F.size ≤ cells.size) : (putCells id off F cells).toList = cells.toList.take off ++ (F.toList ++ cells.toList.drop (off + F.size)) := by
  apply List.ext_getElem?
  intro t
  unfold putCells
  rw [Array.getElem?_toList, Array.getElem?_mapIdx]
  by_cases h1 : t < off
  · rw [List.getElem?_append_left (by simp; omega), List.getElem?_take_of_lt h1, Array.getElem?_toList, Array.getElem?_eq_getElem (show t < cells.size by omega)]
    simp; omega
  · rw [List.getElem?_append_right (by simp; omega)]
    have hl : (cells.toList.take off).length = off := by simp; omega
    rw [hl]
    by_cases h2 : t < off + F.size
    · rw [List.getElem?_append_left (by simp; omega), Array.getElem?_toList, Array.getElem?_eq_getElem (show t - off < F.size by omega), Array.getElem?_eq_getElem (show t < cells.size by omega)]
      simp only [Option.map_some]
      rw [if_pos ⟨by omega, h2⟩, getElem!_pos F (t - off) (by omega)]; rfl
    · rw [List.getElem?_append_right (by simp; omega), List.getElem?_drop]
      have : off + F.size + (t - off - F.toList.length) = t := by simp; omega
      rw [this, Array.getElem?_toList]
      by_cases h3 : t < cells.size
      · rw [Array.getElem?_eq_getElem h3]; simp; omega
      · rw [Array.getElem?_eq_none (by omega)]; rfl
end Go.Eng
end
section
/- slices.SortFunc at structs, as the engine wants it: out of the kit's law. -/
namespace Go.Eng
open Go.Proofs Go.Sort Go.Shelf
noncomputable def sortF {α : Type} [Inhabited α] (cf : α → α → Int) (xs : List α) : List α := (pdq (ltOf cf) xs.toArray 0 xs.toArray.size (Lib.bitLen xs.toArray.size) true true).toList
theorem sortF_ok {α : Type} [Inhabited α] {cf : α → α → Int} (hO : SWO (ltOf cf)) (xs : List α) : PermIn 0 xs.toArray.size xs.toArray (sortF cf xs).toArray ∧ SortedIn (ltOf cf) 0 xs.toArray.size (sortF cf xs).toArray := by
  have h := pdq_sorts (ltOf cf) hO xs.toArray 0 xs.toArray.size (Lib.bitLen xs.toArray.size) true true (Nat.zero_le _) (Nat.le_refl _) (Or.inl rfl)
  unfold sortF
  rw [Array.toArray_toList]
  exact h
theorem sortF_len {α : Type} [Inhabited α] {cf : α → α → Int} (hO : SWO (ltOf cf)) (xs : List α) : (sortF cf xs).length = xs.length := by
  have := (sortF_ok hO xs).1.1
  simpa using this
theorem sortF_perm {α : Type} [Inhabited α] {cf : α → α → Int} (hO : SWO (ltOf cf)) (xs : List α) : (sortF cf xs).Perm xs := by
  have h := (sortF_ok hO xs).1
  have h2 := h.2.2
  have e1 : (sortF cf xs).toArray.extract 0 xs.toArray.size = (sortF cf xs).toArray := by
    rw [← h.1]; simp
  have e2 : xs.toArray.extract 0 xs.toArray.size = xs.toArray := by simp
  rw [e1, e2] at h2
  exact h2
theorem sortF_asc {α : Type} [Inhabited α] {cf : α → α → Int} (hO : SWO (ltOf cf)) (xs : List α) : (sortF cf xs).Pairwise fun a b => ¬ cf b a < 0 := by
  rw [List.pairwise_iff_getElem]
  intro i j hi hj hij
  have h := (sortF_ok hO xs).2 i j (Nat.zero_le _) hij (by have := sortF_len hO xs; simp; omega)
  unfold ltOf at h
  rw [getElem!_pos _ j (by simpa using hj), getElem!_pos _ i (by simpa using hi)] at h
  simpa using h
variable {P : Program} {ρ : Ren}
theorem sortOk_of (L : SlLaysF0.n6 P ρ) (c : TC) [Inhabited c.den] (enc : c.den → List Value) (aE : ∀ w, (isAgg (ρ.t 24)).run P w = .ok true w) (zE : ∀ w, (Go.sizeOf (ρ.t 24)).run P w = .ok c.size w)
    (hR : ∀ ι x l, RepD ι c x l ↔ l = enc x) (hk : ∀ x, (enc x).length = c.size) (h1 : ∀ x, ∀ v ∈ enc x, v.oneCell' = true) (cf : c.den → c.den → Int) (hO : SWO (ltOf cf)) (g : Nat)
    (eg : ∀ args w, (callFunc g args).run P w = .ok (.enter g args) w) (e6 : ∀ args w, (callFunc (ρ.f 6) args).run P w = .ok (.enter (ρ.f 6) args) w)
    (hc : ∀ (w : World) x y, Calls P g #[.agg (enc x).toArray, .agg (enc y).toArray] w fun e w' => e = .returned (.int .i64 (cf x y)) ∧ ∃ q os', w' = grow (w.drewN q) os') :
    SortOk P (ρ.f 6) ⟨c, g, sortF cf, enc⟩ := by
  refine ⟨hR, sortF_len hO, fun w => .inr ⟨e6 _ _, ?_⟩, fun w blk off cap xs cells t hl hb hx => .inr ⟨e6 _ _, ?_⟩⟩
  · refine (AnyF.slices_SortFunc_none L none 0 (.func (.func g) #[] #[]) w).mono ?_
    rintro e w' ⟨rfl, rfl⟩
    exact ⟨_, rfl, rfl, Go.RowKit.Below.refl _ _⟩
  · have hb' : blk < w.heap.size := by
      rcases Nat.lt_or_ge blk w.heap.size with h | h
      · exact h
      · rw [Array.getElem?_eq_none h] at hb; cases hb
    have hcl : off + xs.length * c.size ≤ cells.size ∨ xs.length * c.size = 0 := by
      have := congrArg List.length hx
      rw [flat_len hk] at this
      simp at this
      omega
    have key := AnyQ.slices_SortFunc_eq L c.size aE zE enc hk h1 cf hO g #[] blk off cap xs.toArray w eg (fun m os dk _ x y => hc _ x y) (holdsK_of hk hb hx) hb' (by simp; omega)
    refine (show Calls P (ρ.f 6) #[.slice (some ⟨blk, off, none⟩) xs.length cap, .func (.func g) #[] #[]] w _ from key).mono ?_
    rintro e w' ⟨rfl, n, os, rfl⟩
    refine ⟨_, rfl, rfl, ?_⟩
    have hs : (pdq (ltOf cf) xs.toArray 0 xs.toArray.size (Lib.bitLen xs.toArray.size) true true) = (sortF cf xs).toArray := by unfold sortF; rw [Array.toArray_toList]
    rw [hs]
    refine ⟨putRowK enc c.size w blk off (sortF cf xs).toArray, putCells id off (flatK enc c.size (sortF cf xs).toArray) cells, ?_, ?_, ?_, ?_, rfl, rfl, rfl, ?_⟩
    · show (w.heap.modify blk (onCells _))[blk]? = _
      rw [Array.getElem?_modify, if_pos rfl, hb]; rfl
    · have hf : (flatK enc c.size (sortF cf xs).toArray).size = xs.length * c.size := by rw [size_flatK]; simp [sortF_len hO]
      rcases hcl with hcl | hcl
      · rw [putCells_list (by rw [hf]; exact hcl), hf, flatK_list hk]
      · have h0 : (flatK enc c.size (sortF cf xs).toArray).size = 0 := by rw [hf, hcl]
        have h0' : (sortF cf xs).flatMap enc = [] := by
          apply List.eq_nil_of_length_eq_zero
          rw [flat_len hk, sortF_len hO, hcl]
        have : putCells id off (flatK enc c.size (sortF cf xs).toArray) cells = cells := by
          apply Array.ext
          · simp [putCells]
          · intro i h1 h2
            simp only [putCells, Array.getElem_mapIdx, h0]
            rw [if_neg (by omega)]
        rw [this, h0', hcl]
        simp
    · intro k hk'
      show (w.heap.modify blk (onCells _))[k]? = _
      rw [Array.getElem?_modify, if_neg (fun h => hk' h.symm)]
    · show (w.heap.modify blk (onCells _)).size = _
      rw [Array.size_modify]
    · refine ⟨rfl, rfl, rfl, ?_, fun k hk' => ?_⟩
      · show _ ≤ ((w.heap.modify blk (onCells _)) ++ os).size
        simp [putRowK, putRow, mapBlock]
      · show ((w.heap.modify blk (onCells _)) ++ os)[k]? = _
        exact Array.getElem?_append_left (xs := (putRowK enc c.size w blk off (sortF cf xs).toArray).heap) hk'
end Go.Eng
end
section
/- slices.SortFunc of this program's rows of ranges, by their Low. -/
namespace Go.Proofs
open Go.Shelf Go.RowKit Go.Lib Go.Sort
shelf_lay_g SlLaysF0.n6 Slsf 6 at Try 37 as RSSort.lay
end Go.Proofs
namespace Go.Eng.RS
open Go.Proofs Go.Eng Go.Shelf Go.RowKit Go.Lib Go.Sort
def srtCf (x y : Int × Int) : Int := Lib.compareInt x.1 y.1
noncomputable def srt : List (Int × Int) → List (Int × Int) := sortF srtCf
def srtEnc (x : Int × Int) : List Value := [.int .u64 x.1, .int .u64 x.2]
noncomputable def srtD : SortD := ⟨.st (.int .u64) (.st1 (.int .u64)), 38, srt, srtEnc⟩
theorem lt_low (x y : Int × Int) : ltOf srtCf x y = decide (x.1 < y.1) := by
  unfold ltOf srtCf Lib.compareInt
  by_cases h1 : x.1 < y.1
  · simp [h1]
  · by_cases h2 : y.1 < x.1 <;> simp [h1, h2]
theorem swo_low : SWO (ltOf srtCf) where
  irrefl x := by rw [lt_low]; simp
  trans x y z h1 h2 := by rw [lt_low] at *; simp at *; omega
  ntrans x y z h1 h2 := by rw [lt_low] at *; simp at *; omega
theorem nan_u64 (x : Int) (w : World) : Calls Try.prog 45 #[.int .u64 x] w fun e w' => e = .returned (.bool false) ∧ w' = w := by
  go_enter Try.func45, Try.ntmps45
  go_wp2
  go_ret
  exact ⟨by simp, rfl⟩
set_option maxHeartbeats 1000000 in
theorem cmp_u64 (x y : Int) (w : World) : Calls Try.prog 39 #[.int .u64 x, .int .u64 y] w fun e w' => e = .returned (.int .i64 (Lib.compareInt x y)) ∧ w' = w := by
  go_enter Try.func39, Try.ntmps39
  go_wp2_with (go_at_call 45; refine (nan_u64 _ _).mono ?_; rintro e w' ⟨rfl, hw⟩; rw [hw])
  all_goals (go_ret; refine ⟨?_, rfl⟩; unfold Lib.compareInt; (repeat' split) <;> first | rfl | (exfalso; omega))
set_option maxHeartbeats 1000000 in
theorem cmp_low (x y : Int × Int) (W : World) : Calls Try.prog 38 #[.agg #[.int .u64 x.1, .int .u64 x.2], .agg #[.int .u64 y.1, .int .u64 y.2]] W fun e w' => e = .returned (.int .i64 (Lib.compareInt x.1 y.1)) ∧ ∃ q os', w' = grow (W.drewN q) os' := by
  have hcon := fun W' => cmp_u64 x.1 y.1 W'
  generalize Lib.compareInt x.1 y.1 = r at hcon ⊢
  go_enter Try.func38, Try.ntmps38
  go_wp2_with (go_at_call 39; refine (hcon _).mono ?_; rintro e w' ⟨rfl, rfl⟩)
  go_ret
  exact ⟨rfl, 0, _, by rw [alloc_eq_grow, alloc_eq_grow, grow_grow]; rfl⟩
theorem srt_sorts (l : List (Int × Int)) : (srt l).Perm l ∧ (srt l).Pairwise fun a b => a.1 ≤ b.1 := by
  refine ⟨sortF_perm swo_low l, (sortF_asc swo_low l).imp fun {a b} h => ?_⟩
  unfold srtCf Lib.compareInt at h
  by_cases h1 : b.1 < a.1
  · rw [if_pos h1] at h; omega
  · omega
theorem srt_ok : SortOk Try.prog 37 srtD := by
  have eg : ∀ args w, (callFunc 38 args).run Try.prog w = .ok (.enter 38 args) w := enters_of Try.func38 (by kernel_rfl) rfl
  have e6 : ∀ args w, (callFunc 37 args).run Try.prog w = .ok (.enter 37 args) w := enters_of Try.func37 (by kernel_rfl) rfl
  have aE : ∀ w, (isAgg 25).run Try.prog w = .ok true w := Try.isAgg25
  have zE : ∀ w, (Go.sizeOf 25).run Try.prog w = .ok 2 w := Try.sizeOf25
  have hR : ∀ ι (x : Int × Int) l, RepD ι (.st (.int .u64) (.st1 (.int .u64))) x l ↔ l = srtEnc x := fun ι x l => by
    constructor
    · rintro ⟨l1, l2, rfl, h1, h2⟩
      have h1 : l1 = [.int .u64 x.1] := h1
      have h2 : l2 = [.int .u64 x.2] := h2
      rw [h1, h2]; rfl
    · rintro rfl
      exact ⟨[.int .u64 x.1], [.int .u64 x.2], rfl, rfl, rfl⟩
  have h := @sortOk_of Try.prog RSSort.lay_ren RSSort.lay (.st (.int .u64) (.st1 (.int .u64))) (inferInstanceAs (Inhabited (Int × Int))) srtEnc aE zE hR
    (fun _ => rfl) (fun x v hv => by simp [srtEnc] at hv; rcases hv with rfl | rfl <;> rfl) srtCf swo_low 38 eg e6 (fun w x y => cmp_low x y w)
  have e37 : RSSort.lay_ren.f 6 = 37 := rfl
  rw [e37] at h
  exact h
end Go.Eng.RS
end
section
/- The tables of this program, and that they are right. -/
namespace Go.Eng.RT
open Go.Proofs Go.Eng
set_option maxRecDepth 100000

@[reducible] def CerrorAddressString : TC := (.st .str (.st1 (.int .u64)))
@[reducible] def CRange : TC := (.st (.int .u64) (.st1 (.int .u64)))
abbrev DRange : Type := (Int × Int)
@[reducible] def CboundsError : TC := (.st (.int .i64) (.st (.int .i64) (.st .bool (.st1 (.int .u8)))))
noncomputable def ty : TypeId → Option ATy
  | 1 => some { desc := Try.t1.desc, size := 1, bytes := 8, zero := (.raw .nilFunc), code := none }
  | 2 => some { desc := (.int .i64), size := 1, bytes := 8, zero := (.int .i64 0), code := (some (.int .i64)) }
  | 3 => some { desc := (.int .i64), size := 1, bytes := 8, zero := (.int .i64 0), code := (some (.int .i64)) }
  | 4 => some { desc := .bool, size := 1, bytes := 1, zero := (.bool false), code := (some .bool) }
  | 5 => some { desc := (.int .u8), size := 1, bytes := 1, zero := (.int .u8 0), code := (some (.int .u8)) }
  | 6 => some { desc := (.int .u8), size := 1, bytes := 1, zero := (.int .u8 0), code := (some (.int .u8)) }
  | 7 => some { desc := Try.t7.desc, size := 4, bytes := 24, zero := (.agg [1, 1, 1, 1] [(.int .i64 0), (.int .i64 0), (.bool false), (.int .u8 0)]), code := (some CboundsError) }
  | 8 => some { desc := Try.t7.desc, size := 4, bytes := 24, zero := (.agg [1, 1, 1, 1] [(.int .i64 0), (.int .i64 0), (.bool false), (.int .u8 0)]), code := (some CboundsError) }
  | 9 => some { desc := .string, size := 1, bytes := 16, zero := (.str ByteArray.empty), code := (some .str) }
  | 10 => some { desc := .string, size := 1, bytes := 16, zero := (.str ByteArray.empty), code := (some .str) }
  | 11 => some { desc := .string, size := 1, bytes := 16, zero := (.str ByteArray.empty), code := (some .str) }
  | 12 => some { desc := (.int .u64), size := 1, bytes := 8, zero := (.int .u64 0), code := (some (.int .u64)) }
  | 13 => some { desc := Try.t13.desc, size := 2, bytes := 24, zero := (.agg [1, 1] [(.str ByteArray.empty), (.int .u64 0)]), code := (some CerrorAddressString) }
  | 14 => some { desc := Try.t13.desc, size := 2, bytes := 24, zero := (.agg [1, 1] [(.str ByteArray.empty), (.int .u64 0)]), code := (some CerrorAddressString) }
  | 15 => some { desc := (.pointer 78), size := 1, bytes := 8, zero := (.raw (.pointer none)), code := none }
  | 16 => some { desc := (.pointer 81), size := 1, bytes := 8, zero := (.raw (.pointer none)), code := none }
  | 17 => some { desc := (.pointer 90), size := 1, bytes := 8, zero := (.raw (.pointer none)), code := none }
  | 18 => some { desc := Try.t18.desc, size := 1, bytes := 8, zero := (.agg [1] [(.raw (.pointer none))]), code := none }
  | 19 => some { desc := Try.t18.desc, size := 1, bytes := 8, zero := (.agg [1] [(.raw (.pointer none))]), code := none }
  | 20 => some { desc := Try.t20.desc, size := 1, bytes := 16, zero := (.raw .nilIface), code := none }
  | 21 => some { desc := (.int .i32), size := 1, bytes := 4, zero := (.int .i32 0), code := (some (.int .i32)) }
  | 22 => some { desc := (.slice 25), size := 1, bytes := 24, zero := (.raw (.slice none 0 0)), code := (some (.slice CRange)) }
  | 23 => some { desc := (.int .u64), size := 1, bytes := 8, zero := (.int .u64 0), code := (some (.int .u64)) }
  | 24 => some { desc := Try.t24.desc, size := 2, bytes := 16, zero := (.agg [1, 1] [(.int .u64 0), (.int .u64 0)]), code := (some CRange) }
  | 25 => some { desc := Try.t24.desc, size := 2, bytes := 16, zero := (.agg [1, 1] [(.int .u64 0), (.int .u64 0)]), code := (some CRange) }
  | 26 => some { desc := Try.t26.desc, size := 1, bytes := 8, zero := (.raw .nilFunc), code := none }
  | 27 => some { desc := Try.t27.desc, size := 1, bytes := 8, zero := (.raw .nilFunc), code := none }
  | 28 => some { desc := Try.t28.desc, size := 1, bytes := 8, zero := (.raw .nilFunc), code := none }
  | 29 => some { desc := Try.t29.desc, size := 1, bytes := 8, zero := (.raw .nilFunc), code := none }
  | 30 => some { desc := Try.t30.desc, size := 1, bytes := 8, zero := (.raw .nilFunc), code := none }
  | 31 => some { desc := Try.t31.desc, size := 1, bytes := 8, zero := (.raw .nilFunc), code := none }
  | 32 => some { desc := Try.t32.desc, size := 1, bytes := 8, zero := (.raw .nilFunc), code := none }
  | 33 => some { desc := Try.t33.desc, size := 1, bytes := 8, zero := (.raw .nilFunc), code := none }
  | 34 => some { desc := Try.t34.desc, size := 1, bytes := 8, zero := (.raw .nilFunc), code := none }
  | 35 => some { desc := Try.t35.desc, size := 1, bytes := 8, zero := (.raw .nilFunc), code := none }
  | 36 => some { desc := Try.t36.desc, size := 1, bytes := 8, zero := (.raw .nilFunc), code := none }
  | 37 => some { desc := Try.t37.desc, size := 1, bytes := 8, zero := (.raw .nilFunc), code := none }
  | 38 => some { desc := Try.t38.desc, size := 1, bytes := 8, zero := (.raw .nilFunc), code := none }
  | 39 => some { desc := Try.t38.desc, size := 1, bytes := 8, zero := (.raw .nilFunc), code := none }
  | 40 => some { desc := Try.t40.desc, size := 1, bytes := 8, zero := (.raw .nilFunc), code := none }
  | 41 => some { desc := Try.t41.desc, size := 1, bytes := 8, zero := (.raw .nilFunc), code := none }
  | 42 => some { desc := Try.t42.desc, size := 1, bytes := 8, zero := (.raw .nilFunc), code := none }
  | 43 => some { desc := Try.t43.desc, size := 1, bytes := 8, zero := (.raw .nilFunc), code := none }
  | 45 => some { desc := (.slice 22), size := 1, bytes := 24, zero := (.raw (.slice none 0 0)), code := (some (.slice (.slice CRange))) }
  | 46 => some { desc := Try.t46.desc, size := 1, bytes := 8, zero := (.raw .nilFunc), code := none }
  | 47 => some { desc := Try.t47.desc, size := 1, bytes := 8, zero := (.raw .nilFunc), code := none }
  | 48 => some { desc := Try.t48.desc, size := 1, bytes := 8, zero := (.raw .nilFunc), code := none }
  | 49 => some { desc := Try.t49.desc, size := 1, bytes := 8, zero := (.raw .nilFunc), code := none }
  | 50 => some { desc := Try.t50.desc, size := 1, bytes := 8, zero := (.raw .nilFunc), code := none }
  | 51 => some { desc := Try.t51.desc, size := 1, bytes := 8, zero := (.raw .nilFunc), code := none }
  | 52 => some { desc := Try.t52.desc, size := 1, bytes := 8, zero := (.raw .nilFunc), code := none }
  | 53 => some { desc := Try.t53.desc, size := 1, bytes := 8, zero := (.raw .nilFunc), code := none }
  | 54 => some { desc := (.int .u64), size := 1, bytes := 8, zero := (.int .u64 0), code := (some (.int .u64)) }
  | 55 => some { desc := Try.t55.desc, size := 1, bytes := 8, zero := (.raw .nilFunc), code := none }
  | 56 => some { desc := Try.t56.desc, size := 1, bytes := 8, zero := (.raw .nilFunc), code := none }
  | 57 => some { desc := (.int .i64), size := 1, bytes := 8, zero := (.int .i64 0), code := (some (.int .i64)) }
  | 59 => some { desc := Try.t59.desc, size := 1, bytes := 8, zero := (.raw .nilFunc), code := none }
  | 60 => some { desc := Try.t60.desc, size := 1, bytes := 8, zero := (.raw .nilFunc), code := none }
  | 61 => some { desc := Try.t61.desc, size := 1, bytes := 8, zero := (.raw .nilFunc), code := none }
  | 63 => some { desc := Try.t63.desc, size := 1, bytes := 8, zero := (.raw .nilFunc), code := none }
  | 64 => some { desc := Try.t64.desc, size := 1, bytes := 8, zero := (.raw .nilFunc), code := none }
  | 65 => some { desc := (.int .u32), size := 1, bytes := 4, zero := (.int .u32 0), code := (some (.int .u32)) }
  | 66 => some { desc := Try.t66.desc, size := 1, bytes := 8, zero := (.raw .nilFunc), code := none }
  | 67 => some { desc := (.int .u64), size := 1, bytes := 8, zero := (.int .u64 0), code := (some (.int .u64)) }
  | 68 => some { desc := Try.t68.desc, size := 1, bytes := 8, zero := (.raw .nilFunc), code := none }
  | 69 => some { desc := Try.t69.desc, size := 1, bytes := 8, zero := (.raw .nilFunc), code := none }
  | 70 => some { desc := Try.t70.desc, size := 1, bytes := 8, zero := (.raw .nilFunc), code := none }
  | 71 => some { desc := (.pointer 3), size := 1, bytes := 8, zero := (.raw (.pointer none)), code := none }
  | 72 => some { desc := Try.t72.desc, size := 1, bytes := 8, zero := (.raw .nilFunc), code := none }
  | 73 => some { desc := (.pointer 67), size := 1, bytes := 8, zero := (.raw (.pointer none)), code := none }
  | 75 => some { desc := Try.t75.desc, size := 1, bytes := 8, zero := (.raw .nilFunc), code := none }
  | 76 => some { desc := Try.t76.desc, size := 1, bytes := 8, zero := (.raw .nilFunc), code := none }
  | 77 => some { desc := Try.t77.desc, size := 4, bytes := 40, zero := (.agg [1, 1, 1, 1] [(.raw (.pointer none)), (.raw (.pointer none)), (.raw (.pointer none)), (.str ByteArray.empty)]), code := none }
  | 78 => some { desc := Try.t77.desc, size := 4, bytes := 40, zero := (.agg [1, 1, 1, 1] [(.raw (.pointer none)), (.raw (.pointer none)), (.raw (.pointer none)), (.str ByteArray.empty)]), code := none }
  | 79 => some { desc := (.array 0 16), size := 0, bytes := 0, zero := (.agg [] []), code := none }
  | 82 => some { desc := Try.t82.desc, size := 1, bytes := 8, zero := (.raw .nilFunc), code := none }
  | 83 => some { desc := (.int .u8), size := 1, bytes := 1, zero := (.int .u8 0), code := (some (.int .u8)) }
  | 84 => some { desc := (.int .u8), size := 1, bytes := 1, zero := (.int .u8 0), code := (some (.int .u8)) }
  | 85 => some { desc := Try.t85.desc, size := 1, bytes := 8, zero := (.raw .nilFunc), code := none }
  | 86 => some { desc := (.pointer 5), size := 1, bytes := 8, zero := (.raw (.pointer none)), code := none }
  | 87 => some { desc := (.int .i32), size := 1, bytes := 4, zero := (.int .i32 0), code := (some (.int .i32)) }
  | 88 => some { desc := (.int .i32), size := 1, bytes := 4, zero := (.int .i32 0), code := (some (.int .i32)) }
  | 89 => some { desc := Try.t89.desc, size := 11, bytes := 48, zero := (.agg [1, 1, 1, 1, 1, 1, 1, 1, 1, 1, 1] [(.int .u64 0), (.int .u64 0), (.int .u32 0), (.int .u8 0), (.int .u8 0), (.int .u8 0), (.int .u8 0), (.raw .nilFunc), (.raw (.pointer none)), (.int .i32 0), (.int .i32 0)]), code := none }
  | 90 => some { desc := Try.t89.desc, size := 11, bytes := 48, zero := (.agg [1, 1, 1, 1, 1, 1, 1, 1, 1, 1, 1] [(.int .u64 0), (.int .u64 0), (.int .u32 0), (.int .u8 0), (.int .u8 0), (.int .u8 0), (.int .u8 0), (.raw .nilFunc), (.raw (.pointer none)), (.int .i32 0), (.int .i32 0)]), code := none }
  | _ => none

theorem ty_ok : ∀ t d, ty t = some d → d.ok Try.prog t := by
  intro t d h
  unfold ty at h
  split at h
  · cases h; exact ATy.ok_of (i := Try.t1) Try.underlying1 Try.type1 rfl (by kernel_rfl)
  · cases h; exact ATy.ok_of (i := Try.t2) Try.underlying2 Try.type2 rfl (by kernel_rfl)
  · cases h; exact ATy.ok_of (i := Try.t3) Try.underlying3 Try.type3 rfl (by kernel_rfl)
  · cases h; exact ATy.ok_of (i := Try.t4) Try.underlying4 Try.type4 rfl (by kernel_rfl)
  · cases h; exact ATy.ok_of (i := Try.t5) Try.underlying5 Try.type5 rfl (by kernel_rfl)
  · cases h; exact ATy.ok_of (i := Try.t6) Try.underlying6 Try.type6 rfl (by kernel_rfl)
  · cases h; exact ATy.ok_of (i := Try.t7) Try.underlying7 Try.type7 rfl (by kernel_rfl)
  · cases h; exact ATy.ok_of (i := Try.t8) Try.underlying8 Try.type8 rfl (by kernel_rfl)
  · cases h; exact ATy.ok_of (i := Try.t9) Try.underlying9 Try.type9 rfl (by kernel_rfl)
  · cases h; exact ATy.ok_of (i := Try.t10) Try.underlying10 Try.type10 rfl (by kernel_rfl)
  · cases h; exact ATy.ok_of (i := Try.t11) Try.underlying11 Try.type11 rfl (by kernel_rfl)
  · cases h; exact ATy.ok_of (i := Try.t12) Try.underlying12 Try.type12 rfl (by kernel_rfl)
  · cases h; exact ATy.ok_of (i := Try.t13) Try.underlying13 Try.type13 rfl (by kernel_rfl)
  · cases h; exact ATy.ok_of (i := Try.t14) Try.underlying14 Try.type14 rfl (by kernel_rfl)
  · cases h; exact ATy.ok_of (i := Try.t15) Try.underlying15 Try.type15 rfl (by kernel_rfl)
  · cases h; exact ATy.ok_of (i := Try.t16) Try.underlying16 Try.type16 rfl (by kernel_rfl)
  · cases h; exact ATy.ok_of (i := Try.t17) Try.underlying17 Try.type17 rfl (by kernel_rfl)
  · cases h; exact ATy.ok_of (i := Try.t18) Try.underlying18 Try.type18 rfl (by kernel_rfl)
  · cases h; exact ATy.ok_of (i := Try.t19) Try.underlying19 Try.type19 rfl (by kernel_rfl)
  · cases h; exact ATy.ok_of (i := Try.t20) Try.underlying20 Try.type20 rfl (by kernel_rfl)
  · cases h; exact ATy.ok_of (i := Try.t21) Try.underlying21 Try.type21 rfl (by kernel_rfl)
  · cases h; exact ATy.ok_of (i := Try.t22) Try.underlying22 Try.type22 rfl (by kernel_rfl)
  · cases h; exact ATy.ok_of (i := Try.t23) Try.underlying23 Try.type23 rfl (by kernel_rfl)
  · cases h; exact ATy.ok_of (i := Try.t24) Try.underlying24 Try.type24 rfl (by kernel_rfl)
  · cases h; exact ATy.ok_of (i := Try.t25) Try.underlying25 Try.type25 rfl (by kernel_rfl)
  · cases h; exact ATy.ok_of (i := Try.t26) Try.underlying26 Try.type26 rfl (by kernel_rfl)
  · cases h; exact ATy.ok_of (i := Try.t27) Try.underlying27 Try.type27 rfl (by kernel_rfl)
  · cases h; exact ATy.ok_of (i := Try.t28) Try.underlying28 Try.type28 rfl (by kernel_rfl)
  · cases h; exact ATy.ok_of (i := Try.t29) Try.underlying29 Try.type29 rfl (by kernel_rfl)
  · cases h; exact ATy.ok_of (i := Try.t30) Try.underlying30 Try.type30 rfl (by kernel_rfl)
  · cases h; exact ATy.ok_of (i := Try.t31) Try.underlying31 Try.type31 rfl (by kernel_rfl)
  · cases h; exact ATy.ok_of (i := Try.t32) Try.underlying32 Try.type32 rfl (by kernel_rfl)
  · cases h; exact ATy.ok_of (i := Try.t33) Try.underlying33 Try.type33 rfl (by kernel_rfl)
  · cases h; exact ATy.ok_of (i := Try.t34) Try.underlying34 Try.type34 rfl (by kernel_rfl)
  · cases h; exact ATy.ok_of (i := Try.t35) Try.underlying35 Try.type35 rfl (by kernel_rfl)
  · cases h; exact ATy.ok_of (i := Try.t36) Try.underlying36 Try.type36 rfl (by kernel_rfl)
  · cases h; exact ATy.ok_of (i := Try.t37) Try.underlying37 Try.type37 rfl (by kernel_rfl)
  · cases h; exact ATy.ok_of (i := Try.t38) Try.underlying38 Try.type38 rfl (by kernel_rfl)
  · cases h; exact ATy.ok_of (i := Try.t39) Try.underlying39 Try.type39 rfl (by kernel_rfl)
  · cases h; exact ATy.ok_of (i := Try.t40) Try.underlying40 Try.type40 rfl (by kernel_rfl)
  · cases h; exact ATy.ok_of (i := Try.t41) Try.underlying41 Try.type41 rfl (by kernel_rfl)
  · cases h; exact ATy.ok_of (i := Try.t42) Try.underlying42 Try.type42 rfl (by kernel_rfl)
  · cases h; exact ATy.ok_of (i := Try.t43) Try.underlying43 Try.type43 rfl (by kernel_rfl)
  · cases h; exact ATy.ok_of (i := Try.t45) Try.underlying45 Try.type45 rfl (by kernel_rfl)
  · cases h; exact ATy.ok_of (i := Try.t46) Try.underlying46 Try.type46 rfl (by kernel_rfl)
  · cases h; exact ATy.ok_of (i := Try.t47) Try.underlying47 Try.type47 rfl (by kernel_rfl)
  · cases h; exact ATy.ok_of (i := Try.t48) Try.underlying48 Try.type48 rfl (by kernel_rfl)
  · cases h; exact ATy.ok_of (i := Try.t49) Try.underlying49 Try.type49 rfl (by kernel_rfl)
  · cases h; exact ATy.ok_of (i := Try.t50) Try.underlying50 Try.type50 rfl (by kernel_rfl)
  · cases h; exact ATy.ok_of (i := Try.t51) Try.underlying51 Try.type51 rfl (by kernel_rfl)
  · cases h; exact ATy.ok_of (i := Try.t52) Try.underlying52 Try.type52 rfl (by kernel_rfl)
  · cases h; exact ATy.ok_of (i := Try.t53) Try.underlying53 Try.type53 rfl (by kernel_rfl)
  · cases h; exact ATy.ok_of (i := Try.t54) Try.underlying54 Try.type54 rfl (by kernel_rfl)
  · cases h; exact ATy.ok_of (i := Try.t55) Try.underlying55 Try.type55 rfl (by kernel_rfl)
  · cases h; exact ATy.ok_of (i := Try.t56) Try.underlying56 Try.type56 rfl (by kernel_rfl)
  · cases h; exact ATy.ok_of (i := Try.t57) Try.underlying57 Try.type57 rfl (by kernel_rfl)
  · cases h; exact ATy.ok_of (i := Try.t59) Try.underlying59 Try.type59 rfl (by kernel_rfl)
  · cases h; exact ATy.ok_of (i := Try.t60) Try.underlying60 Try.type60 rfl (by kernel_rfl)
  · cases h; exact ATy.ok_of (i := Try.t61) Try.underlying61 Try.type61 rfl (by kernel_rfl)
  · cases h; exact ATy.ok_of (i := Try.t63) Try.underlying63 Try.type63 rfl (by kernel_rfl)
  · cases h; exact ATy.ok_of (i := Try.t64) Try.underlying64 Try.type64 rfl (by kernel_rfl)
  · cases h; exact ATy.ok_of (i := Try.t65) Try.underlying65 Try.type65 rfl (by kernel_rfl)
  · cases h; exact ATy.ok_of (i := Try.t66) Try.underlying66 Try.type66 rfl (by kernel_rfl)
  · cases h; exact ATy.ok_of (i := Try.t67) Try.underlying67 Try.type67 rfl (by kernel_rfl)
  · cases h; exact ATy.ok_of (i := Try.t68) Try.underlying68 Try.type68 rfl (by kernel_rfl)
  · cases h; exact ATy.ok_of (i := Try.t69) Try.underlying69 Try.type69 rfl (by kernel_rfl)
  · cases h; exact ATy.ok_of (i := Try.t70) Try.underlying70 Try.type70 rfl (by kernel_rfl)
  · cases h; exact ATy.ok_of (i := Try.t71) Try.underlying71 Try.type71 rfl (by kernel_rfl)
  · cases h; exact ATy.ok_of (i := Try.t72) Try.underlying72 Try.type72 rfl (by kernel_rfl)
  · cases h; exact ATy.ok_of (i := Try.t73) Try.underlying73 Try.type73 rfl (by kernel_rfl)
  · cases h; exact ATy.ok_of (i := Try.t75) Try.underlying75 Try.type75 rfl (by kernel_rfl)
  · cases h; exact ATy.ok_of (i := Try.t76) Try.underlying76 Try.type76 rfl (by kernel_rfl)
  · cases h; exact ATy.ok_of (i := Try.t77) Try.underlying77 Try.type77 rfl (by kernel_rfl)
  · cases h; exact ATy.ok_of (i := Try.t78) Try.underlying78 Try.type78 rfl (by kernel_rfl)
  · cases h; exact ATy.ok_of (i := Try.t79) Try.underlying79 Try.type79 rfl (by kernel_rfl)
  · cases h; exact ATy.ok_of (i := Try.t82) Try.underlying82 Try.type82 rfl (by kernel_rfl)
  · cases h; exact ATy.ok_of (i := Try.t83) Try.underlying83 Try.type83 rfl (by kernel_rfl)
  · cases h; exact ATy.ok_of (i := Try.t84) Try.underlying84 Try.type84 rfl (by kernel_rfl)
  · cases h; exact ATy.ok_of (i := Try.t85) Try.underlying85 Try.type85 rfl (by kernel_rfl)
  · cases h; exact ATy.ok_of (i := Try.t86) Try.underlying86 Try.type86 rfl (by kernel_rfl)
  · cases h; exact ATy.ok_of (i := Try.t87) Try.underlying87 Try.type87 rfl (by kernel_rfl)
  · cases h; exact ATy.ok_of (i := Try.t88) Try.underlying88 Try.type88 rfl (by kernel_rfl)
  · cases h; exact ATy.ok_of (i := Try.t89) Try.underlying89 Try.type89 rfl (by kernel_rfl)
  · cases h; exact ATy.ok_of (i := Try.t90) Try.underlying90 Try.type90 rfl (by kernel_rfl)
  · cases h

noncomputable def fns : FuncId → Option Func
  | 6 => some Try.f6
  | 7 => some Try.f7
  | 9 => some Try.f9
  | 10 => some Try.f10
  | 11 => some Try.f11
  | 12 => some Try.f12
  | 13 => some Try.f13
  | 14 => some Try.f14
  | 15 => some Try.f15
  | 17 => some Try.f17
  | 23 => some Try.f23
  | 26 => some Try.f26
  | 27 => some Try.f27
  | 28 => some Try.f28
  | 29 => some Try.f29
  | 30 => some Try.f30
  | 31 => some Try.f31
  | 33 => some Try.f33
  | 35 => some Try.f35
  | 36 => some Try.f36
  | 37 => some Try.f37
  | 38 => some Try.f38
  | 39 => some Try.f39
  | 40 => some Try.f40
  | 41 => some Try.f41
  | 42 => some Try.f42
  | 43 => some Try.f43
  | 44 => some Try.f44
  | 45 => some Try.f45
  | 46 => some Try.f46
  | 47 => some Try.f47
  | 48 => some Try.f48
  | 49 => some Try.f49
  | 50 => some Try.f50
  | 51 => some Try.f51
  | 52 => some Try.f52
  | 53 => some Try.f53
  | 54 => some Try.f54
  | 55 => some Try.f55
  | 56 => some Try.f56
  | 57 => some Try.f57
  | 58 => some Try.f58
  | 59 => some Try.f59
  | 60 => some Try.f60
  | 61 => some Try.f61
  | _ => none

theorem fns_ok : ∀ f fn, fns f = some fn → Try.prog.funcs[f]? = some fn ∧ (fn.name == "runtime.NumGoroutine") = false := by
  intro f fn h
  unfold fns at h
  split at h
  · cases h; exact ⟨Try.func6, by kernel_rfl⟩
  · cases h; exact ⟨Try.func7, by kernel_rfl⟩
  · cases h; exact ⟨Try.func9, by kernel_rfl⟩
  · cases h; exact ⟨Try.func10, by kernel_rfl⟩
  · cases h; exact ⟨Try.func11, by kernel_rfl⟩
  · cases h; exact ⟨Try.func12, by kernel_rfl⟩
  · cases h; exact ⟨Try.func13, by kernel_rfl⟩
  · cases h; exact ⟨Try.func14, by kernel_rfl⟩
  · cases h; exact ⟨Try.func15, by kernel_rfl⟩
  · cases h; exact ⟨Try.func17, by kernel_rfl⟩
  · cases h; exact ⟨Try.func23, by kernel_rfl⟩
  · cases h; exact ⟨Try.func26, by kernel_rfl⟩
  · cases h; exact ⟨Try.func27, by kernel_rfl⟩
  · cases h; exact ⟨Try.func28, by kernel_rfl⟩
  · cases h; exact ⟨Try.func29, by kernel_rfl⟩
  · cases h; exact ⟨Try.func30, by kernel_rfl⟩
  · cases h; exact ⟨Try.func31, by kernel_rfl⟩
  · cases h; exact ⟨Try.func33, by kernel_rfl⟩
  · cases h; exact ⟨Try.func35, by kernel_rfl⟩
  · cases h; exact ⟨Try.func36, by kernel_rfl⟩
  · cases h; exact ⟨Try.func37, by kernel_rfl⟩
  · cases h; exact ⟨Try.func38, by kernel_rfl⟩
  · cases h; exact ⟨Try.func39, by kernel_rfl⟩
  · cases h; exact ⟨Try.func40, by kernel_rfl⟩
  · cases h; exact ⟨Try.func41, by kernel_rfl⟩
  · cases h; exact ⟨Try.func42, by kernel_rfl⟩
  · cases h; exact ⟨Try.func43, by kernel_rfl⟩
  · cases h; exact ⟨Try.func44, by kernel_rfl⟩
  · cases h; exact ⟨Try.func45, by kernel_rfl⟩
  · cases h; exact ⟨Try.func46, by kernel_rfl⟩
  · cases h; exact ⟨Try.func47, by kernel_rfl⟩
  · cases h; exact ⟨Try.func48, by kernel_rfl⟩
  · cases h; exact ⟨Try.func49, by kernel_rfl⟩
  · cases h; exact ⟨Try.func50, by kernel_rfl⟩
  · cases h; exact ⟨Try.func51, by kernel_rfl⟩
  · cases h; exact ⟨Try.func52, by kernel_rfl⟩
  · cases h; exact ⟨Try.func53, by kernel_rfl⟩
  · cases h; exact ⟨Try.func54, by kernel_rfl⟩
  · cases h; exact ⟨Try.func55, by kernel_rfl⟩
  · cases h; exact ⟨Try.func56, by kernel_rfl⟩
  · cases h; exact ⟨Try.func57, by kernel_rfl⟩
  · cases h; exact ⟨Try.func58, by kernel_rfl⟩
  · cases h; exact ⟨Try.func59, by kernel_rfl⟩
  · cases h; exact ⟨Try.func60, by kernel_rfl⟩
  · cases h; exact ⟨Try.func61, by kernel_rfl⟩
  · cases h

theorem mixed : Try.prog.follows .mixedOrders = true := by kernel_rfl

noncomputable def glob : Nat → Option AV
  | _ => none

def sched : FuncId → Nat → Option Sch
  | 6, 6 => some (.one 0 (.one 1 (.one 4 (.one 5 (.two 2 6 (.one 3 (.one 6 (.one 7 (.one 8 (.one 9 (.one 10 (.one 11 (.one 12 (.one 13 (.one 14 (.one 15 (.one 16 (.one 17 (.one 18 (.one 19 (.one 20 (.one 21 (.one 22 (.one 23 (.one 24 (.one 25 (.one 26 (.one 27 (.one 28 (.one 29 (.one 30 (.one 31 (.one 32 (.one 33 .fin))))))))))))))))))))))))))))) (.one 2 (.one 3 (.one 7 (.one 8 (.one 9 (.one 10 (.one 11 (.one 12 (.one 13 (.one 14 (.one 15 (.one 16 (.one 17 (.one 18 (.one 19 (.one 20 (.one 21 (.one 22 (.one 23 (.one 24 (.one 25 (.one 26 (.one 27 (.one 28 (.one 29 (.one 30 (.one 31 (.one 32 (.one 33 .fin))))))))))))))))))))))))))))))))))
  | _, _ => none
def split : FuncId → Nat → Option (Nat × List Step × Nat)
  | _, _ => none
def exact : FuncId → Bool
  | 36 => true
  | 42 => true
  | _ => false
def apart : FuncId → Bool
  | _ => false
theorem apart_ok : ∀ f, apart f = true → ApartOk Try.prog f := by
  intro f h
  unfold apart at h
  split at h
  · cases h
noncomputable def sort : FuncId → Option SortD
  | 37 => some RS.srtD
  | _ => none
theorem sort_ok : ∀ f s, sort f = some s → SortOk Try.prog f s := by
  intro f s h
  unfold sort at h
  split at h
  · cases h; exact RS.srt_ok
  · cases h
noncomputable def env (sp : FuncId → Option Spec) (mk : FuncId → Nat → Option (List Nat)) : Env := { P := Try.prog, ty := ty, fns := fns, glob := glob, spec := sp, mask := mk, exact := exact, apart := apart, split := split, sched := sched, sort := sort, cold := true }
noncomputable abbrev env0 : Env := env (fun _ => none) (fun _ _ => none)
theorem valid (sp : FuncId → Option Spec) (mk : FuncId → Nat → Option (List Nat)) : (env sp mk).Valid := ⟨ty_ok, fns_ok, mixed, apart_ok, sort_ok⟩
end Go.Eng.RT
end
section
/- Functions of this program, written out. -/
namespace Go.Eng.RT
open Go.Proofs Go.Eng
set_option maxRecDepth 100000

/-! ### math/bits.Len32 -/
/-! ### math/bits.Len64 -/
/-! ### math/bits.Len -/
/-! ### slices.nextPowerOfTwo -/
/-! ### cmp.isNaN[uint64] -/
/-! ### cmp.Compare[uint64] -/
/-! ### sundial/dirt.rising$1 -/
/-! ### sundial/dirt.touch -/
noncomputable def tree29 (x : (DRange × DRange)) : Tr (DRange × Bool) :=
  let y0 : Int := x.1.2
  let y1 : Int := x.2.1
  .ite ((ilt y0 y1) == true) (
  .ite (ilt 1 (isub .u64 y1 y0)) (
  .ret (x.1, false)) (
  let y2 : ((Int × Int) × Bool) := ((x.1.1, (imax y0 x.2.2)), true)
  .ret y2)) (
  let y3 : ((Int × Int) × Bool) := ((x.1.1, (imax y0 x.2.2)), true)
  .ret y3)
noncomputable def fn29 (x : (DRange × DRange)) : (DRange × Bool) := (tree29 x).val
def pre29 (x : (DRange × DRange)) : Prop := (tree29 x).ok
noncomputable def spec29 : Spec := { dom := (.st CRange (.st1 CRange)), cod := (.st CRange (.st1 .bool)), n := 2, pre := pre29, f := fn29 }
noncomputable def need29 : FuncId → Option Spec
  | _ => none
theorem need29_ok : ∀ f sp, need29 f = some sp → SpecOk env0 f sp := by
  intro f sp h
  unfold need29 at h
  split at h
  · cases h
theorem run29 (W : Cfg) (Q : (DRange × Bool) → Prop) (x : (DRange × DRange)) : run (env need29 (fun _ _ => none)) (fun _ _ _ => none) (finS spec29 Q) W 100000 (startFr 29 Try.f29 (bodyOf Try.f29) (argsOf (.st CRange (.st1 CRange)) x)) [] [] = (tree29 x).wp Q := by kernel_rfl
theorem ok29 : SpecOk env0 29 spec29 := SpecOk.env rfl (fun _ _ h => h) (spec_of_tree (E := (env need29 (fun _ _ => none))) (sp := spec29) (valid _ _) (fun f sp h => SpecOk.env rfl (fun _ _ h => h) (need29_ok f sp h)) (fn := Try.f29) (c := (bodyOf Try.f29)) (by kernel_rfl) (by kernel_rfl) tree29 run29 (fun _ h => Tr.gives_val h))

/-! ### sundial/dirt.Add -/
inductive J10 where
  | h0 (v3 : Int) (v8 : Int) (v9 : (List (List DRange)))
  | h1 (v1 : Nat) (v2 : Nat) (v7 : Int) (v8 : (List (List DRange))) (v9 : Nat) (v10 : (List DRange))
  | h2 (v4 : Int) (v5 : (List (List DRange)))
  | h3 (v1 : Nat) (v2 : Nat) (v3 : Int) (v4 : Int) (v5 : Nat) (v6 : (List DRange))
  | h4
  | h5 (v1 : Nat) (v2 : Nat) (v3 : Int) (v4 : Int) (v5 : Nat) (v6 : (List DRange)) (v8 : Nat) (v9 : Nat) (v10 : (List DRange))
noncomputable def tree10 (x : ((List DRange) × (List DRange))) : Tr (J10 ⊕ (List DRange)) :=
  .need ((0 : Nat) < 2) <|
  .need ((1 : Nat) < 2) <|
  .ret (.inl (.h0 0 0 [x.1, x.2]))
noncomputable def step10 (_x : ((List DRange) × (List DRange))) : J10 → Tr (J10 ⊕ (List DRange))
  | .h0 v3 v8 v9 =>
  .ite (ilt v8 2) (
  .need ((0 : Int) ≤ v8) <|
  .need (v8 < (2 : Int)) <|
  let y0 : Nat := (0 + (v8).toNat)
  .need ((y0 : Nat) < 2) <|
  let y1 : Int := (iadd .i64 v3 ((rdc (.slice CRange) v9 y0).length : Int))
  .ite (ilt y1 0) (
  .fail (.inr (TC.dflt (.slice CRange)))) (
  .ret (.inl (.h0 y1 (iadd .i64 v8 1) v9)))) (
  .ite (ilt v3 0) (
  .fail (.inr (TC.dflt (.slice CRange)))) (
  let y2 : Int := (isub .i64 v3 0)
  .ite (ilt 0 y2) (
  .need ((0 : Int) = 0) <|
  .need ((0 : Nat) = 0) <|
  .need ((0 : Int) < y2) <|
  let y3 : Nat := (y2).toNat
  .need (((y3 : Nat) * 16 : Nat) ≤ 2 ^ 40) <|
  .need ((y3 : Nat) ≤ 2 ^ 40) <|
  .all fun j3 =>
  .need ((0 : Int) ≤ 0) <|
  .need ((0 : Nat) ≤ 0) <|
  let y4 : Nat := (y3 + j3)
  .need ((0 : Nat) ≤ y4) <|
  .need ((0 : Nat) = 0 ∨ (0 : Nat) < y4) <|
  let y5 : (Int × Int) := (0, 0)
  .ret (.inl (.h1 0 y4 0 v9 y4 ((List.replicate y3 y5) ++ (List.replicate j3 y5))))) (
  .ret (.inl (.h2 0 v9)))))
  | .h1 v1 v2 v7 v8 v9 v10 =>
  .ite (ilt v7 2) (
  .need ((0 : Int) ≤ v7) <|
  .need (v7 < (2 : Int)) <|
  let y0 : Nat := (0 + (v7).toNat)
  .need ((y0 : Nat) < 2) <|
  let y1 : (List DRange) := (rdc (.slice CRange) v8 y0)
  let y2 : Nat := y1.length
  let y3 : Nat := (v1 + y2)
  .ite (ilt ((v2 : Nat) : Int) ((y3 : Nat) : Int)) (
  .need ((0 + v1 : Nat) ≤ v9) <|
  .need (((y3 : Nat) * 16 : Nat) ≤ 2 ^ 40) <|
  .need ((y3 : Nat) ≤ 2 ^ 40) <|
  .all fun j3 =>
  let y4 : Nat := (y3 + j3)
  let y5 : Int := (iadd .i64 v7 1)
  let y6 : (List DRange) := (v10.take v1)
  .ret (.inl (.h1 y3 y4 y5 v8 y4 ((y6 ++ y1) ++ (List.replicate j3 (0, 0)))))) (
  .need ((0 + v1 + y2 : Nat) ≤ v9) <|
  let y7 : Int := (iadd .i64 v7 1)
  let y8 : Nat := (0 + v1)
  .ret (.inl (.h1 y3 v2 y7 v8 v9 (spliceL v10 y8 y1))))) (
  let y9 : Nat := (0 + v1)
  .need ((y9 : Nat) ≤ v9) <|
  .need ((v1 : Nat) < 1152921504606846976) <|
  let y10 : (List DRange) := (v10.take v1)
  .ret (.inl (.h3 v1 v2 (v1 : Int) 0 v9 (spliceL v10 0 (RS.srt y10)))))
  | .h2 v4 v5 =>
  .ite (ilt v4 2) (
  .need ((0 : Int) ≤ v4) <|
  .need (v4 < (2 : Int)) <|
  let y0 : Nat := (0 + (v4).toNat)
  .need ((y0 : Nat) < 2) <|
  let y1 : (List DRange) := (rdc (.slice CRange) v5 y0)
  let y2 : Nat := y1.length
  .ite (ieq (y2 : Int) 0) (
  let y3 : Int := (iadd .i64 v4 1)
  .ret (.inl (.h2 y3 v5))) (
  .need (((y2 : Nat) * 16 : Nat) ≤ 2 ^ 40) <|
  .need ((y2 : Nat) ≤ 2 ^ 40) <|
  .all fun j3 =>
  let y4 : Nat := (y2 + j3)
  let y5 : Int := (iadd .i64 v4 1)
  .ret (.inl (.h1 y2 y4 y5 v5 y4 (y1 ++ (List.replicate j3 (0, 0))))))) (
  .ret (.inl (.h4)))
  | .h3 v1 v2 v3 v4 v5 v6 =>
  .ite (ilt v4 v3) (
  .need ((0 : Int) ≤ v4) <|
  .need (v4 < (v1 : Int)) <|
  let y0 : Nat := (0 + (v4).toNat)
  .need ((y0 : Nat) < v5) <|
  let y1 : DRange := (rdc CRange v6 y0)
  .ite ((ile y1.1 y1.2) == true) (
  .need ((0 : Nat) < 1) <|
  .need (((0 : Nat) + 1 : Nat) ≤ 1) <|
  .need (((1 : Nat) * 16 : Nat) ≤ 2 ^ 40) <|
  .need ((1 : Nat) ≤ 2 ^ 40) <|
  let y2 : Int := (iadd .i64 v4 1)
  .ret (.inl (.h5 v1 v2 v3 y2 v5 v6 1 1 [y1]))) (
  let y3 : Int := (iadd .i64 v4 1)
  .ret (.inl (.h3 v1 v2 v3 y3 v5 v6)))) (
  .ret (.inr ([] : List DRange)))
  | .h4 =>
  .ret (.inr ([] : List DRange))
  | .h5 v1 v2 v3 v4 v5 v6 v8 v9 v10 =>
  .ite (ilt v4 v3) (
  .need ((0 : Int) ≤ v4) <|
  .need (v4 < (v1 : Int)) <|
  let y0 : Nat := (0 + (v4).toNat)
  .need ((y0 : Nat) < v5) <|
  let y1 : DRange := (rdc CRange v6 y0)
  .ite ((ile y1.1 y1.2) == true) (
  let y2 : Int := (isub .i64 (v8 : Int) 1)
  .ite (ile 0 y2) (
  .need ((0 : Int) ≤ y2) <|
  .need (y2 < (v8 : Int)) <|
  let y3 : Nat := (0 + (y2).toNat)
  .need ((y3 : Nat) < v9) <|
  let y4 : (DRange × DRange) := ((rdc CRange v10 y3), y1)
  .need (pre29 y4) <|
  let y5 : (DRange × Bool) := (fn29 y4)
  .ite y5.2 (
  .need ((0 : Int) ≤ y2) <|
  .need (y2 < (v8 : Int)) <|
  .need ((y3 : Nat) < v9) <|
  let y6 : Int := (iadd .i64 v4 1)
  .ret (.inl (.h5 v1 v2 v3 y6 v5 v6 v8 v9 (v10.set y3 y5.1)))) (
  .need ((0 : Nat) < 1) <|
  .need (((0 : Nat) + 1 : Nat) ≤ 1) <|
  .need ((v8 : Nat) = v9) <|
  let y7 : Nat := (v8 + 1)
  .need (((y7 : Nat) * 16 : Nat) ≤ 2 ^ 40) <|
  .need ((y7 : Nat) ≤ 2 ^ 40) <|
  let y8 : Int := (iadd .i64 v4 1)
  let y9 : (List DRange) := (v10 ++ [y1])
  .ret (.inl (.h5 v1 v2 v3 y8 v5 v6 y7 y7 y9)))) (
  .need ((0 : Nat) < 1) <|
  .need (((0 : Nat) + 1 : Nat) ≤ 1) <|
  .need ((v8 : Nat) = v9) <|
  let y10 : Nat := (v8 + 1)
  .need (((y10 : Nat) * 16 : Nat) ≤ 2 ^ 40) <|
  .need ((y10 : Nat) ≤ 2 ^ 40) <|
  let y11 : Int := (iadd .i64 v4 1)
  let y12 : (List DRange) := (v10 ++ [y1])
  .ret (.inl (.h5 v1 v2 v3 y11 v5 v6 y10 y10 y12)))) (
  let y13 : Int := (iadd .i64 v4 1)
  .ret (.inl (.h5 v1 v2 v3 y13 v5 v6 v8 v9 v10)))) (
  .need (((0 : Nat) + v8 : Nat) ≤ v9) <|
  .ret (.inr (v10.take v8)))
noncomputable def head10 (_x : ((List DRange) × (List DRange))) : J10 → Head
  | .h0 v3 v8 v9 =>
  { fr := { id := 36, kind := (.call (some 5)), T := [(.osl 0 [] 1 0 2 (some 2)), .any, .any, (.int .i64 v3)] ++ List.replicate 5 .any ++ [(.osl 0 [] 1 0 2 (some 2)), (.int .i64 2), (.int .i64 v8)] ++ List.replicate 24 .any, items := [.lp (subc [1, 1, 0, 1, 0, 0] (bodyOf Try.f36)), .blk 0, .code (subc [1, 1, 1] (bodyOf Try.f36))], D := [], base := 1 },
    stk := [{ id := 28, kind := (.call (some 8)), T := List.replicate 5 .any ++ [.undef, .any, .any, .any], items := [.ops (opsOf (subc [1, 0] (bodyOf Try.f28))) ((opsOf (subc [1, 0] (bodyOf Try.f28))).drop 2), .code (subc [1, 1] (bodyOf Try.f28))], D := [], base := 1 }, { id := 10, kind := .top, T := List.replicate 8 .any ++ [.undef, .any], items := [.ops (opsOf (subc [1, 0] (bodyOf Try.f10))) ((opsOf (subc [1, 0] (bodyOf Try.f10))).drop 4), .code (subc [1, 1] (bodyOf Try.f10))], D := [], base := 0 }],
    H := [.cell true 22 (.arr 2 (.slice CRange) v9)] }
  | .h1 v1 v2 v7 v8 v9 v10 =>
  { fr := { id := 36, kind := (.call (some 5)), T := List.replicate 6 .any ++ [(.osl 1 [] 2 0 v1 (some v2))] ++ List.replicate 18 .any ++ [(.osl 0 [] 1 0 2 (some 2)), (.int .i64 2), (.int .i64 v7)] ++ List.replicate 8 .any, items := [.lp (subc [1, 1, 1, 1, 0, 1, 0, 0] (bodyOf Try.f36)), .blk 2, .code (subc [1, 1, 1, 1, 1] (bodyOf Try.f36))], D := [], base := 1 },
    stk := [{ id := 28, kind := (.call (some 8)), T := List.replicate 5 .any ++ [.undef, .any, .any, .any], items := [.ops (opsOf (subc [1, 0] (bodyOf Try.f28))) ((opsOf (subc [1, 0] (bodyOf Try.f28))).drop 2), .code (subc [1, 1] (bodyOf Try.f28))], D := [], base := 1 }, { id := 10, kind := .top, T := List.replicate 8 .any ++ [.undef, .any], items := [.ops (opsOf (subc [1, 0] (bodyOf Try.f10))) ((opsOf (subc [1, 0] (bodyOf Try.f10))).drop 4), .code (subc [1, 1] (bodyOf Try.f10))], D := [], base := 0 }],
    H := [.cell true 22 (.arr 2 (.slice CRange) v8), .cell true 25 (.arr v9 CRange v10)] }
  | .h2 v4 v5 =>
  { fr := { id := 36, kind := (.call (some 5)), T := List.replicate 6 .any ++ [(.raw (.slice none 0 0))] ++ List.replicate 18 .any ++ [(.osl 0 [] 1 0 2 (some 2)), (.int .i64 2), (.int .i64 v4)] ++ List.replicate 8 .any, items := [.lp (subc [1, 1, 1, 1, 0, 1, 0, 0] (bodyOf Try.f36)), .blk 2, .code (subc [1, 1, 1, 1, 1] (bodyOf Try.f36))], D := [], base := 1 },
    stk := [{ id := 28, kind := (.call (some 8)), T := List.replicate 5 .any ++ [.undef, .any, .any, .any], items := [.ops (opsOf (subc [1, 0] (bodyOf Try.f28))) ((opsOf (subc [1, 0] (bodyOf Try.f28))).drop 2), .code (subc [1, 1] (bodyOf Try.f28))], D := [], base := 1 }, { id := 10, kind := .top, T := List.replicate 8 .any ++ [.undef, .any], items := [.ops (opsOf (subc [1, 0] (bodyOf Try.f10))) ((opsOf (subc [1, 0] (bodyOf Try.f10))).drop 4), .code (subc [1, 1] (bodyOf Try.f10))], D := [], base := 0 }],
    H := [.cell true 22 (.arr 2 (.slice CRange) v5)] }
  | .h3 v1 v2 v3 v4 v5 v6 =>
  { fr := { id := 40, kind := (.iter 6), T := [(.yld 6)] ++ List.replicate 4 .any ++ [(.osl 1 [] 2 0 v1 (some v2)), (.int .i64 v3), (.int .i64 v4)] ++ List.replicate 15 .any, items := [.lp (subc [1, 0, 0] (bodyOf Try.f40)), .blk 0], D := [], base := 7 },
    stk := [{ id := 27, kind := (.call (some 9)), T := List.replicate 4 .any ++ [(.ptr 4 [])] ++ List.replicate 31 .any, items := [.fin 6, .blk 0, .code (subc [1, 1] (bodyOf Try.f27))], D := [5], base := 3 }, { id := 10, kind := .top, T := List.replicate 10 .any, items := [.ops (opsOf (subc [1, 0] (bodyOf Try.f10))) ((opsOf (subc [1, 0] (bodyOf Try.f10))).drop 5), .code (subc [1, 1] (bodyOf Try.f10))], D := [], base := 0 }],
    H := [.dead, .cell true 25 (.arr v5 CRange v6), .dead, .cell true 41 (.fn 29 []), .cell true 22 (.raw (.slice none 0 0)), .dfd, .loop .ready none 27 ([.any, .any, .any, (.ptr 3 []), (.ptr 4 [])] ++ List.replicate 31 .any) [10] (subc [1, 0, 1, 0, 0] (bodyOf Try.f27)) (subc [1, 0, 1, 0, 1] (bodyOf Try.f27)) 5] }
  | .h4 =>
  { fr := { id := 40, kind := (.iter 5), T := [(.yld 5)] ++ List.replicate 4 .any ++ [(.raw (.slice none 0 0)), (.int .i64 0), (.int .i64 0)] ++ List.replicate 15 .any, items := [.lp (subc [1, 0, 0] (bodyOf Try.f40)), .blk 0], D := [], base := 6 },
    stk := [{ id := 27, kind := (.call (some 9)), T := List.replicate 4 .any ++ [(.ptr 3 [])] ++ List.replicate 31 .any, items := [.fin 5, .blk 0, .code (subc [1, 1] (bodyOf Try.f27))], D := [4], base := 2 }, { id := 10, kind := .top, T := List.replicate 10 .any, items := [.ops (opsOf (subc [1, 0] (bodyOf Try.f10))) ((opsOf (subc [1, 0] (bodyOf Try.f10))).drop 5), .code (subc [1, 1] (bodyOf Try.f10))], D := [], base := 0 }],
    H := [.dead, .dead, .cell true 41 (.fn 29 []), .cell true 22 (.raw (.slice none 0 0)), .dfd, .loop .ready none 27 ([.any, .any, .any, (.ptr 2 []), (.ptr 3 [])] ++ List.replicate 31 .any) [10] (subc [1, 0, 1, 0, 0] (bodyOf Try.f27)) (subc [1, 0, 1, 0, 1] (bodyOf Try.f27)) 4] }
  | .h5 v1 v2 v3 v4 v5 v6 v8 v9 v10 =>
  { fr := { id := 40, kind := (.iter 6), T := [(.yld 6)] ++ List.replicate 4 .any ++ [(.osl 1 [] 2 0 v1 (some v2)), (.int .i64 v3), (.int .i64 v4)] ++ List.replicate 15 .any, items := [.lp (subc [1, 0, 0] (bodyOf Try.f40)), .blk 0], D := [], base := 7 },
    stk := [{ id := 27, kind := (.call (some 9)), T := List.replicate 4 .any ++ [(.ptr 4 [])] ++ List.replicate 31 .any, items := [.fin 6, .blk 0, .code (subc [1, 1] (bodyOf Try.f27))], D := [5], base := 3 }, { id := 10, kind := .top, T := List.replicate 10 .any, items := [.ops (opsOf (subc [1, 0] (bodyOf Try.f10))) ((opsOf (subc [1, 0] (bodyOf Try.f10))).drop 5), .code (subc [1, 1] (bodyOf Try.f10))], D := [], base := 0 }],
    H := [.dead, .cell true 25 (.arr v5 CRange v6), .dead, .cell true 41 (.fn 29 []), .cell true 22 (.osl 7 [] 2 0 v8 none), .dfd, .loop .ready none 27 ([.any, .any, .any, (.ptr 3 []), (.ptr 4 [])] ++ List.replicate 31 .any) [10] (subc [1, 0, 1, 0, 0] (bodyOf Try.f27)) (subc [1, 0, 1, 0, 1] (bodyOf Try.f27)) 5, .cell true 25 (.arr v9 CRange v10)] }
noncomputable def stop10 : FuncId → Nat → Nat → Option Cut
  | 36, 0, 1 => some { tmps := [0, 3, 9, 10, 11], loops := [], dead := [], stk := [[5], [8]] }
  | 36, 4, 1 => some { tmps := [6, 25, 26, 27], loops := [], dead := [], stk := [[5], [8]] }
  | 40, 0, 7 => some { tmps := [0, 5, 6, 7], loops := [(6, [3, 4])], dead := [0, 2], stk := [[4], [9]] }
  | 40, 0, 6 => some { tmps := [0, 5, 6, 7], loops := [(5, [3, 4])], dead := [0, 1], stk := [[4], [9]] }
  | _, _, _ => none
noncomputable def fn10 (x : ((List DRange) × (List DRange))) : (List DRange) := endVal (TC.dflt (.slice CRange)) (step10 x) (tree10 x)
def pre10 (x : ((List DRange) × (List DRange))) : Prop := ∃ r, Ends (step10 x) r (tree10 x)
noncomputable def spec10 : Spec := { dom := (.st (.slice CRange) (.st1 (.slice CRange))), cod := (.slice CRange), n := 1, pre := pre10, f := fn10 }
noncomputable def need10 : FuncId → Option Spec
  | 29 => some spec29
  | _ => none
theorem need10_ok : ∀ f sp, need10 f = some sp → SpecOk env0 f sp := by
  intro f sp h
  unfold need10 at h
  split at h
  · cases h; exact ok29
  · cases h
theorem run10 (W : Cfg) (Q : (List DRange) → Prop) (x : ((List DRange) × (List DRange))) : run (env need10 (fun _ _ => none)) stop10 (finS spec10 Q) W 100000 (startFr 10 Try.f10 (bodyOf Try.f10) (argsOf (.st (.slice CRange) (.st1 (.slice CRange))) x)) [] [] = (tree10 x).wp (kont W Q (head10 x)) := by kernel_rfl
theorem run10h0 (W : Cfg) (Q : (List DRange) → Prop) (x : ((List DRange) × (List DRange))) (v3 : Int) (v8 : Int) (v9 : (List (List DRange))) : run (env need10 (fun _ _ => none)) stop10 (finS spec10 Q) W 100000 (head10 x (.h0 v3 v8 v9)).fr.enter (head10 x (.h0 v3 v8 v9)).stk (head10 x (.h0 v3 v8 v9)).H = (step10 x (.h0 v3 v8 v9)).wp (kont W Q (head10 x)) := by kernel_rfl
theorem run10h1 (W : Cfg) (Q : (List DRange) → Prop) (x : ((List DRange) × (List DRange))) (v1 : Nat) (v2 : Nat) (v7 : Int) (v8 : (List (List DRange))) (v9 : Nat) (v10 : (List DRange)) : run (env need10 (fun _ _ => none)) stop10 (finS spec10 Q) W 100000 (head10 x (.h1 v1 v2 v7 v8 v9 v10)).fr.enter (head10 x (.h1 v1 v2 v7 v8 v9 v10)).stk (head10 x (.h1 v1 v2 v7 v8 v9 v10)).H = (step10 x (.h1 v1 v2 v7 v8 v9 v10)).wp (kont W Q (head10 x)) := by kernel_rfl
theorem run10h2 (W : Cfg) (Q : (List DRange) → Prop) (x : ((List DRange) × (List DRange))) (v4 : Int) (v5 : (List (List DRange))) : run (env need10 (fun _ _ => none)) stop10 (finS spec10 Q) W 100000 (head10 x (.h2 v4 v5)).fr.enter (head10 x (.h2 v4 v5)).stk (head10 x (.h2 v4 v5)).H = (step10 x (.h2 v4 v5)).wp (kont W Q (head10 x)) := by kernel_rfl
theorem run10h3 (W : Cfg) (Q : (List DRange) → Prop) (x : ((List DRange) × (List DRange))) (v1 : Nat) (v2 : Nat) (v3 : Int) (v4 : Int) (v5 : Nat) (v6 : (List DRange)) : run (env need10 (fun _ _ => none)) stop10 (finS spec10 Q) W 100000 (head10 x (.h3 v1 v2 v3 v4 v5 v6)).fr.enter (head10 x (.h3 v1 v2 v3 v4 v5 v6)).stk (head10 x (.h3 v1 v2 v3 v4 v5 v6)).H = (step10 x (.h3 v1 v2 v3 v4 v5 v6)).wp (kont W Q (head10 x)) := by kernel_rfl
theorem run10h4 (W : Cfg) (Q : (List DRange) → Prop) (x : ((List DRange) × (List DRange))) : run (env need10 (fun _ _ => none)) stop10 (finS spec10 Q) W 100000 (head10 x (.h4)).fr.enter (head10 x (.h4)).stk (head10 x (.h4)).H = (step10 x (.h4)).wp (kont W Q (head10 x)) := by kernel_rfl
theorem run10h5 (W : Cfg) (Q : (List DRange) → Prop) (x : ((List DRange) × (List DRange))) (v1 : Nat) (v2 : Nat) (v3 : Int) (v4 : Int) (v5 : Nat) (v6 : (List DRange)) (v8 : Nat) (v9 : Nat) (v10 : (List DRange)) : run (env need10 (fun _ _ => none)) stop10 (finS spec10 Q) W 100000 (head10 x (.h5 v1 v2 v3 v4 v5 v6 v8 v9 v10)).fr.enter (head10 x (.h5 v1 v2 v3 v4 v5 v6 v8 v9 v10)).stk (head10 x (.h5 v1 v2 v3 v4 v5 v6 v8 v9 v10)).H = (step10 x (.h5 v1 v2 v3 v4 v5 v6 v8 v9 v10)).wp (kont W Q (head10 x)) := by kernel_rfl
theorem runs10 (W : Cfg) (Q : (List DRange) → Prop) (x : ((List DRange) × (List DRange))) : ∀ j : J10, run (env need10 (fun _ _ => none)) stop10 (finS spec10 Q) W 100000 (head10 x j).fr.enter (head10 x j).stk (head10 x j).H = (step10 x j).wp (kont W Q (head10 x))
  | .h0 v3 v8 v9 => run10h0 W Q x v3 v8 v9
  | .h1 v1 v2 v7 v8 v9 v10 => run10h1 W Q x v1 v2 v7 v8 v9 v10
  | .h2 v4 v5 => run10h2 W Q x v4 v5
  | .h3 v1 v2 v3 v4 v5 v6 => run10h3 W Q x v1 v2 v3 v4 v5 v6
  | .h4 => run10h4 W Q x
  | .h5 v1 v2 v3 v4 v5 v6 v8 v9 v10 => run10h5 W Q x v1 v2 v3 v4 v5 v6 v8 v9 v10
theorem ok10 : SpecOk env0 10 spec10 := SpecOk.env rfl (fun _ _ h => h) (spec_of_trees (E := (env need10 (fun _ _ => none))) (sp := spec10) (valid _ _) (fun f sp h => SpecOk.env rfl (fun _ _ h => h) (need10_ok f sp h)) (fn := Try.f10) (c := (bodyOf Try.f10)) (by kernel_rfl) (by kernel_rfl) tree10 step10 head10 run10 runs10 (fun _ h => endVal_ends h))

/-! ### sundial/dirt.Norm -/
inductive J9 where
  | h0 (v3 : Int) (v8 : Int) (v9 : (List (List DRange)))
  | h1 (v1 : Nat) (v2 : Nat) (v7 : Int) (v8 : (List (List DRange))) (v9 : Nat) (v10 : (List DRange))
  | h2 (v4 : Int) (v5 : (List (List DRange)))
  | h3 (v1 : Nat) (v2 : Nat) (v3 : Int) (v4 : Int) (v5 : Nat) (v6 : (List DRange))
  | h4
  | h5 (v1 : Nat) (v2 : Nat) (v3 : Int) (v4 : Int) (v5 : Nat) (v6 : (List DRange)) (v8 : Nat) (v9 : Nat) (v10 : (List DRange))
noncomputable def tree9 (x : (List DRange)) : Tr (J9 ⊕ (List DRange)) :=
  .need ((0 : Nat) < 1) <|
  .ret (.inl (.h0 0 0 [x]))
noncomputable def step9 (_x : (List DRange)) : J9 → Tr (J9 ⊕ (List DRange))
  | .h0 v3 v8 v9 =>
  .ite (ilt v8 1) (
  .need ((0 : Int) ≤ v8) <|
  .need (v8 < (1 : Int)) <|
  let y0 : Nat := (0 + (v8).toNat)
  .need ((y0 : Nat) < 1) <|
  let y1 : Int := (iadd .i64 v3 ((rdc (.slice CRange) v9 y0).length : Int))
  .ite (ilt y1 0) (
  .fail (.inr (TC.dflt (.slice CRange)))) (
  .ret (.inl (.h0 y1 (iadd .i64 v8 1) v9)))) (
  .ite (ilt v3 0) (
  .fail (.inr (TC.dflt (.slice CRange)))) (
  let y2 : Int := (isub .i64 v3 0)
  .ite (ilt 0 y2) (
  .need ((0 : Int) = 0) <|
  .need ((0 : Nat) = 0) <|
  .need ((0 : Int) < y2) <|
  let y3 : Nat := (y2).toNat
  .need (((y3 : Nat) * 16 : Nat) ≤ 2 ^ 40) <|
  .need ((y3 : Nat) ≤ 2 ^ 40) <|
  .all fun j3 =>
  .need ((0 : Int) ≤ 0) <|
  .need ((0 : Nat) ≤ 0) <|
  let y4 : Nat := (y3 + j3)
  .need ((0 : Nat) ≤ y4) <|
  .need ((0 : Nat) = 0 ∨ (0 : Nat) < y4) <|
  let y5 : (Int × Int) := (0, 0)
  .ret (.inl (.h1 0 y4 0 v9 y4 ((List.replicate y3 y5) ++ (List.replicate j3 y5))))) (
  .ret (.inl (.h2 0 v9)))))
  | .h1 v1 v2 v7 v8 v9 v10 =>
  .ite (ilt v7 1) (
  .need ((0 : Int) ≤ v7) <|
  .need (v7 < (1 : Int)) <|
  let y0 : Nat := (0 + (v7).toNat)
  .need ((y0 : Nat) < 1) <|
  let y1 : (List DRange) := (rdc (.slice CRange) v8 y0)
  let y2 : Nat := y1.length
  let y3 : Nat := (v1 + y2)
  .ite (ilt ((v2 : Nat) : Int) ((y3 : Nat) : Int)) (
  .need ((0 + v1 : Nat) ≤ v9) <|
  .need (((y3 : Nat) * 16 : Nat) ≤ 2 ^ 40) <|
  .need ((y3 : Nat) ≤ 2 ^ 40) <|
  .all fun j3 =>
  let y4 : Nat := (y3 + j3)
  let y5 : Int := (iadd .i64 v7 1)
  let y6 : (List DRange) := (v10.take v1)
  .ret (.inl (.h1 y3 y4 y5 v8 y4 ((y6 ++ y1) ++ (List.replicate j3 (0, 0)))))) (
  .need ((0 + v1 + y2 : Nat) ≤ v9) <|
  let y7 : Int := (iadd .i64 v7 1)
  let y8 : Nat := (0 + v1)
  .ret (.inl (.h1 y3 v2 y7 v8 v9 (spliceL v10 y8 y1))))) (
  let y9 : Nat := (0 + v1)
  .need ((y9 : Nat) ≤ v9) <|
  .need ((v1 : Nat) < 1152921504606846976) <|
  let y10 : (List DRange) := (v10.take v1)
  .ret (.inl (.h3 v1 v2 (v1 : Int) 0 v9 (spliceL v10 0 (RS.srt y10)))))
  | .h2 v4 v5 =>
  .ite (ilt v4 1) (
  .need ((0 : Int) ≤ v4) <|
  .need (v4 < (1 : Int)) <|
  let y0 : Nat := (0 + (v4).toNat)
  .need ((y0 : Nat) < 1) <|
  let y1 : (List DRange) := (rdc (.slice CRange) v5 y0)
  let y2 : Nat := y1.length
  .ite (ieq (y2 : Int) 0) (
  let y3 : Int := (iadd .i64 v4 1)
  .ret (.inl (.h2 y3 v5))) (
  .need (((y2 : Nat) * 16 : Nat) ≤ 2 ^ 40) <|
  .need ((y2 : Nat) ≤ 2 ^ 40) <|
  .all fun j3 =>
  let y4 : Nat := (y2 + j3)
  let y5 : Int := (iadd .i64 v4 1)
  .ret (.inl (.h1 y2 y4 y5 v5 y4 (y1 ++ (List.replicate j3 (0, 0))))))) (
  .ret (.inl (.h4)))
  | .h3 v1 v2 v3 v4 v5 v6 =>
  .ite (ilt v4 v3) (
  .need ((0 : Int) ≤ v4) <|
  .need (v4 < (v1 : Int)) <|
  let y0 : Nat := (0 + (v4).toNat)
  .need ((y0 : Nat) < v5) <|
  let y1 : DRange := (rdc CRange v6 y0)
  .ite ((ile y1.1 y1.2) == true) (
  .need ((0 : Nat) < 1) <|
  .need (((0 : Nat) + 1 : Nat) ≤ 1) <|
  .need (((1 : Nat) * 16 : Nat) ≤ 2 ^ 40) <|
  .need ((1 : Nat) ≤ 2 ^ 40) <|
  let y2 : Int := (iadd .i64 v4 1)
  .ret (.inl (.h5 v1 v2 v3 y2 v5 v6 1 1 [y1]))) (
  let y3 : Int := (iadd .i64 v4 1)
  .ret (.inl (.h3 v1 v2 v3 y3 v5 v6)))) (
  .ret (.inr ([] : List DRange)))
  | .h4 =>
  .ret (.inr ([] : List DRange))
  | .h5 v1 v2 v3 v4 v5 v6 v8 v9 v10 =>
  .ite (ilt v4 v3) (
  .need ((0 : Int) ≤ v4) <|
  .need (v4 < (v1 : Int)) <|
  let y0 : Nat := (0 + (v4).toNat)
  .need ((y0 : Nat) < v5) <|
  let y1 : DRange := (rdc CRange v6 y0)
  .ite ((ile y1.1 y1.2) == true) (
  let y2 : Int := (isub .i64 (v8 : Int) 1)
  .ite (ile 0 y2) (
  .need ((0 : Int) ≤ y2) <|
  .need (y2 < (v8 : Int)) <|
  let y3 : Nat := (0 + (y2).toNat)
  .need ((y3 : Nat) < v9) <|
  let y4 : (DRange × DRange) := ((rdc CRange v10 y3), y1)
  .need (pre29 y4) <|
  let y5 : (DRange × Bool) := (fn29 y4)
  .ite y5.2 (
  .need ((0 : Int) ≤ y2) <|
  .need (y2 < (v8 : Int)) <|
  .need ((y3 : Nat) < v9) <|
  let y6 : Int := (iadd .i64 v4 1)
  .ret (.inl (.h5 v1 v2 v3 y6 v5 v6 v8 v9 (v10.set y3 y5.1)))) (
  .need ((0 : Nat) < 1) <|
  .need (((0 : Nat) + 1 : Nat) ≤ 1) <|
  .need ((v8 : Nat) = v9) <|
  let y7 : Nat := (v8 + 1)
  .need (((y7 : Nat) * 16 : Nat) ≤ 2 ^ 40) <|
  .need ((y7 : Nat) ≤ 2 ^ 40) <|
  let y8 : Int := (iadd .i64 v4 1)
  let y9 : (List DRange) := (v10 ++ [y1])
  .ret (.inl (.h5 v1 v2 v3 y8 v5 v6 y7 y7 y9)))) (
  .need ((0 : Nat) < 1) <|
  .need (((0 : Nat) + 1 : Nat) ≤ 1) <|
  .need ((v8 : Nat) = v9) <|
  let y10 : Nat := (v8 + 1)
  .need (((y10 : Nat) * 16 : Nat) ≤ 2 ^ 40) <|
  .need ((y10 : Nat) ≤ 2 ^ 40) <|
  let y11 : Int := (iadd .i64 v4 1)
  let y12 : (List DRange) := (v10 ++ [y1])
  .ret (.inl (.h5 v1 v2 v3 y11 v5 v6 y10 y10 y12)))) (
  let y13 : Int := (iadd .i64 v4 1)
  .ret (.inl (.h5 v1 v2 v3 y13 v5 v6 v8 v9 v10)))) (
  .need (((0 : Nat) + v8 : Nat) ≤ v9) <|
  .ret (.inr (v10.take v8)))
noncomputable def head9 (_x : (List DRange)) : J9 → Head
  | .h0 v3 v8 v9 =>
  { fr := { id := 36, kind := (.call (some 5)), T := [(.osl 0 [] 1 0 1 (some 1)), .any, .any, (.int .i64 v3)] ++ List.replicate 5 .any ++ [(.osl 0 [] 1 0 1 (some 1)), (.int .i64 1), (.int .i64 v8)] ++ List.replicate 24 .any, items := [.lp (subc [1, 1, 0, 1, 0, 0] (bodyOf Try.f36)), .blk 0, .code (subc [1, 1, 1] (bodyOf Try.f36))], D := [], base := 1 },
    stk := [{ id := 28, kind := (.call (some 5)), T := List.replicate 5 .any ++ [.undef, .any, .any, .any], items := [.ops (opsOf (subc [1, 0] (bodyOf Try.f28))) ((opsOf (subc [1, 0] (bodyOf Try.f28))).drop 2), .code (subc [1, 1] (bodyOf Try.f28))], D := [], base := 1 }, { id := 9, kind := .top, T := List.replicate 5 .any ++ [.undef, .any], items := [.ops (opsOf (subc [1, 0] (bodyOf Try.f9))) ((opsOf (subc [1, 0] (bodyOf Try.f9))).drop 3), .code (subc [1, 1] (bodyOf Try.f9))], D := [], base := 0 }],
    H := [.cell true 22 (.arr 1 (.slice CRange) v9)] }
  | .h1 v1 v2 v7 v8 v9 v10 =>
  { fr := { id := 36, kind := (.call (some 5)), T := List.replicate 6 .any ++ [(.osl 1 [] 2 0 v1 (some v2))] ++ List.replicate 18 .any ++ [(.osl 0 [] 1 0 1 (some 1)), (.int .i64 1), (.int .i64 v7)] ++ List.replicate 8 .any, items := [.lp (subc [1, 1, 1, 1, 0, 1, 0, 0] (bodyOf Try.f36)), .blk 2, .code (subc [1, 1, 1, 1, 1] (bodyOf Try.f36))], D := [], base := 1 },
    stk := [{ id := 28, kind := (.call (some 5)), T := List.replicate 5 .any ++ [.undef, .any, .any, .any], items := [.ops (opsOf (subc [1, 0] (bodyOf Try.f28))) ((opsOf (subc [1, 0] (bodyOf Try.f28))).drop 2), .code (subc [1, 1] (bodyOf Try.f28))], D := [], base := 1 }, { id := 9, kind := .top, T := List.replicate 5 .any ++ [.undef, .any], items := [.ops (opsOf (subc [1, 0] (bodyOf Try.f9))) ((opsOf (subc [1, 0] (bodyOf Try.f9))).drop 3), .code (subc [1, 1] (bodyOf Try.f9))], D := [], base := 0 }],
    H := [.cell true 22 (.arr 1 (.slice CRange) v8), .cell true 25 (.arr v9 CRange v10)] }
  | .h2 v4 v5 =>
  { fr := { id := 36, kind := (.call (some 5)), T := List.replicate 6 .any ++ [(.raw (.slice none 0 0))] ++ List.replicate 18 .any ++ [(.osl 0 [] 1 0 1 (some 1)), (.int .i64 1), (.int .i64 v4)] ++ List.replicate 8 .any, items := [.lp (subc [1, 1, 1, 1, 0, 1, 0, 0] (bodyOf Try.f36)), .blk 2, .code (subc [1, 1, 1, 1, 1] (bodyOf Try.f36))], D := [], base := 1 },
    stk := [{ id := 28, kind := (.call (some 5)), T := List.replicate 5 .any ++ [.undef, .any, .any, .any], items := [.ops (opsOf (subc [1, 0] (bodyOf Try.f28))) ((opsOf (subc [1, 0] (bodyOf Try.f28))).drop 2), .code (subc [1, 1] (bodyOf Try.f28))], D := [], base := 1 }, { id := 9, kind := .top, T := List.replicate 5 .any ++ [.undef, .any], items := [.ops (opsOf (subc [1, 0] (bodyOf Try.f9))) ((opsOf (subc [1, 0] (bodyOf Try.f9))).drop 3), .code (subc [1, 1] (bodyOf Try.f9))], D := [], base := 0 }],
    H := [.cell true 22 (.arr 1 (.slice CRange) v5)] }
  | .h3 v1 v2 v3 v4 v5 v6 =>
  { fr := { id := 40, kind := (.iter 6), T := [(.yld 6)] ++ List.replicate 4 .any ++ [(.osl 1 [] 2 0 v1 (some v2)), (.int .i64 v3), (.int .i64 v4)] ++ List.replicate 15 .any, items := [.lp (subc [1, 0, 0] (bodyOf Try.f40)), .blk 0], D := [], base := 7 },
    stk := [{ id := 27, kind := (.call (some 6)), T := List.replicate 4 .any ++ [(.ptr 4 [])] ++ List.replicate 31 .any, items := [.fin 6, .blk 0, .code (subc [1, 1] (bodyOf Try.f27))], D := [5], base := 3 }, { id := 9, kind := .top, T := List.replicate 7 .any, items := [.ops (opsOf (subc [1, 0] (bodyOf Try.f9))) ((opsOf (subc [1, 0] (bodyOf Try.f9))).drop 4), .code (subc [1, 1] (bodyOf Try.f9))], D := [], base := 0 }],
    H := [.dead, .cell true 25 (.arr v5 CRange v6), .dead, .cell true 41 (.fn 29 []), .cell true 22 (.raw (.slice none 0 0)), .dfd, .loop .ready none 27 ([.any, .any, .any, (.ptr 3 []), (.ptr 4 [])] ++ List.replicate 31 .any) [10] (subc [1, 0, 1, 0, 0] (bodyOf Try.f27)) (subc [1, 0, 1, 0, 1] (bodyOf Try.f27)) 5] }
  | .h4 =>
  { fr := { id := 40, kind := (.iter 5), T := [(.yld 5)] ++ List.replicate 4 .any ++ [(.raw (.slice none 0 0)), (.int .i64 0), (.int .i64 0)] ++ List.replicate 15 .any, items := [.lp (subc [1, 0, 0] (bodyOf Try.f40)), .blk 0], D := [], base := 6 },
    stk := [{ id := 27, kind := (.call (some 6)), T := List.replicate 4 .any ++ [(.ptr 3 [])] ++ List.replicate 31 .any, items := [.fin 5, .blk 0, .code (subc [1, 1] (bodyOf Try.f27))], D := [4], base := 2 }, { id := 9, kind := .top, T := List.replicate 7 .any, items := [.ops (opsOf (subc [1, 0] (bodyOf Try.f9))) ((opsOf (subc [1, 0] (bodyOf Try.f9))).drop 4), .code (subc [1, 1] (bodyOf Try.f9))], D := [], base := 0 }],
    H := [.dead, .dead, .cell true 41 (.fn 29 []), .cell true 22 (.raw (.slice none 0 0)), .dfd, .loop .ready none 27 ([.any, .any, .any, (.ptr 2 []), (.ptr 3 [])] ++ List.replicate 31 .any) [10] (subc [1, 0, 1, 0, 0] (bodyOf Try.f27)) (subc [1, 0, 1, 0, 1] (bodyOf Try.f27)) 4] }
  | .h5 v1 v2 v3 v4 v5 v6 v8 v9 v10 =>
  { fr := { id := 40, kind := (.iter 6), T := [(.yld 6)] ++ List.replicate 4 .any ++ [(.osl 1 [] 2 0 v1 (some v2)), (.int .i64 v3), (.int .i64 v4)] ++ List.replicate 15 .any, items := [.lp (subc [1, 0, 0] (bodyOf Try.f40)), .blk 0], D := [], base := 7 },
    stk := [{ id := 27, kind := (.call (some 6)), T := List.replicate 4 .any ++ [(.ptr 4 [])] ++ List.replicate 31 .any, items := [.fin 6, .blk 0, .code (subc [1, 1] (bodyOf Try.f27))], D := [5], base := 3 }, { id := 9, kind := .top, T := List.replicate 7 .any, items := [.ops (opsOf (subc [1, 0] (bodyOf Try.f9))) ((opsOf (subc [1, 0] (bodyOf Try.f9))).drop 4), .code (subc [1, 1] (bodyOf Try.f9))], D := [], base := 0 }],
    H := [.dead, .cell true 25 (.arr v5 CRange v6), .dead, .cell true 41 (.fn 29 []), .cell true 22 (.osl 7 [] 2 0 v8 none), .dfd, .loop .ready none 27 ([.any, .any, .any, (.ptr 3 []), (.ptr 4 [])] ++ List.replicate 31 .any) [10] (subc [1, 0, 1, 0, 0] (bodyOf Try.f27)) (subc [1, 0, 1, 0, 1] (bodyOf Try.f27)) 5, .cell true 25 (.arr v9 CRange v10)] }
noncomputable def stop9 : FuncId → Nat → Nat → Option Cut
  | 36, 0, 1 => some { tmps := [0, 3, 9, 10, 11], loops := [], dead := [], stk := [[5], [5]] }
  | 36, 4, 1 => some { tmps := [6, 25, 26, 27], loops := [], dead := [], stk := [[5], [5]] }
  | 40, 0, 7 => some { tmps := [0, 5, 6, 7], loops := [(6, [3, 4])], dead := [0, 2], stk := [[4], [6]] }
  | 40, 0, 6 => some { tmps := [0, 5, 6, 7], loops := [(5, [3, 4])], dead := [0, 1], stk := [[4], [6]] }
  | _, _, _ => none
noncomputable def fn9 (x : (List DRange)) : (List DRange) := endVal (TC.dflt (.slice CRange)) (step9 x) (tree9 x)
def pre9 (x : (List DRange)) : Prop := ∃ r, Ends (step9 x) r (tree9 x)
noncomputable def spec9 : Spec := { dom := (.st1 (.slice CRange)), cod := (.slice CRange), n := 1, pre := pre9, f := fn9 }
noncomputable def need9 : FuncId → Option Spec
  | 29 => some spec29
  | _ => none
theorem need9_ok : ∀ f sp, need9 f = some sp → SpecOk env0 f sp := by
  intro f sp h
  unfold need9 at h
  split at h
  · cases h; exact ok29
  · cases h
theorem run9 (W : Cfg) (Q : (List DRange) → Prop) (x : (List DRange)) : run (env need9 (fun _ _ => none)) stop9 (finS spec9 Q) W 100000 (startFr 9 Try.f9 (bodyOf Try.f9) (argsOf (.st1 (.slice CRange)) x)) [] [] = (tree9 x).wp (kont W Q (head9 x)) := by kernel_rfl
theorem run9h0 (W : Cfg) (Q : (List DRange) → Prop) (x : (List DRange)) (v3 : Int) (v8 : Int) (v9 : (List (List DRange))) : run (env need9 (fun _ _ => none)) stop9 (finS spec9 Q) W 100000 (head9 x (.h0 v3 v8 v9)).fr.enter (head9 x (.h0 v3 v8 v9)).stk (head9 x (.h0 v3 v8 v9)).H = (step9 x (.h0 v3 v8 v9)).wp (kont W Q (head9 x)) := by kernel_rfl
theorem run9h1 (W : Cfg) (Q : (List DRange) → Prop) (x : (List DRange)) (v1 : Nat) (v2 : Nat) (v7 : Int) (v8 : (List (List DRange))) (v9 : Nat) (v10 : (List DRange)) : run (env need9 (fun _ _ => none)) stop9 (finS spec9 Q) W 100000 (head9 x (.h1 v1 v2 v7 v8 v9 v10)).fr.enter (head9 x (.h1 v1 v2 v7 v8 v9 v10)).stk (head9 x (.h1 v1 v2 v7 v8 v9 v10)).H = (step9 x (.h1 v1 v2 v7 v8 v9 v10)).wp (kont W Q (head9 x)) := by kernel_rfl
theorem run9h2 (W : Cfg) (Q : (List DRange) → Prop) (x : (List DRange)) (v4 : Int) (v5 : (List (List DRange))) : run (env need9 (fun _ _ => none)) stop9 (finS spec9 Q) W 100000 (head9 x (.h2 v4 v5)).fr.enter (head9 x (.h2 v4 v5)).stk (head9 x (.h2 v4 v5)).H = (step9 x (.h2 v4 v5)).wp (kont W Q (head9 x)) := by kernel_rfl
theorem run9h3 (W : Cfg) (Q : (List DRange) → Prop) (x : (List DRange)) (v1 : Nat) (v2 : Nat) (v3 : Int) (v4 : Int) (v5 : Nat) (v6 : (List DRange)) : run (env need9 (fun _ _ => none)) stop9 (finS spec9 Q) W 100000 (head9 x (.h3 v1 v2 v3 v4 v5 v6)).fr.enter (head9 x (.h3 v1 v2 v3 v4 v5 v6)).stk (head9 x (.h3 v1 v2 v3 v4 v5 v6)).H = (step9 x (.h3 v1 v2 v3 v4 v5 v6)).wp (kont W Q (head9 x)) := by kernel_rfl
theorem run9h4 (W : Cfg) (Q : (List DRange) → Prop) (x : (List DRange)) : run (env need9 (fun _ _ => none)) stop9 (finS spec9 Q) W 100000 (head9 x (.h4)).fr.enter (head9 x (.h4)).stk (head9 x (.h4)).H = (step9 x (.h4)).wp (kont W Q (head9 x)) := by kernel_rfl
theorem run9h5 (W : Cfg) (Q : (List DRange) → Prop) (x : (List DRange)) (v1 : Nat) (v2 : Nat) (v3 : Int) (v4 : Int) (v5 : Nat) (v6 : (List DRange)) (v8 : Nat) (v9 : Nat) (v10 : (List DRange)) : run (env need9 (fun _ _ => none)) stop9 (finS spec9 Q) W 100000 (head9 x (.h5 v1 v2 v3 v4 v5 v6 v8 v9 v10)).fr.enter (head9 x (.h5 v1 v2 v3 v4 v5 v6 v8 v9 v10)).stk (head9 x (.h5 v1 v2 v3 v4 v5 v6 v8 v9 v10)).H = (step9 x (.h5 v1 v2 v3 v4 v5 v6 v8 v9 v10)).wp (kont W Q (head9 x)) := by kernel_rfl
theorem runs9 (W : Cfg) (Q : (List DRange) → Prop) (x : (List DRange)) : ∀ j : J9, run (env need9 (fun _ _ => none)) stop9 (finS spec9 Q) W 100000 (head9 x j).fr.enter (head9 x j).stk (head9 x j).H = (step9 x j).wp (kont W Q (head9 x))
  | .h0 v3 v8 v9 => run9h0 W Q x v3 v8 v9
  | .h1 v1 v2 v7 v8 v9 v10 => run9h1 W Q x v1 v2 v7 v8 v9 v10
  | .h2 v4 v5 => run9h2 W Q x v4 v5
  | .h3 v1 v2 v3 v4 v5 v6 => run9h3 W Q x v1 v2 v3 v4 v5 v6
  | .h4 => run9h4 W Q x
  | .h5 v1 v2 v3 v4 v5 v6 v8 v9 v10 => run9h5 W Q x v1 v2 v3 v4 v5 v6 v8 v9 v10
theorem ok9 : SpecOk env0 9 spec9 := SpecOk.env rfl (fun _ _ h => h) (spec_of_trees (E := (env need9 (fun _ _ => none))) (sp := spec9) (valid _ _) (fun f sp h => SpecOk.env rfl (fun _ _ h => h) (need9_ok f sp h)) (fn := Try.f9) (c := (bodyOf Try.f9)) (by kernel_rfl) (by kernel_rfl) tree9 step9 head9 run9 runs9 (fun _ h => endVal_ends h))

/-! ### sundial/dirt.Sub -/
inductive J12 where
  | h0 (v0 : (List DRange)) (v1 : Int) (v2 : Int)
  | h1 (v1 : Nat) (v2 : (List DRange)) (v3 : Int) (v4 : Int) (v7 : Nat) (v8 : (List DRange))
noncomputable def tree12 (x : ((List DRange) × DRange)) : Tr (J12 ⊕ (List DRange)) :=
  .ite (ilt x.2.2 x.2.1) (
  .need (pre9 x.1) <|
  let y0 : (List DRange) := (fn9 x.1)
  .ret (.inr y0)) (
  .need (pre9 x.1) <|
  let y1 : (List DRange) := (fn9 x.1)
  .ret (.inl (.h0 y1 (y1.length : Int) 0)))
noncomputable def step12 (x : ((List DRange) × DRange)) : J12 → Tr (J12 ⊕ (List DRange))
  | .h0 v0 v1 v2 =>
  .ite (ilt v2 v1) (
  .need ((0 : Int) ≤ v2) <|
  .need (v2 < (v0.length : Int)) <|
  let y0 : DRange := (rdc CRange v0 (v2).toNat)
  let y1 : Int := y0.1
  let y2 : Int := x.2.1
  .ite (ilt y1 y2) (
  .need ((0 : Nat) < 1) <|
  .need (((0 : Nat) + 1 : Nat) ≤ 1) <|
  .need (((1 : Nat) * 16 : Nat) ≤ 2 ^ 40) <|
  .need ((1 : Nat) ≤ 2 ^ 40) <|
  let y3 : Int := x.2.2
  let y4 : Int := y0.2
  let y5 : Bool := (ilt y3 y4)
  .ite y5 (
  .need ((0 : Nat) < 1) <|
  .need (((0 : Nat) + 1 : Nat) ≤ 1) <|
  .need ((1 : Nat) = 1) <|
  .need (((2 : Nat) * 16 : Nat) ≤ 2 ^ 40) <|
  .need ((2 : Nat) ≤ 2 ^ 40) <|
  let y6 : Int := (iadd .i64 v2 1)
  let y7 : (Int × Int) := (y1, (imin y4 (isub .u64 y2 1)))
  let y8 : (Int × Int) := ((imax y1 (iadd .u64 y3 1)), y4)
  .ret (.inl (.h1 2 v0 v1 y6 2 [y7, y8]))) (
  let y9 : Int := (iadd .i64 v2 1)
  let y10 : (Int × Int) := (y1, (imin y4 (isub .u64 y2 1)))
  .ret (.inl (.h1 1 v0 v1 y9 1 [y10])))) (
  let y11 : Int := x.2.2
  let y12 : Int := y0.2
  let y13 : Bool := (ilt y11 y12)
  .ite y13 (
  .need ((0 : Nat) < 1) <|
  .need (((0 : Nat) + 1 : Nat) ≤ 1) <|
  .need (((1 : Nat) * 16 : Nat) ≤ 2 ^ 40) <|
  .need ((1 : Nat) ≤ 2 ^ 40) <|
  let y14 : Int := (iadd .i64 v2 1)
  let y15 : (Int × Int) := ((imax y1 (iadd .u64 y11 1)), y12)
  .ret (.inl (.h1 1 v0 v1 y14 1 [y15]))) (
  let y16 : Int := (iadd .i64 v2 1)
  .ret (.inl (.h0 v0 v1 y16))))) (
  .ret (.inr ([] : List DRange)))
  | .h1 v1 v2 v3 v4 v7 v8 =>
  .ite (ilt v4 v3) (
  .need ((0 : Int) ≤ v4) <|
  .need (v4 < (v2.length : Int)) <|
  let y0 : DRange := (rdc CRange v2 (v4).toNat)
  let y1 : Int := y0.1
  let y2 : Int := x.2.1
  .ite (ilt y1 y2) (
  .need ((0 : Nat) < 1) <|
  .need (((0 : Nat) + 1 : Nat) ≤ 1) <|
  .need ((v1 : Nat) = v7) <|
  let y3 : Nat := (v1 + 1)
  .need (((y3 : Nat) * 16 : Nat) ≤ 2 ^ 40) <|
  .need ((y3 : Nat) ≤ 2 ^ 40) <|
  let y4 : Int := x.2.2
  let y5 : Int := y0.2
  let y6 : Bool := (ilt y4 y5)
  .ite y6 (
  .need ((0 : Nat) < 1) <|
  .need (((0 : Nat) + 1 : Nat) ≤ 1) <|
  .need ((y3 : Nat) = y3) <|
  let y7 : Nat := (y3 + 1)
  .need (((y7 : Nat) * 16 : Nat) ≤ 2 ^ 40) <|
  .need ((y7 : Nat) ≤ 2 ^ 40) <|
  let y8 : Int := (iadd .i64 v4 1)
  let y9 : (List DRange) := (v8 ++ [(y1, (imin y5 (isub .u64 y2 1)))])
  let y10 : (List DRange) := [((imax y1 (iadd .u64 y4 1)), y5)]
  .ret (.inl (.h1 y7 v2 v3 y8 y7 (y9 ++ y10)))) (
  let y11 : Int := (iadd .i64 v4 1)
  let y12 : (List DRange) := (v8 ++ [(y1, (imin y5 (isub .u64 y2 1)))])
  .ret (.inl (.h1 y3 v2 v3 y11 y3 y12)))) (
  let y13 : Int := x.2.2
  let y14 : Int := y0.2
  let y15 : Bool := (ilt y13 y14)
  .ite y15 (
  .need ((0 : Nat) < 1) <|
  .need (((0 : Nat) + 1 : Nat) ≤ 1) <|
  .need ((v1 : Nat) = v7) <|
  let y16 : Nat := (v1 + 1)
  .need (((y16 : Nat) * 16 : Nat) ≤ 2 ^ 40) <|
  .need ((y16 : Nat) ≤ 2 ^ 40) <|
  let y17 : Int := (iadd .i64 v4 1)
  let y18 : (List DRange) := [((imax y1 (iadd .u64 y13 1)), y14)]
  .ret (.inl (.h1 y16 v2 v3 y17 y16 (v8 ++ y18)))) (
  let y19 : Int := (iadd .i64 v4 1)
  .ret (.inl (.h1 v1 v2 v3 y19 v7 v8))))) (
  .need (((0 : Nat) + v1 : Nat) ≤ v7) <|
  .ret (.inr (v8.take v1)))
noncomputable def head12 (x : ((List DRange) × DRange)) : J12 → Head
  | .h0 v0 v1 v2 =>
  { fr := { id := 12, kind := .top, T := [.any, .any, .any, (.ptr 0 []), (.raw (.slice none 0 0))] ++ List.replicate 10 .any ++ [(.fsl CRange v0), (.int .i64 v1), (.int .i64 v2)] ++ List.replicate 39 .any, items := [.lp (subc [1, 1, 0, 1, 0, 0] (bodyOf Try.f12)), .blk 0, .code (subc [1, 1, 1] (bodyOf Try.f12))], D := [], base := 0 },
    stk := [],
    H := [.cell true 25 (.agg [1, 1] [(.int .u64 x.2.1), (.int .u64 x.2.2)])] }
  | .h1 v1 v2 v3 v4 v7 v8 =>
  { fr := { id := 12, kind := .top, T := [.any, .any, .any, (.ptr 0 []), (.osl 1 [] 2 0 v1 none)] ++ List.replicate 10 .any ++ [(.fsl CRange v2), (.int .i64 v3), (.int .i64 v4)] ++ List.replicate 39 .any, items := [.lp (subc [1, 1, 0, 1, 0, 0] (bodyOf Try.f12)), .blk 0, .code (subc [1, 1, 1] (bodyOf Try.f12))], D := [], base := 0 },
    stk := [],
    H := [.cell true 25 (.agg [1, 1] [(.int .u64 x.2.1), (.int .u64 x.2.2)]), .cell true 25 (.arr v7 CRange v8)] }
noncomputable def stop12 : FuncId → Nat → Nat → Option Cut
  | 12, 0, 0 => some { tmps := [3, 4, 15, 16, 17], loops := [], dead := [], stk := [] }
  | _, _, _ => none
noncomputable def fn12 (x : ((List DRange) × DRange)) : (List DRange) := endVal (TC.dflt (.slice CRange)) (step12 x) (tree12 x)
def pre12 (x : ((List DRange) × DRange)) : Prop := ∃ r, Ends (step12 x) r (tree12 x)
noncomputable def spec12 : Spec := { dom := (.st (.slice CRange) (.st1 CRange)), cod := (.slice CRange), n := 1, pre := pre12, f := fn12 }
noncomputable def need12 : FuncId → Option Spec
  | 9 => some spec9
  | _ => none
theorem need12_ok : ∀ f sp, need12 f = some sp → SpecOk env0 f sp := by
  intro f sp h
  unfold need12 at h
  split at h
  · cases h; exact ok9
  · cases h
theorem run12 (W : Cfg) (Q : (List DRange) → Prop) (x : ((List DRange) × DRange)) : run (env need12 (fun _ _ => none)) stop12 (finS spec12 Q) W 100000 (startFr 12 Try.f12 (bodyOf Try.f12) (argsOf (.st (.slice CRange) (.st1 CRange)) x)) [] [] = (tree12 x).wp (kont W Q (head12 x)) := by kernel_rfl
theorem run12h0 (W : Cfg) (Q : (List DRange) → Prop) (x : ((List DRange) × DRange)) (v0 : (List DRange)) (v1 : Int) (v2 : Int) : run (env need12 (fun _ _ => none)) stop12 (finS spec12 Q) W 100000 (head12 x (.h0 v0 v1 v2)).fr.enter (head12 x (.h0 v0 v1 v2)).stk (head12 x (.h0 v0 v1 v2)).H = (step12 x (.h0 v0 v1 v2)).wp (kont W Q (head12 x)) := by kernel_rfl
theorem run12h1 (W : Cfg) (Q : (List DRange) → Prop) (x : ((List DRange) × DRange)) (v1 : Nat) (v2 : (List DRange)) (v3 : Int) (v4 : Int) (v7 : Nat) (v8 : (List DRange)) : run (env need12 (fun _ _ => none)) stop12 (finS spec12 Q) W 100000 (head12 x (.h1 v1 v2 v3 v4 v7 v8)).fr.enter (head12 x (.h1 v1 v2 v3 v4 v7 v8)).stk (head12 x (.h1 v1 v2 v3 v4 v7 v8)).H = (step12 x (.h1 v1 v2 v3 v4 v7 v8)).wp (kont W Q (head12 x)) := by kernel_rfl
theorem runs12 (W : Cfg) (Q : (List DRange) → Prop) (x : ((List DRange) × DRange)) : ∀ j : J12, run (env need12 (fun _ _ => none)) stop12 (finS spec12 Q) W 100000 (head12 x j).fr.enter (head12 x j).stk (head12 x j).H = (step12 x j).wp (kont W Q (head12 x))
  | .h0 v0 v1 v2 => run12h0 W Q x v0 v1 v2
  | .h1 v1 v2 v3 v4 v7 v8 => run12h1 W Q x v1 v2 v3 v4 v7 v8
theorem ok12 : SpecOk env0 12 spec12 := SpecOk.env rfl (fun _ _ h => h) (spec_of_trees (E := (env need12 (fun _ _ => none))) (sp := spec12) (valid _ _) (fun f sp h => SpecOk.env rfl (fun _ _ h => h) (need12_ok f sp h)) (fn := Try.f12) (c := (bodyOf Try.f12)) (by kernel_rfl) (by kernel_rfl) tree12 step12 head12 run12 runs12 (fun _ h => endVal_ends h))

/-! ### sundial/dirt.Right -/
inductive J13 where
  | h0 (v1 : Bool) (v3 : Int) (v4 : Int)
noncomputable def tree13 (x : (List DRange)) : Tr (J13 ⊕ Bool) :=
  .ret (.inl (.h0 true (x.length : Int) 0))
noncomputable def step13 (x : (List DRange)) : J13 → Tr (J13 ⊕ Bool)
  | .h0 v1 v3 v4 =>
  .ite (ilt v4 v3) (
  .need ((0 : Int) ≤ v4) <|
  .need (v4 < (x.length : Int)) <|
  let y0 : DRange := (rdc CRange x (v4).toNat)
  let y1 : Int := y0.1
  .ite ((ile y1 y0.2) == true) (
  .ite ((ieq v4 0) == false) (
  let y2 : Int := (isub .i64 v4 1)
  .need ((0 : Int) ≤ y2) <|
  .need (y2 < (x.length : Int)) <|
  let y3 : Int := (rdc CRange x (y2).toNat).2
  .ite ((ilt y3 y1) == true) (
  .need ((0 : Int) ≤ y2) <|
  .need (y2 < (x.length : Int)) <|
  let y4 : Bool := (ilt 1 (isub .u64 y1 y3))
  .ite (!y4) (
  .ret (.inr y4)) (
  let y5 : Int := (iadd .i64 v4 1)
  .ret (.inl (.h0 y4 v3 y5)))) (
  .ret (.inr false))) (
  let y6 : Int := (iadd .i64 v4 1)
  .ret (.inl (.h0 true v3 y6)))) (
  .ret (.inr false))) (
  .ret (.inr v1))
noncomputable def head13 (x : (List DRange)) : J13 → Head
  | .h0 v1 v3 v4 =>
  { fr := { id := 13, kind := .top, T := [(.fsl CRange x), .any, (.bool v1), .any, .any, (.fsl CRange x), (.int .i64 v3), (.int .i64 v4)] ++ List.replicate 40 .any, items := [.lp (subc [1, 0, 1, 1, 0, 1, 0, 0] (bodyOf Try.f13)), .blk 0, .code (subc [1, 0, 1, 1, 1] (bodyOf Try.f13)), .scp], D := [], base := 0 },
    stk := [],
    H := [] }
noncomputable def stop13 : FuncId → Nat → Nat → Option Cut
  | 13, 0, 0 => some { tmps := [0, 2, 5, 6, 7], loops := [], dead := [], stk := [] }
  | _, _, _ => none
noncomputable def fn13 (x : (List DRange)) : Bool := endVal (TC.dflt .bool) (step13 x) (tree13 x)
def pre13 (x : (List DRange)) : Prop := ∃ r, Ends (step13 x) r (tree13 x)
noncomputable def spec13 : Spec := { dom := (.st1 (.slice CRange)), cod := .bool, n := 1, pre := pre13, f := fn13 }
noncomputable def need13 : FuncId → Option Spec
  | _ => none
theorem need13_ok : ∀ f sp, need13 f = some sp → SpecOk env0 f sp := by
  intro f sp h
  unfold need13 at h
  split at h
  · cases h
theorem run13 (W : Cfg) (Q : Bool → Prop) (x : (List DRange)) : run (env need13 (fun _ _ => none)) stop13 (finS spec13 Q) W 100000 (startFr 13 Try.f13 (bodyOf Try.f13) (argsOf (.st1 (.slice CRange)) x)) [] [] = (tree13 x).wp (kont W Q (head13 x)) := by kernel_rfl
theorem run13h0 (W : Cfg) (Q : Bool → Prop) (x : (List DRange)) (v1 : Bool) (v3 : Int) (v4 : Int) : run (env need13 (fun _ _ => none)) stop13 (finS spec13 Q) W 100000 (head13 x (.h0 v1 v3 v4)).fr.enter (head13 x (.h0 v1 v3 v4)).stk (head13 x (.h0 v1 v3 v4)).H = (step13 x (.h0 v1 v3 v4)).wp (kont W Q (head13 x)) := by kernel_rfl
theorem runs13 (W : Cfg) (Q : Bool → Prop) (x : (List DRange)) : ∀ j : J13, run (env need13 (fun _ _ => none)) stop13 (finS spec13 Q) W 100000 (head13 x j).fr.enter (head13 x j).stk (head13 x j).H = (step13 x j).wp (kont W Q (head13 x))
  | .h0 v1 v3 v4 => run13h0 W Q x v1 v3 v4
theorem ok13 : SpecOk env0 13 spec13 := SpecOk.env rfl (fun _ _ h => h) (spec_of_trees (E := (env need13 (fun _ _ => none))) (sp := spec13) (valid _ _) (fun f sp h => SpecOk.env rfl (fun _ _ h => h) (need13_ok f sp h)) (fn := Try.f13) (c := (bodyOf Try.f13)) (by kernel_rfl) (by kernel_rfl) tree13 step13 head13 run13 runs13 (fun _ h => endVal_ends h))

end Go.Eng.RT
end
section
/- Functions of this program, written out. -/
namespace Go.Eng.RT
open Go.Proofs Go.Eng
set_option maxRecDepth 100000

/-! ### sundial/dirt.Meets -/
inductive J15 where
  | h0 (v1 : Int) (v2 : Int)
noncomputable def tree15 (x : ((List DRange) × DRange)) : Tr (J15 ⊕ Bool) :=
  .ite ((ile x.2.1 x.2.2) == true) (
  .ret (.inl (.h0 (x.1.length : Int) 0))) (
  .ret (.inr false))
noncomputable def step15 (x : ((List DRange) × DRange)) : J15 → Tr (J15 ⊕ Bool)
  | .h0 v1 v2 =>
  .ite (ilt v2 v1) (
  .need ((0 : Int) ≤ v2) <|
  .need (v2 < (x.1.length : Int)) <|
  let y0 : DRange := (rdc CRange x.1 (v2).toNat)
  let y1 : Int := y0.1
  let y2 : Int := y0.2
  .ite ((ile y1 y2) == true) (
  .ite ((ile y1 x.2.2) == true) (
  .ite (ile x.2.1 y2) (
  .ret (.inr (ile 0 v2))) (
  let y3 : Int := (iadd .i64 v2 1)
  .ret (.inl (.h0 v1 y3)))) (
  let y4 : Int := (iadd .i64 v2 1)
  .ret (.inl (.h0 v1 y4)))) (
  let y5 : Int := (iadd .i64 v2 1)
  .ret (.inl (.h0 v1 y5)))) (
  .ret (.inr false))
noncomputable def head15 (x : ((List DRange) × DRange)) : J15 → Head
  | .h0 v1 v2 =>
  { fr := { id := 41, kind := (.call (some 7)), T := [(.fsl CRange x.1), (.fn 31 [(.ptr 0 [])])] ++ List.replicate 5 .any ++ [(.int .i64 v1), (.int .i64 v2)] ++ List.replicate 10 .any, items := [.lp (subc [1, 0, 1, 0, 0] (bodyOf Try.f41)), .blk 0, .code (subc [1, 1] (bodyOf Try.f41))], D := [], base := 1 },
    stk := [{ id := 30, kind := (.call (some 13)), T := List.replicate 7 .any ++ [.undef, .any], items := [.ops (opsOf (subc [1, 0] (bodyOf Try.f30))) ((opsOf (subc [1, 0] (bodyOf Try.f30))).drop 3), .code (subc [1, 1] (bodyOf Try.f30))], D := [], base := 1 }, { id := 15, kind := .top, T := List.replicate 10 .any ++ [(.bool true), .any, .any, .undef, .any], items := [.ops (opsOf (subc [1, 0] (bodyOf Try.f15))) ((opsOf (subc [1, 0] (bodyOf Try.f15))).drop 9), .code (subc [1, 1] (bodyOf Try.f15))], D := [], base := 0 }],
    H := [.cell true 25 (.agg [1, 1] [(.int .u64 x.2.1), (.int .u64 x.2.2)])] }
noncomputable def stop15 : FuncId → Nat → Nat → Option Cut
  | 41, 0, 1 => some { tmps := [0, 1, 7, 8], loops := [], dead := [], stk := [[7], [10, 13]] }
  | _, _, _ => none
noncomputable def fn15 (x : ((List DRange) × DRange)) : Bool := endVal (TC.dflt .bool) (step15 x) (tree15 x)
def pre15 (x : ((List DRange) × DRange)) : Prop := ∃ r, Ends (step15 x) r (tree15 x)
noncomputable def spec15 : Spec := { dom := (.st (.slice CRange) (.st1 CRange)), cod := .bool, n := 1, pre := pre15, f := fn15 }
noncomputable def need15 : FuncId → Option Spec
  | _ => none
theorem need15_ok : ∀ f sp, need15 f = some sp → SpecOk env0 f sp := by
  intro f sp h
  unfold need15 at h
  split at h
  · cases h
theorem run15 (W : Cfg) (Q : Bool → Prop) (x : ((List DRange) × DRange)) : run (env need15 (fun _ _ => none)) stop15 (finS spec15 Q) W 100000 (startFr 15 Try.f15 (bodyOf Try.f15) (argsOf (.st (.slice CRange) (.st1 CRange)) x)) [] [] = (tree15 x).wp (kont W Q (head15 x)) := by kernel_rfl
theorem run15h0 (W : Cfg) (Q : Bool → Prop) (x : ((List DRange) × DRange)) (v1 : Int) (v2 : Int) : run (env need15 (fun _ _ => none)) stop15 (finS spec15 Q) W 100000 (head15 x (.h0 v1 v2)).fr.enter (head15 x (.h0 v1 v2)).stk (head15 x (.h0 v1 v2)).H = (step15 x (.h0 v1 v2)).wp (kont W Q (head15 x)) := by kernel_rfl
theorem runs15 (W : Cfg) (Q : Bool → Prop) (x : ((List DRange) × DRange)) : ∀ j : J15, run (env need15 (fun _ _ => none)) stop15 (finS spec15 Q) W 100000 (head15 x j).fr.enter (head15 x j).stk (head15 x j).H = (step15 x j).wp (kont W Q (head15 x))
  | .h0 v1 v2 => run15h0 W Q x v1 v2
theorem ok15 : SpecOk env0 15 spec15 := SpecOk.env rfl (fun _ _ h => h) (spec_of_trees (E := (env need15 (fun _ _ => none))) (sp := spec15) (valid _ _) (fun f sp h => SpecOk.env rfl (fun _ _ h => h) (need15_ok f sp h)) (fn := Try.f15) (c := (bodyOf Try.f15)) (by kernel_rfl) (by kernel_rfl) tree15 step15 head15 run15 runs15 (fun _ h => endVal_ends h))

/-! ### sundial/dirt.Has -/
noncomputable def tree14 (x : ((List DRange) × Int)) : Tr Bool :=
  let y0 : ((List DRange) × (Int × Int)) := (x.1, (x.2, x.2))
  .need (pre15 y0) <|
  .ret (fn15 y0)
noncomputable def fn14 (x : ((List DRange) × Int)) : Bool := (tree14 x).val
def pre14 (x : ((List DRange) × Int)) : Prop := (tree14 x).ok
noncomputable def spec14 : Spec := { dom := (.st (.slice CRange) (.st1 (.int .u64))), cod := .bool, n := 1, pre := pre14, f := fn14 }
noncomputable def need14 : FuncId → Option Spec
  | 15 => some spec15
  | _ => none
theorem need14_ok : ∀ f sp, need14 f = some sp → SpecOk env0 f sp := by
  intro f sp h
  unfold need14 at h
  split at h
  · cases h; exact ok15
  · cases h
theorem run14 (W : Cfg) (Q : Bool → Prop) (x : ((List DRange) × Int)) : run (env need14 (fun _ _ => none)) (fun _ _ _ => none) (finS spec14 Q) W 100000 (startFr 14 Try.f14 (bodyOf Try.f14) (argsOf (.st (.slice CRange) (.st1 (.int .u64))) x)) [] [] = (tree14 x).wp Q := by kernel_rfl
theorem ok14 : SpecOk env0 14 spec14 := SpecOk.env rfl (fun _ _ h => h) (spec_of_tree (E := (env need14 (fun _ _ => none))) (sp := spec14) (valid _ _) (fun f sp h => SpecOk.env rfl (fun _ _ h => h) (need14_ok f sp h)) (fn := Try.f14) (c := (bodyOf Try.f14)) (by kernel_rfl) (by kernel_rfl) tree14 run14 (fun _ h => Tr.gives_val h))

/-! ### sundial/sundialref23.Same -/
inductive J33 where
  | h0 (v2 : Int)
noncomputable def tree33 (x : ((List DRange) × (List DRange))) : Tr (J33 ⊕ Bool) :=
  .ite (ine (x.1.length : Int) (x.2.length : Int)) (
  .ret (.inr false)) (
  .ret (.inl (.h0 0)))
noncomputable def step33 (x : ((List DRange) × (List DRange))) : J33 → Tr (J33 ⊕ Bool)
  | .h0 v2 =>
  .ite (ilt v2 (x.1.length : Int)) (
  .need ((0 : Int) ≤ v2) <|
  .need (v2 < (x.1.length : Int)) <|
  .need ((0 : Int) ≤ v2) <|
  .need (v2 < (x.2.length : Int)) <|
  .ite (!(eqD CRange (rdc CRange x.1 (v2).toNat) (rdc CRange x.2 (v2).toNat))) (
  .ret (.inr false)) (
  .ret (.inl (.h0 (iadd .i64 v2 1))))) (
  .ret (.inr true))
noncomputable def head33 (x : ((List DRange) × (List DRange))) : J33 → Head
  | .h0 v2 =>
  { fr := { id := 33, kind := .top, T := [(.fsl CRange x.1), (.fsl CRange x.2), .any, .any, .any, (.int .i64 v2)] ++ List.replicate 20 .any, items := [.lp (subc [1, 1, 0, 1, 0, 0] (bodyOf Try.f33)), .blk 0, .code (subc [1, 1, 1] (bodyOf Try.f33))], D := [], base := 0 },
    stk := [],
    H := [] }
noncomputable def stop33 : FuncId → Nat → Nat → Option Cut
  | 33, 0, 0 => some { tmps := [0, 1, 5], loops := [], dead := [], stk := [] }
  | _, _, _ => none
noncomputable def fn33 (x : ((List DRange) × (List DRange))) : Bool := endVal (TC.dflt .bool) (step33 x) (tree33 x)
def pre33 (x : ((List DRange) × (List DRange))) : Prop := ∃ r, Ends (step33 x) r (tree33 x)
noncomputable def spec33 : Spec := { dom := (.st (.slice CRange) (.st1 (.slice CRange))), cod := .bool, n := 1, pre := pre33, f := fn33 }
noncomputable def need33 : FuncId → Option Spec
  | _ => none
theorem need33_ok : ∀ f sp, need33 f = some sp → SpecOk env0 f sp := by
  intro f sp h
  unfold need33 at h
  split at h
  · cases h
theorem run33 (W : Cfg) (Q : Bool → Prop) (x : ((List DRange) × (List DRange))) : run (env need33 (fun _ _ => none)) stop33 (finS spec33 Q) W 100000 (startFr 33 Try.f33 (bodyOf Try.f33) (argsOf (.st (.slice CRange) (.st1 (.slice CRange))) x)) [] [] = (tree33 x).wp (kont W Q (head33 x)) := by kernel_rfl
theorem run33h0 (W : Cfg) (Q : Bool → Prop) (x : ((List DRange) × (List DRange))) (v2 : Int) : run (env need33 (fun _ _ => none)) stop33 (finS spec33 Q) W 100000 (head33 x (.h0 v2)).fr.enter (head33 x (.h0 v2)).stk (head33 x (.h0 v2)).H = (step33 x (.h0 v2)).wp (kont W Q (head33 x)) := by kernel_rfl
theorem runs33 (W : Cfg) (Q : Bool → Prop) (x : ((List DRange) × (List DRange))) : ∀ j : J33, run (env need33 (fun _ _ => none)) stop33 (finS spec33 Q) W 100000 (head33 x j).fr.enter (head33 x j).stk (head33 x j).H = (step33 x j).wp (kont W Q (head33 x))
  | .h0 v2 => run33h0 W Q x v2
theorem ok33 : SpecOk env0 33 spec33 := SpecOk.env rfl (fun _ _ h => h) (spec_of_trees (E := (env need33 (fun _ _ => none))) (sp := spec33) (valid _ _) (fun f sp h => SpecOk.env rfl (fun _ _ h => h) (need33_ok f sp h)) (fn := Try.f33) (c := (bodyOf Try.f33)) (by kernel_rfl) (by kernel_rfl) tree33 step33 head33 run33 runs33 (fun _ h => endVal_ends h))

/-! ### sundial/sundiallaw23.same -/
noncomputable def tree17 (x : ((List DRange) × (List DRange))) : Tr Bool :=
  .need (pre33 x) <|
  .ret (fn33 x)
noncomputable def fn17 (x : ((List DRange) × (List DRange))) : Bool := (tree17 x).val
def pre17 (x : ((List DRange) × (List DRange))) : Prop := (tree17 x).ok
noncomputable def spec17 : Spec := { dom := (.st (.slice CRange) (.st1 (.slice CRange))), cod := .bool, n := 1, pre := pre17, f := fn17 }
noncomputable def need17 : FuncId → Option Spec
  | 33 => some spec33
  | _ => none
theorem need17_ok : ∀ f sp, need17 f = some sp → SpecOk env0 f sp := by
  intro f sp h
  unfold need17 at h
  split at h
  · cases h; exact ok33
  · cases h
theorem run17 (W : Cfg) (Q : Bool → Prop) (x : ((List DRange) × (List DRange))) : run (env need17 (fun _ _ => none)) (fun _ _ _ => none) (finS spec17 Q) W 100000 (startFr 17 Try.f17 (bodyOf Try.f17) (argsOf (.st (.slice CRange) (.st1 (.slice CRange))) x)) [] [] = (tree17 x).wp Q := by kernel_rfl
theorem ok17 : SpecOk env0 17 spec17 := SpecOk.env rfl (fun _ _ h => h) (spec_of_tree (E := (env need17 (fun _ _ => none))) (sp := spec17) (valid _ _) (fun f sp h => SpecOk.env rfl (fun _ _ h => h) (need17_ok f sp h)) (fn := Try.f17) (c := (bodyOf Try.f17)) (by kernel_rfl) (by kernel_rfl) tree17 run17 (fun _ h => Tr.gives_val h))

/-! ### sundial/sundiallaw23.wakes -/
noncomputable def tree7 (_x : Unit) : Tr Bool :=
  .need ((0 : Nat) < 1) <|
  .need ((0 : Nat) < 1) <|
  .need (((0 : Nat) + 1 : Nat) ≤ 1) <|
  .need (((0 : Nat) + 1 : Nat) ≤ 1) <|
  let y0 : ((List DRange) × (List DRange)) := ([(1, 3)], [(4, 6)])
  .need (pre10 y0) <|
  .need ((0 : Nat) < 1) <|
  .need (((0 : Nat) + 1 : Nat) ≤ 1) <|
  let y1 : ((List DRange) × (Int × Int)) := ([(1, 9)], (3, 4))
  .need (pre12 y1) <|
  .need ((0 : Nat) < 1) <|
  .need (((0 : Nat) + 1 : Nat) ≤ 1) <|
  let y2 : (List DRange) := (fn10 y0)
  let y3 : ((List DRange) × (List DRange)) := (y2, [(1, 6)])
  .need (pre17 y3) <|
  .ite ((fn17 y3) == true) (
  .need ((0 : Nat) < 2) <|
  .need ((1 : Nat) < 2) <|
  .need (((0 : Nat) + 2 : Nat) ≤ 2) <|
  let y4 : (List DRange) := (fn12 y1)
  let y5 : ((List DRange) × (List DRange)) := (y4, [(1, 2), (5, 9)])
  .need (pre17 y5) <|
  .ite ((fn17 y5) == true) (
  .need (pre13 y2) <|
  .ite ((fn13 y2) == true) (
  .need ((0 : Nat) < 1) <|
  .need (((0 : Nat) + 1 : Nat) ≤ 1) <|
  let y6 : (List DRange) := [(2, 1)]
  .need (pre13 y6) <|
  .ite ((!(fn13 y6)) == true) (
  let y7 : ((List DRange) × Int) := (y4, 5)
  .need (pre14 y7) <|
  .ite ((fn14 y7) == true) (
  let y8 : ((List DRange) × Int) := (y4, 4)
  .need (pre14 y8) <|
  .ret (!(fn14 y8))) (
  .ret false)) (
  .ret false)) (
  .ret false)) (
  .ret false)) (
  .ret false)
noncomputable def fn7 (x : Unit) : Bool := (tree7 x).val
def pre7 (x : Unit) : Prop := (tree7 x).ok
noncomputable def spec7 : Spec := { dom := .unit, cod := .bool, n := 1, pre := pre7, f := fn7 }
noncomputable def need7 : FuncId → Option Spec
  | 10 => some spec10
  | 12 => some spec12
  | 13 => some spec13
  | 14 => some spec14
  | 17 => some spec17
  | _ => none
theorem need7_ok : ∀ f sp, need7 f = some sp → SpecOk env0 f sp := by
  intro f sp h
  unfold need7 at h
  split at h
  · cases h; exact ok10
  · cases h; exact ok12
  · cases h; exact ok13
  · cases h; exact ok14
  · cases h; exact ok17
  · cases h
theorem run7 (W : Cfg) (Q : Bool → Prop) (x : Unit) : run (env need7 (fun _ _ => none)) (fun _ _ _ => none) (finS spec7 Q) W 100000 (startFr 7 Try.f7 (bodyOf Try.f7) (argsOf .unit x)) [] [] = (tree7 x).wp Q := by kernel_rfl
theorem ok7 : SpecOk env0 7 spec7 := SpecOk.env rfl (fun _ _ h => h) (spec_of_tree (E := (env need7 (fun _ _ => none))) (sp := spec7) (valid _ _) (fun f sp h => SpecOk.env rfl (fun _ _ h => h) (need7_ok f sp h)) (fn := Try.f7) (c := (bodyOf Try.f7)) (by kernel_rfl) (by kernel_rfl) tree7 run7 (fun _ h => Tr.gives_val h))

/-! ### sundial/dirt.Join -/
noncomputable def tree11 (x : ((List DRange) × (List DRange))) : Tr (List DRange) :=
  .need (pre10 x) <|
  .ret (fn10 x)
noncomputable def fn11 (x : ((List DRange) × (List DRange))) : (List DRange) := (tree11 x).val
def pre11 (x : ((List DRange) × (List DRange))) : Prop := (tree11 x).ok
noncomputable def spec11 : Spec := { dom := (.st (.slice CRange) (.st1 (.slice CRange))), cod := (.slice CRange), n := 1, pre := pre11, f := fn11 }
noncomputable def need11 : FuncId → Option Spec
  | 10 => some spec10
  | _ => none
theorem need11_ok : ∀ f sp, need11 f = some sp → SpecOk env0 f sp := by
  intro f sp h
  unfold need11 at h
  split at h
  · cases h; exact ok10
  · cases h
theorem run11 (W : Cfg) (Q : (List DRange) → Prop) (x : ((List DRange) × (List DRange))) : run (env need11 (fun _ _ => none)) (fun _ _ _ => none) (finS spec11 Q) W 100000 (startFr 11 Try.f11 (bodyOf Try.f11) (argsOf (.st (.slice CRange) (.st1 (.slice CRange))) x)) [] [] = (tree11 x).wp Q := by kernel_rfl
theorem ok11 : SpecOk env0 11 spec11 := SpecOk.env rfl (fun _ _ h => h) (spec_of_tree (E := (env need11 (fun _ _ => none))) (sp := spec11) (valid _ _) (fun f sp h => SpecOk.env rfl (fun _ _ h => h) (need11_ok f sp h)) (fn := Try.f11) (c := (bodyOf Try.f11)) (by kernel_rfl) (by kernel_rfl) tree11 run11 (fun _ h => Tr.gives_val h))

/-! ### sundial/dirt.Same -/
inductive J26 where
  | h0 (v2 : Int) (v3 : Int)
noncomputable def tree26 (x : ((List DRange) × (List DRange))) : Tr (J26 ⊕ Bool) :=
  let y0 : Int := (x.1.length : Int)
  .ite (ine y0 (x.2.length : Int)) (
  .ret (.inr false)) (
  .ret (.inl (.h0 y0 0)))
noncomputable def step26 (x : ((List DRange) × (List DRange))) : J26 → Tr (J26 ⊕ Bool)
  | .h0 v2 v3 =>
  .ite (ilt v3 v2) (
  .need ((0 : Int) ≤ v3) <|
  .need (v3 < (x.1.length : Int)) <|
  .need ((0 : Int) ≤ v3) <|
  .need (v3 < (x.2.length : Int)) <|
  .ite (!(eqD CRange (rdc CRange x.1 (v3).toNat) (rdc CRange x.2 (v3).toNat))) (
  .ret (.inr false)) (
  .ret (.inl (.h0 v2 (iadd .i64 v3 1))))) (
  .ret (.inr true))
noncomputable def head26 (x : ((List DRange) × (List DRange))) : J26 → Head
  | .h0 v2 v3 =>
  { fr := { id := 35, kind := (.call (some 7)), T := [(.fsl CRange x.1), (.fsl CRange x.2)] ++ List.replicate 10 .any ++ [(.int .i64 v2), (.int .i64 v3)] ++ List.replicate 12 .any, items := [.lp (subc [1, 1, 0, 1, 0, 0] (bodyOf Try.f35)), .blk 0, .code (subc [1, 1, 1] (bodyOf Try.f35))], D := [], base := 0 },
    stk := [{ id := 26, kind := .top, T := List.replicate 7 .any ++ [.undef], items := [.ops (opsOf (subc [1, 0] (bodyOf Try.f26))) ((opsOf (subc [1, 0] (bodyOf Try.f26))).drop 3), .code (subc [1, 1] (bodyOf Try.f26))], D := [], base := 0 }],
    H := [] }
noncomputable def stop26 : FuncId → Nat → Nat → Option Cut
  | 35, 0, 0 => some { tmps := [0, 1, 12, 13], loops := [], dead := [], stk := [[7]] }
  | _, _, _ => none
noncomputable def fn26 (x : ((List DRange) × (List DRange))) : Bool := endVal (TC.dflt .bool) (step26 x) (tree26 x)
def pre26 (x : ((List DRange) × (List DRange))) : Prop := ∃ r, Ends (step26 x) r (tree26 x)
noncomputable def spec26 : Spec := { dom := (.st (.slice CRange) (.st1 (.slice CRange))), cod := .bool, n := 1, pre := pre26, f := fn26 }
noncomputable def need26 : FuncId → Option Spec
  | _ => none
theorem need26_ok : ∀ f sp, need26 f = some sp → SpecOk env0 f sp := by
  intro f sp h
  unfold need26 at h
  split at h
  · cases h
theorem run26 (W : Cfg) (Q : Bool → Prop) (x : ((List DRange) × (List DRange))) : run (env need26 (fun _ _ => none)) stop26 (finS spec26 Q) W 100000 (startFr 26 Try.f26 (bodyOf Try.f26) (argsOf (.st (.slice CRange) (.st1 (.slice CRange))) x)) [] [] = (tree26 x).wp (kont W Q (head26 x)) := by kernel_rfl
theorem run26h0 (W : Cfg) (Q : Bool → Prop) (x : ((List DRange) × (List DRange))) (v2 : Int) (v3 : Int) : run (env need26 (fun _ _ => none)) stop26 (finS spec26 Q) W 100000 (head26 x (.h0 v2 v3)).fr.enter (head26 x (.h0 v2 v3)).stk (head26 x (.h0 v2 v3)).H = (step26 x (.h0 v2 v3)).wp (kont W Q (head26 x)) := by kernel_rfl
theorem runs26 (W : Cfg) (Q : Bool → Prop) (x : ((List DRange) × (List DRange))) : ∀ j : J26, run (env need26 (fun _ _ => none)) stop26 (finS spec26 Q) W 100000 (head26 x j).fr.enter (head26 x j).stk (head26 x j).H = (step26 x j).wp (kont W Q (head26 x))
  | .h0 v2 v3 => run26h0 W Q x v2 v3
theorem ok26 : SpecOk env0 26 spec26 := SpecOk.env rfl (fun _ _ h => h) (spec_of_trees (E := (env need26 (fun _ _ => none))) (sp := spec26) (valid _ _) (fun f sp h => SpecOk.env rfl (fun _ _ h => h) (need26_ok f sp h)) (fn := Try.f26) (c := (bodyOf Try.f26)) (by kernel_rfl) (by kernel_rfl) tree26 step26 head26 run26 runs26 (fun _ h => endVal_ends h))

/-! ### sundial/dirt.In -/
noncomputable def tree23 (x : ((List DRange) × (List DRange))) : Tr Bool :=
  .need (pre11 x) <|
  .need (pre9 x.2) <|
  let y0 : ((List DRange) × (List DRange)) := ((fn11 x), (fn9 x.2))
  .need (pre26 y0) <|
  .ret (fn26 y0)
noncomputable def fn23 (x : ((List DRange) × (List DRange))) : Bool := (tree23 x).val
def pre23 (x : ((List DRange) × (List DRange))) : Prop := (tree23 x).ok
noncomputable def spec23 : Spec := { dom := (.st (.slice CRange) (.st1 (.slice CRange))), cod := .bool, n := 1, pre := pre23, f := fn23 }
noncomputable def need23 : FuncId → Option Spec
  | 9 => some spec9
  | 11 => some spec11
  | 26 => some spec26
  | _ => none
theorem need23_ok : ∀ f sp, need23 f = some sp → SpecOk env0 f sp := by
  intro f sp h
  unfold need23 at h
  split at h
  · cases h; exact ok9
  · cases h; exact ok11
  · cases h; exact ok26
  · cases h
theorem run23 (W : Cfg) (Q : Bool → Prop) (x : ((List DRange) × (List DRange))) : run (env need23 (fun _ _ => none)) (fun _ _ _ => none) (finS spec23 Q) W 100000 (startFr 23 Try.f23 (bodyOf Try.f23) (argsOf (.st (.slice CRange) (.st1 (.slice CRange))) x)) [] [] = (tree23 x).wp Q := by kernel_rfl
theorem ok23 : SpecOk env0 23 spec23 := SpecOk.env rfl (fun _ _ h => h) (spec_of_tree (E := (env need23 (fun _ _ => none))) (sp := spec23) (valid _ _) (fun f sp h => SpecOk.env rfl (fun _ _ h => h) (need23_ok f sp h)) (fn := Try.f23) (c := (bodyOf Try.f23)) (by kernel_rfl) (by kernel_rfl) tree23 run23 (fun _ h => Tr.gives_val h))

/-! ### sundial/sundiallaw23.DirtBack -/
noncomputable def tree6 (x : ((List DRange) × DRange)) : Tr Bool :=
  .ite (ilt 60 (x.1.length : Int)) (
  .need (pre7 ()) <|
  .ret (fn7 ())) (
  .need (pre9 x.1) <|
  .need (pre12 x) <|
  .ite (ilt x.2.2 x.2.1) (
  let y0 : (List DRange) := (fn9 x.1)
  let y1 : ((List DRange) × (List DRange)) := ((fn12 x), y0)
  .need (pre17 y1) <|
  let y2 : Bool := (fn17 y1)
  .ite (y2 == true) (
  .need (pre15 x) <|
  .ite ((!(fn15 x)) == true) (
  .need ((0 : Nat) < 1) <|
  .need (((0 : Nat) + 1 : Nat) ≤ 1) <|
  let y3 : (List DRange) := [x.2]
  let y4 : ((List DRange) × (List DRange)) := (x.1, y3)
  .need (pre10 y4) <|
  let y5 : (List DRange) := (fn10 y4)
  let y6 : ((List DRange) × (List DRange)) := (y5, y0)
  .need (pre17 y6) <|
  .ite ((fn17 y6) == true) (
  .need (pre7 ()) <|
  .ret (fn7 ())) (
  .ret false)) (
  .ret false)) (
  .ret false)) (
  .both (
  .need ((0 : Nat) < 1) <|
  .need (((0 : Nat) + 1 : Nat) ≤ 1) <|
  let y7 : (List DRange) := [x.2]
  let y8 : ((List DRange) × (List DRange)) := ((fn12 x), y7)
  .need (pre10 y8) <|
  .need ((0 : Nat) < 1) <|
  .need (((0 : Nat) + 1 : Nat) ≤ 1) <|
  let y9 : ((List DRange) × (List DRange)) := (x.1, y7)
  .need (pre10 y9) <|
  let y10 : (List DRange) := (fn10 y9)
  let y11 : ((List DRange) × (List DRange)) := ((fn10 y8), y10)
  .need (pre17 y11) <|
  let y12 : Bool := ((fn17 y11) == true)
  .ite y12 (
  .need (pre15 x) <|
  let y13 : (List DRange) := (fn9 x.1)
  let y14 : ((List DRange) × (List DRange)) := ((fn12 x), y13)
  .need (pre17 y14) <|
  let y15 : Bool := (fn17 y14)
  let y16 : Bool := (((fn15 x) == (!y15)) == true)
  .ite y16 (
  let y17 : ((List DRange) × DRange) := ((fn12 x), x.2)
  .need (pre15 y17) <|
  let y18 : Bool := ((!(fn15 y17)) == true)
  .ite y18 (
  let y19 : ((List DRange) × (List DRange)) := ((fn12 x), x.1)
  .need (pre23 y19) <|
  let y20 : Bool := ((fn23 y19) == true)
  .ite y20 (
  .need (pre7 ()) <|
  .ret (fn7 ())) (
  .ret false)) (
  .ret false)) (
  .ret false)) (
  .ret false)) (
  .need ((0 : Nat) < 1) <|
  .need ((0 : Nat) < 1) <|
  .need (((0 : Nat) + 1 : Nat) ≤ 1) <|
  let y21 : (List DRange) := [x.2]
  let y22 : ((List DRange) × (List DRange)) := ((fn12 x), y21)
  .need (pre10 y22) <|
  .need (((0 : Nat) + 1 : Nat) ≤ 1) <|
  let y23 : ((List DRange) × (List DRange)) := (x.1, y21)
  .need (pre10 y23) <|
  let y24 : (List DRange) := (fn10 y23)
  let y25 : ((List DRange) × (List DRange)) := ((fn10 y22), y24)
  .need (pre17 y25) <|
  let y26 : Bool := ((fn17 y25) == true)
  .ite y26 (
  .need (pre15 x) <|
  let y27 : (List DRange) := (fn9 x.1)
  let y28 : ((List DRange) × (List DRange)) := ((fn12 x), y27)
  .need (pre17 y28) <|
  let y29 : Bool := (fn17 y28)
  let y30 : Bool := (((fn15 x) == (!y29)) == true)
  .ite y30 (
  let y31 : ((List DRange) × DRange) := ((fn12 x), x.2)
  .need (pre15 y31) <|
  let y32 : Bool := ((!(fn15 y31)) == true)
  .ite y32 (
  let y33 : ((List DRange) × (List DRange)) := ((fn12 x), x.1)
  .need (pre23 y33) <|
  let y34 : Bool := ((fn23 y33) == true)
  .ite y34 (
  .need (pre7 ()) <|
  .ret (fn7 ())) (
  .ret false)) (
  .ret false)) (
  .ret false)) (
  .ret false))))
noncomputable def fn6 (x : ((List DRange) × DRange)) : Bool := (tree6 x).val
def pre6 (x : ((List DRange) × DRange)) : Prop := (tree6 x).ok
noncomputable def spec6 : Spec := { dom := (.st (.slice CRange) (.st1 CRange)), cod := .bool, n := 1, pre := pre6, f := fn6 }
noncomputable def need6 : FuncId → Option Spec
  | 7 => some spec7
  | 9 => some spec9
  | 10 => some spec10
  | 12 => some spec12
  | 15 => some spec15
  | 17 => some spec17
  | 23 => some spec23
  | _ => none
theorem need6_ok : ∀ f sp, need6 f = some sp → SpecOk env0 f sp := by
  intro f sp h
  unfold need6 at h
  split at h
  · cases h; exact ok7
  · cases h; exact ok9
  · cases h; exact ok10
  · cases h; exact ok12
  · cases h; exact ok15
  · cases h; exact ok17
  · cases h; exact ok23
  · cases h
theorem run6 (W : Cfg) (Q : Bool → Prop) (x : ((List DRange) × DRange)) : run (env need6 (fun _ _ => none)) (fun _ _ _ => none) (finS spec6 Q) W 100000 (startFr 6 Try.f6 (bodyOf Try.f6) (argsOf (.st (.slice CRange) (.st1 CRange)) x)) [] [] = (tree6 x).wp Q := by kernel_rfl
theorem ok6 : SpecOk env0 6 spec6 := SpecOk.env rfl (fun _ _ h => h) (spec_of_tree (E := (env need6 (fun _ _ => none))) (sp := spec6) (valid _ _) (fun f sp h => SpecOk.env rfl (fun _ _ h => h) (need6_ok f sp h)) (fn := Try.f6) (c := (bodyOf Try.f6)) (by kernel_rfl) (by kernel_rfl) tree6 run6 (fun _ h => Tr.gives_val h))

end Go.Eng.RT
end
section
/- Rows of ranges: which addresses they have; a row that may be is the only one of its addresses. No program here. -/
namespace Go.Eng.RS
abbrev Rg := Int × Int
def Cov (l : List Rg) (a : Int) : Prop := ∃ r, r ∈ l ∧ r.1 ≤ a ∧ a ≤ r.2
def May : Int → List Rg → Prop
  | _, [] => True
  | b, r :: l => b ≤ r.1 ∧ r.1 ≤ r.2 ∧ May (r.2 + 2) l
theorem cov_nil {a : Int} : ¬ Cov [] a := by rintro ⟨_, h, _⟩; cases h
theorem cov_cons {r : Rg} {l : List Rg} {a : Int} : Cov (r :: l) a ↔ (r.1 ≤ a ∧ a ≤ r.2) ∨ Cov l a := by
  constructor
  · rintro ⟨s, h, h'⟩
    cases h with
    | head => exact .inl h'
    | tail _ h => exact .inr ⟨s, h, h'⟩
  · rintro (h | ⟨s, h, h'⟩)
    · exact ⟨r, .head _, h⟩
    · exact ⟨s, .tail _ h, h'⟩
theorem cov_app {l m : List Rg} {a : Int} : Cov (l ++ m) a ↔ Cov l a ∨ Cov m a := by
  constructor
  · rintro ⟨s, h, h'⟩
    rcases List.mem_append.mp h with h | h
    · exact .inl ⟨s, h, h'⟩
    · exact .inr ⟨s, h, h'⟩
  · rintro (⟨s, h, h'⟩ | ⟨s, h, h'⟩)
    · exact ⟨s, List.mem_append.mpr (.inl h), h'⟩
    · exact ⟨s, List.mem_append.mpr (.inr h), h'⟩
theorem cov_perm {l m : List Rg} (h : l.Perm m) {a : Int} : Cov l a ↔ Cov m a :=
  ⟨fun ⟨s, e, h'⟩ => ⟨s, h.mem_iff.mp e, h'⟩, fun ⟨s, e, h'⟩ => ⟨s, h.mem_iff.mpr e, h'⟩⟩
theorem May.low {b : Int} {l : List Rg} (h : May b l) {a : Int} (c : Cov l a) : b ≤ a := by
  induction l generalizing b with
  | nil => exact absurd c cov_nil
  | cons r l ih =>
    obtain ⟨h1, h2, h3⟩ := h
    rcases cov_cons.mp c with c | c
    · omega
    · have := ih h3 c; omega
theorem May.weak {b c : Int} {l : List Rg} (h : May b l) (e : c ≤ b) : May c l := by
  cases l with
  | nil => trivial
  | cons r l => exact ⟨by have := h.1; omega, h.2⟩
theorem may_one {b c : Int} {l m : List Rg} (hl : May b l) (hm : May c m) (h : ∀ a, Cov l a ↔ Cov m a) : l = m := by
  induction l generalizing b c m with
  | nil =>
    cases m with
    | nil => rfl
    | cons s m => exact absurd ((h s.1).mpr (cov_cons.mpr (.inl ⟨Int.le_refl _, hm.2.1⟩))) cov_nil
  | cons r l ih =>
    cases m with
    | nil => exact absurd ((h r.1).mp (cov_cons.mpr (.inl ⟨Int.le_refl _, hl.2.1⟩))) cov_nil
    | cons s m =>
      obtain ⟨l1, l2, l3⟩ := hl
      obtain ⟨m1, m2, m3⟩ := hm
      have lr : ∀ a, Cov (r :: l) a → r.1 ≤ a := fun a c => May.low (b := r.1) (l := r :: l) ⟨Int.le_refl _, l2, l3⟩ c
      have ms : ∀ a, Cov (s :: m) a → s.1 ≤ a := fun a c => May.low (b := s.1) (l := s :: m) ⟨Int.le_refl _, m2, m3⟩ c
      have e1 : r.1 = s.1 := by
        have x1 := ms r.1 ((h r.1).mp (cov_cons.mpr (.inl ⟨Int.le_refl _, l2⟩)))
        have x2 := lr s.1 ((h s.1).mpr (cov_cons.mpr (.inl ⟨Int.le_refl _, m2⟩)))
        omega
      have e2 : r.2 = s.2 := by
        rcases Int.lt_trichotomy r.2 s.2 with k | k | k
        · exfalso
          rcases cov_cons.mp ((h (r.2 + 1)).mpr (cov_cons.mpr (.inl ⟨by omega, by omega⟩))) with c | c
          · omega
          · have := l3.low c; omega
        · exact k
        · exfalso
          rcases cov_cons.mp ((h (s.2 + 1)).mp (cov_cons.mpr (.inl ⟨by omega, by omega⟩))) with c | c
          · omega
          · have := m3.low c; omega
      have e : r = s := Prod.ext e1 e2
      have e' : l = m := by
        refine ih l3 m3 fun a => ⟨fun c => ?_, fun c => ?_⟩
        · have := l3.low c
          rcases cov_cons.mp ((h a).mp (cov_cons.mpr (.inr c))) with d | d
          · omega
          · exact d
        · have := m3.low c
          rcases cov_cons.mp ((h a).mpr (cov_cons.mpr (.inr c))) with d | d
          · omega
          · exact d
      rw [e, e']
/- what is joined, of sorted ranges -/
def joinG : Rg → List Rg → List Rg
  | y, [] => [y]
  | y, x :: l => if y.2 + 1 < x.1 then y :: joinG x l else joinG (y.1, max y.2 x.2) l
def mays (l : List Rg) : List Rg := l.filter fun r => decide (r.1 ≤ r.2)
def Asc (l : List Rg) : Prop := l.Pairwise fun a b => a.1 ≤ b.1
theorem joinG_ok (l : List Rg) : ∀ (y : Rg), y.1 ≤ y.2 → (∀ x ∈ l, y.1 ≤ x.1 ∧ x.1 ≤ x.2) → Asc l → May y.1 (joinG y l) ∧ ∀ a, Cov (joinG y l) a ↔ Cov (y :: l) a := by
  induction l with
  | nil => intro y hy _ _; exact ⟨⟨Int.le_refl _, hy, trivial⟩, fun a => Iff.rfl⟩
  | cons x l ih =>
    intro y hy hm ha
    have hx := hm x (.head _)
    have ha' := List.pairwise_cons.mp ha
    unfold joinG
    split
    · next c =>
      obtain ⟨i1, i2⟩ := ih x hx.2 (fun z hz => ⟨ha'.1 z hz, (hm z (.tail _ hz)).2⟩) ha'.2
      exact ⟨⟨Int.le_refl _, hy, i1.weak (by omega)⟩, fun a => by rw [cov_cons, i2, cov_cons (r := y)]⟩
    · next c =>
      obtain ⟨i1, i2⟩ := ih (y.1, max y.2 x.2) (by simp only; omega) (fun z hz => hm z (.tail _ hz)) ha'.2
      refine ⟨i1, fun a => ?_⟩
      rw [i2, cov_cons, cov_cons, cov_cons]
      simp only
      constructor
      · rintro (k | k)
        · rcases Int.lt_or_le y.2 a with q | q
          · exact .inr (.inl ⟨by omega, by omega⟩)
          · exact .inl ⟨k.1, q⟩
        · exact .inr (.inr k)
      · rintro (k | k | k)
        · exact .inl ⟨k.1, by omega⟩
        · exact .inl ⟨by omega, by omega⟩
        · exact .inr k
def joins : List Rg → List Rg
  | [] => []
  | y :: l => joinG y l
theorem cov_mays {l : List Rg} {a : Int} : Cov (mays l) a ↔ Cov l a := by
  constructor
  · rintro ⟨s, h, h'⟩; exact ⟨s, (List.mem_filter.mp h).1, h'⟩
  · rintro ⟨s, h, h'⟩; exact ⟨s, List.mem_filter.mpr ⟨h, decide_eq_true (by omega)⟩, h'⟩
/-- of ranges that are sorted, what is joined may be, and has the same addresses -/
theorem joins_ok {l : List Rg} (h : Asc l) (b : Int) (hb : ∀ x ∈ l, b ≤ x.1) : May b (joins (mays l)) ∧ ∀ a, Cov (joins (mays l)) a ↔ Cov l a := by
  have hs : Asc (mays l) := h.sublist List.filter_sublist
  have hm : ∀ x ∈ mays l, x.1 ≤ x.2 := fun x hx => of_decide_eq_true (List.mem_filter.mp hx).2
  have hb' : ∀ x ∈ mays l, b ≤ x.1 := fun x hx => hb x (List.mem_filter.mp hx).1
  suffices k : May b (joins (mays l)) ∧ ∀ a, Cov (joins (mays l)) a ↔ Cov (mays l) a from ⟨k.1, fun a => (k.2 a).trans cov_mays⟩
  generalize mays l = m at hs hm hb'
  cases m with
  | nil => exact ⟨trivial, fun a => Iff.rfl⟩
  | cons y m =>
    have := List.pairwise_cons.mp hs
    obtain ⟨i1, i2⟩ := joinG_ok m y (hm y (.head _)) (fun z hz => ⟨this.1 z hz, hm z (.tail _ hz)⟩) this.2
    exact ⟨i1.weak (hb' y (.head _)), i2⟩
/- a range put into a row that may be -/
/- a range taken away -/
def cutX (r x : Rg) : List Rg := (if x.1 < r.1 then [(x.1, min x.2 (r.1 - 1))] else []) ++ (if r.2 < x.2 then [(max x.1 (r.2 + 1), x.2)] else [])
def cutG (r : Rg) (l : List Rg) : List Rg := l.flatMap (cutX r)
theorem cutG_ok {r : Rg} (hr : r.1 ≤ r.2) (l : List Rg) : ∀ b, May b l → May b (cutG r l) ∧ ∀ a, Cov (cutG r l) a ↔ Cov l a ∧ ¬ (r.1 ≤ a ∧ a ≤ r.2) := by
  induction l with
  | nil => intro b h; exact ⟨trivial, fun a => ⟨fun k => absurd k cov_nil, fun k => absurd k.1 cov_nil⟩⟩
  | cons x l ih =>
    intro b h
    obtain ⟨l1, l2, l3⟩ := h
    obtain ⟨i1, i2⟩ := ih _ l3
    unfold cutG at i1 i2 ⊢
    rw [List.flatMap_cons]
    refine ⟨?_, fun a => ?_⟩
    · unfold cutX
      split <;> split <;> simp only [List.nil_append, List.cons_append, May]
      · exact ⟨l1, by omega, by omega, by omega, i1⟩
      · exact ⟨l1, by omega, i1.weak (by omega)⟩
      · exact ⟨by omega, by omega, i1⟩
      · exact i1.weak (by omega)
    · rw [cov_app, i2, cov_cons (r := x)]
      have : Cov (cutX r x) a ↔ (x.1 ≤ a ∧ a ≤ x.2) ∧ ¬ (r.1 ≤ a ∧ a ≤ r.2) := by
        unfold cutX
        rw [cov_app]
        constructor
        · rintro (k | k)
          · split at k
            · rcases cov_cons.mp k with k | k
              · simp only at k; omega
              · exact absurd k cov_nil
            · exact absurd k cov_nil
          · split at k
            · rcases cov_cons.mp k with k | k
              · simp only at k; omega
              · exact absurd k cov_nil
            · exact absurd k cov_nil
        · rintro ⟨k, q⟩
          by_cases w : a < r.1
          · refine .inl ?_
            rw [if_pos (by omega)]
            exact cov_cons.mpr (.inl ⟨k.1, by simp only; omega⟩)
          · refine .inr ?_
            rw [if_pos (by omega)]
            exact cov_cons.mpr (.inl ⟨by simp only; omega, k.2⟩)
      rw [this]
      constructor
      · rintro (k | k)
        · exact ⟨.inl k.1, k.2⟩
        · exact ⟨.inr k.1, k.2⟩
      · rintro ⟨k | k, q⟩
        · exact .inl ⟨k, q⟩
        · exact .inr ⟨k, q⟩
end Go.Eng.RS
end
section
/- What is said of rows of ranges, of any sort of them. No program here. -/
namespace Go.Eng.RS
def Nn (l : List Rg) : Prop := ∀ x ∈ l, 0 ≤ x.1
structure Sorts (srt : List Rg → List Rg) : Prop where
  perm : ∀ l, (srt l).Perm l
  asc : ∀ l, Asc (srt l)
def normG (srt : List Rg → List Rg) (l : List Rg) : List Rg := joins (mays (srt l))
variable {srt : List Rg → List Rg} (hs : Sorts srt)
include hs
theorem norm_may {l : List Rg} (h : Nn l) : May 0 (normG srt l) := (joins_ok (hs.asc l) 0 fun x hx => h x ((hs.perm l).mem_iff.mp hx)).1
theorem norm_cov (l : List Rg) (a : Int) : Cov (normG srt l) a ↔ Cov l a := by
  obtain ⟨b, hb⟩ : ∃ b : Int, ∀ x ∈ srt l, b ≤ x.1 := by
    generalize srt l = m
    induction m with
    | nil => exact ⟨0, fun x h => by cases h⟩
    | cons y m ih =>
      obtain ⟨b, hb⟩ := ih
      refine ⟨min b y.1, fun x h => ?_⟩
      cases h with
      | head => omega
      | tail _ h => have := hb x h; omega
  exact ((joins_ok (hs.asc l) b hb).2 a).trans (cov_perm (hs.perm l))
theorem norm_is {l m : List Rg} (hl : Nn l) {b : Int} (hm : May b m) (h : ∀ a, Cov m a ↔ Cov l a) : normG srt l = m :=
  may_one (norm_may hs hl) hm fun a => (norm_cov hs l a).trans (h a).symm
theorem norm_eq {l m : List Rg} (hl : Nn l) (hm : Nn m) : normG srt l = normG srt m ↔ ∀ a, Cov l a ↔ Cov m a :=
  ⟨fun h a => by rw [← norm_cov hs l a, h, norm_cov hs m a], fun h => norm_is hs hl (norm_may hs hm) fun a => (norm_cov hs m a).trans (h a).symm⟩
omit hs in
theorem may_nn {b : Int} {l : List Rg} (h : May b l) (hb : 0 ≤ b) : Nn l := by
  induction l generalizing b with
  | nil => intro x h; cases h
  | cons r l ih =>
    intro x hx
    cases hx with
    | head => have := h.1; omega
    | tail _ hx => exact ih h.2.2 (by have := h.1; have := h.2.1; omega) x hx
omit hs in
theorem Nn.app {l m : List Rg} (hl : Nn l) (hm : Nn m) : Nn (l ++ m) := fun x hx => (List.mem_append.mp hx).elim (hl x) (hm x)
theorem norm_self {l : List Rg} (h : May 0 l) : normG srt l = l := norm_is hs (may_nn h (Int.le_refl _)) h fun _ => Iff.rfl
def subG (srt : List Rg → List Rg) (l : List Rg) (r : Rg) : List Rg := if r.1 ≤ r.2 then cutG r (normG srt l) else normG srt l
theorem sub_may {l : List Rg} {r : Rg} (h : Nn l) : May 0 (subG srt l r) := by
  unfold subG
  split
  · next c => exact (cutG_ok c _ 0 (norm_may hs h)).1
  · exact norm_may hs h
theorem sub_cov {l : List Rg} {r : Rg} (h : Nn l) (a : Int) : Cov (subG srt l r) a ↔ Cov l a ∧ ¬ (r.1 ≤ a ∧ a ≤ r.2) := by
  unfold subG
  split
  · next c => rw [(cutG_ok c _ 0 (norm_may hs h)).2, norm_cov hs]
  · next c => rw [norm_cov hs]; exact ⟨fun k => ⟨k, fun q => c (Int.le_trans q.1 q.2)⟩, fun k => k.1⟩
omit hs in
def Meet (l : List Rg) (r : Rg) : Prop := ∃ a, Cov l a ∧ r.1 ≤ a ∧ a ≤ r.2
omit hs in
theorem meet_iff {l : List Rg} {r : Rg} : Meet l r ↔ r.1 ≤ r.2 ∧ ∃ x ∈ l, x.1 ≤ x.2 ∧ x.1 ≤ r.2 ∧ r.1 ≤ x.2 := by
  constructor
  · rintro ⟨a, ⟨x, hx, h1⟩, h2⟩
    exact ⟨by omega, x, hx, by omega, by omega, by omega⟩
  · rintro ⟨h, x, hx, h1, h2, h3⟩
    exact ⟨max x.1 r.1, ⟨x, hx, by omega⟩, by omega⟩
/-- DirtBack, where the range may be -/
theorem back_add {l : List Rg} {r : Rg} (h : Nn l) (hr : 0 ≤ r.1) : normG srt (subG srt l r ++ [r]) = normG srt (l ++ [r]) := by
  have hr1 : Nn [r] := fun x hx => by rw [List.mem_singleton.mp hx]; exact hr
  refine (norm_eq hs ((may_nn (sub_may hs h) (Int.le_refl _)).app hr1) (h.app hr1)).mpr fun a => ?_
  rw [cov_app, cov_app, sub_cov hs h, cov_cons]
  constructor
  · rintro (k | k)
    · exact .inl k.1
    · exact .inr k
  · rintro (k | k)
    · by_cases q : r.1 ≤ a ∧ a ≤ r.2
      · exact .inr (.inl q)
      · exact .inl ⟨k, q⟩
    · exact .inr k
theorem back_meet {l : List Rg} {r : Rg} (h : Nn l) : Meet l r ↔ subG srt l r ≠ normG srt l := by
  constructor
  · rintro ⟨a, h1, h2⟩ e
    have := (sub_cov hs (r := r) h a).mp (by rw [e]; exact (norm_cov hs l a).mpr h1)
    exact this.2 h2
  · intro e
    refine Classical.byContradiction fun k => e ?_
    refine (norm_is hs h (sub_may hs h) fun a => ?_).symm
    rw [sub_cov hs h]
    exact ⟨fun q => q.1, fun q => ⟨q, fun q' => k ⟨a, q, q'⟩⟩⟩
theorem back_off {l : List Rg} {r : Rg} (h : Nn l) : ¬ Meet (subG srt l r) r := fun ⟨a, h1, h2⟩ => ((sub_cov hs h a).mp h1).2 h2
theorem back_in {l : List Rg} {r : Rg} (h : Nn l) : normG srt (subG srt l r ++ l) = normG srt l := by
  refine (norm_eq hs ((may_nn (sub_may hs h) (Int.le_refl _)).app h) h).mpr fun a => ?_
  rw [cov_app, sub_cov hs h]
  exact ⟨fun k => k.elim (·.1) id, .inr⟩
end Go.Eng.RS
end
section
/- What Norm, Add make: joins of the sorted. -/
namespace Go.Eng.RT
open Go.Eng.RS
open Go.Eng
set_option maxRecDepth 100000
set_option linter.unusedSectionVars false
set_option linter.unusedSimpArgs false
noncomputable section
theorem one_more (i : Nat) (h : i ≤ 1000000) : iadd .i64 ((i : Nat) : Int) 1 = ((i + 1 : Nat) : Int) := by rw [iadd_i64 (by omega) (by omega)]; omega
theorem lt_yes {i n : Nat} (h : i < n) : ilt (i : Int) (n : Int) = true := by rw [ilt_iff]; omega
theorem lt_no {i n : Nat} (h : n ≤ i) : ilt (i : Int) (n : Int) = false := by rw [ilt_no]; omega
def R64 (r : Rg) : Prop := (0 ≤ r.1 ∧ r.1 < 18446744073709551616) ∧ (0 ≤ r.2 ∧ r.2 < 18446744073709551616)
theorem isub_u64 {a b : Int} (h1 : 0 ≤ a - b) (h2 : a - b < 18446744073709551616) : isub .u64 a b = a - b := by
  unfold isub IntKind.wrap
  simp only [IntKind.bits, IntKind.signed]
  simp
  omega
theorem iadd_u64 {a b : Int} (h1 : 0 ≤ a + b) (h2 : a + b < 18446744073709551616) : iadd .u64 a b = a + b := by
  unfold iadd IntKind.wrap
  simp only [IntKind.bits, IntKind.signed]
  simp
  omega
theorem imax_eq (a b : Int) : imax a b = max a b := by unfold imax; split <;> omega
theorem imin_eq (a b : Int) : imin a b = min a b := by unfold imin; split <;> omega
theorem touch_ok {y x : Rg} (hy : R64 y) (hx : R64 x) : pre29 (y, x) ∧ fn29 (y, x) = if y.2 + 1 < x.1 then (y, false) else ((y.1, max y.2 x.2), true) := by
  obtain ⟨⟨a1, a2⟩, a3, a4⟩ := hy
  obtain ⟨⟨b1, b2⟩, b3, b4⟩ := hx
  unfold pre29 fn29 tree29
  simp only [ok_ite, ok_ret, val_ite, val_ret, imax_eq]
  refine ⟨by simp, ?_⟩
  by_cases h : y.2 < x.1
  · rw [show ilt y.2 x.1 = true from ilt_iff.mpr h, isub_u64 (by omega) (by omega)]
    by_cases h' : y.2 + 1 < x.1
    · rw [if_pos h', show ilt 1 (x.1 - y.2) = true from ilt_iff.mpr (by omega)]; rfl
    · rw [if_neg h', show ilt 1 (x.1 - y.2) = false from ilt_no.mpr (by omega)]; rfl
  · rw [if_neg (by omega), show ilt y.2 x.1 = false from ilt_no.mpr (by omega)]; rfl
theorem mays_cons (r : Rg) (l : List Rg) : mays (r :: l) = if r.1 ≤ r.2 then r :: mays l else mays l := by
  unfold mays
  rw [List.filter_cons]
  by_cases h : r.1 ≤ r.2
  · rw [if_pos h, if_pos (by simpa using h)]
  · rw [if_neg h, if_neg (by simpa using h)]
theorem R64.touch {y x : Rg} (hy : R64 y) (hx : R64 x) : R64 (y.1, max y.2 x.2) := ⟨hy.1, by have := hy.2; have := hx.2; simp only; omega, by have := hy.2; have := hx.2; simp only; omega⟩
theorem set_last (init : List Rg) (y z : Rg) : (init ++ [y]).set init.length z = init ++ [z] := by
  rw [List.set_append_right _ _ (Nat.le_refl _)]; simp
theorem last_at (init : List Rg) (y : Rg) : rdc CRange (init ++ [y]) init.length = y := by
  rw [rdc_at (c := CRange) (xs := init ++ [y]) (by simp)]; simp

section
variable (x : List Rg) {s row : List Rg} {cap v2 : Nat} (hl : s.length ≤ 1000) (hs : ∀ r ∈ s, R64 r) (hrow : ∀ i (h : i < s.length), i < cap ∧ rdc CRange row i = s[i])
include hl hs hrow
theorem n9_h5 : ∀ (m i : Nat), i + m = s.length → ∀ (init : List Rg) (y : Rg), R64 y → init.length < i →
    Ends (step9 x) (init ++ joinG y (mays (s.drop i))) (step9 x (.h5 s.length v2 s.length i cap row (init.length + 1) (init.length + 1) (init ++ [y]))) := by
  intro m
  induction m with
  | zero =>
    intro i hi init y hy hlen
    have : i = s.length := by omega
    subst this
    simp only [step9]
    simp only [lt_no (Nat.le_refl _), ends_ite, ends_need, ends_ret]
    refine ⟨(fun h => by cases h), fun _ => ⟨by omega, ?_⟩⟩
    rw [List.drop_length, List.take_of_length_le (by simp)]; rfl
  | succ m ih =>
    intro i hi init y hy hlen
    have hi' : i < s.length := by omega
    obtain ⟨hc, hr⟩ := hrow i hi'
    have hx := hs s[i] (List.getElem_mem hi')
    obtain ⟨t1, t2⟩ := touch_ok hy hx
    have e1 : isub .i64 ((init.length + 1 : Nat) : Int) 1 = (init.length : Int) := by rw [isub_i64 (by omega) (by omega)]; omega
    have e2 : ile 0 (init.length : Int) = true := by rw [ile_iff]; omega
    simp only [step9]
    simp only [lt_yes hi', ends_ite, ends_need, ends_jump, Int.toNat_natCast, Nat.zero_add, hr, e1, e2, last_at, t2, one_more i (by omega)]
    rw [List.drop_eq_getElem_cons hi', mays_cons]
    refine ⟨fun _ => ⟨by omega, by omega, hc, fun h => ?_, fun h => ?_⟩, (fun h => by cases h)⟩
    · have h' : s[i].1 ≤ s[i].2 := by
        cases h2 : ile s[i].1 s[i].2 with
        | true => exact ile_iff.mp h2
        | false => rw [h2] at h; cases h
      rw [if_pos h']
      refine ⟨fun _ => ⟨by omega, by omega, by omega, t1, fun q => ?_, fun q => ?_⟩, (fun h => by cases h)⟩
      · by_cases k : y.2 + 1 < s[i].1
        · rw [if_pos k] at q; cases q
        · refine ⟨by omega, by omega, by omega, ?_⟩
          rw [if_neg k, set_last, joinG, if_neg k]
          exact ih (i + 1) (by omega) init _ (hy.touch hx) (by omega)
      · by_cases k : y.2 + 1 < s[i].1
        · refine ⟨by omega, by omega, by omega, by omega, by omega, ?_⟩
          rw [joinG, if_pos k]
          have := ih (i + 1) (by omega) (init ++ [y]) s[i] hx (by rw [List.length_append]; simp; omega)
          rw [List.length_append, List.append_assoc] at this
          exact this
        · rw [if_neg k] at q; cases q
    · have h' : ¬ s[i].1 ≤ s[i].2 := by
        cases h2 : ile s[i].1 s[i].2 with
        | true => rw [h2] at h; cases h
        | false => have := ile_no.mp h2; omega
      rw [if_neg h']
      exact ih (i + 1) (by omega) init y hy (by omega)
theorem n9_h3 : ∀ (m i : Nat), i + m = s.length → Ends (step9 x) (joins (mays (s.drop i))) (step9 x (.h3 s.length v2 s.length i cap row)) := by
  intro m
  induction m with
  | zero =>
    intro i hi
    have : i = s.length := by omega
    subst this
    simp only [step9]
    simp only [lt_no (Nat.le_refl _), ends_ite, ends_need, ends_ret]
    refine ⟨(fun h => by cases h), fun _ => ?_⟩
    rw [List.drop_length]; rfl
  | succ m ih =>
    intro i hi
    have hi' : i < s.length := by omega
    obtain ⟨hc, hr⟩ := hrow i hi'
    have hx := hs s[i] (List.getElem_mem hi')
    simp only [step9]
    simp only [lt_yes hi', ends_ite, ends_need, ends_jump, Int.toNat_natCast, Nat.zero_add, hr, one_more i (by omega)]
    rw [List.drop_eq_getElem_cons hi', mays_cons]
    refine ⟨fun _ => ⟨by omega, by omega, hc, fun h => ⟨by omega, by omega, by omega, by omega, ?_⟩, fun h => ?_⟩, (fun h => by cases h)⟩
    · have h' : s[i].1 ≤ s[i].2 := by
        cases h2 : ile s[i].1 s[i].2 with
        | true => exact ile_iff.mp h2
        | false => rw [h2] at h; cases h
      rw [if_pos h']
      exact n9_h5 x hl hs hrow m (i + 1) (by omega) [] s[i] hx (by simp)
    · have h' : ¬ s[i].1 ≤ s[i].2 := by
        cases h2 : ile s[i].1 s[i].2 with
        | true => rw [h2] at h; cases h
        | false => have := ile_no.mp h2; omega
      rw [if_neg h']
      exact ih (i + 1) (by omega)
end

section
variable (x : List Rg × List Rg) {s row : List Rg} {cap v2 : Nat} (hl : s.length ≤ 1000) (hs : ∀ r ∈ s, R64 r) (hrow : ∀ i (h : i < s.length), i < cap ∧ rdc CRange row i = s[i])
include hl hs hrow
theorem n10_h5 : ∀ (m i : Nat), i + m = s.length → ∀ (init : List Rg) (y : Rg), R64 y → init.length < i →
    Ends (step10 x) (init ++ joinG y (mays (s.drop i))) (step10 x (.h5 s.length v2 s.length i cap row (init.length + 1) (init.length + 1) (init ++ [y]))) := by
  intro m
  induction m with
  | zero =>
    intro i hi init y hy hlen
    have : i = s.length := by omega
    subst this
    simp only [step10]
    simp only [lt_no (Nat.le_refl _), ends_ite, ends_need, ends_ret]
    refine ⟨(fun h => by cases h), fun _ => ⟨by omega, ?_⟩⟩
    rw [List.drop_length, List.take_of_length_le (by simp)]; rfl
  | succ m ih =>
    intro i hi init y hy hlen
    have hi' : i < s.length := by omega
    obtain ⟨hc, hr⟩ := hrow i hi'
    have hx := hs s[i] (List.getElem_mem hi')
    obtain ⟨t1, t2⟩ := touch_ok hy hx
    have e1 : isub .i64 ((init.length + 1 : Nat) : Int) 1 = (init.length : Int) := by rw [isub_i64 (by omega) (by omega)]; omega
    have e2 : ile 0 (init.length : Int) = true := by rw [ile_iff]; omega
    simp only [step10]
    simp only [lt_yes hi', ends_ite, ends_need, ends_jump, Int.toNat_natCast, Nat.zero_add, hr, e1, e2, last_at, t2, one_more i (by omega)]
    rw [List.drop_eq_getElem_cons hi', mays_cons]
    refine ⟨fun _ => ⟨by omega, by omega, hc, fun h => ?_, fun h => ?_⟩, (fun h => by cases h)⟩
    · have h' : s[i].1 ≤ s[i].2 := by
        cases h2 : ile s[i].1 s[i].2 with
        | true => exact ile_iff.mp h2
        | false => rw [h2] at h; cases h
      rw [if_pos h']
      refine ⟨fun _ => ⟨by omega, by omega, by omega, t1, fun q => ?_, fun q => ?_⟩, (fun h => by cases h)⟩
      · by_cases k : y.2 + 1 < s[i].1
        · rw [if_pos k] at q; cases q
        · refine ⟨by omega, by omega, by omega, ?_⟩
          rw [if_neg k, set_last, joinG, if_neg k]
          exact ih (i + 1) (by omega) init _ (hy.touch hx) (by omega)
      · by_cases k : y.2 + 1 < s[i].1
        · refine ⟨by omega, by omega, by omega, by omega, by omega, ?_⟩
          rw [joinG, if_pos k]
          have := ih (i + 1) (by omega) (init ++ [y]) s[i] hx (by rw [List.length_append]; simp; omega)
          rw [List.length_append, List.append_assoc] at this
          exact this
        · rw [if_neg k] at q; cases q
    · have h' : ¬ s[i].1 ≤ s[i].2 := by
        cases h2 : ile s[i].1 s[i].2 with
        | true => rw [h2] at h; cases h
        | false => have := ile_no.mp h2; omega
      rw [if_neg h']
      exact ih (i + 1) (by omega) init y hy (by omega)
theorem n10_h3 : ∀ (m i : Nat), i + m = s.length → Ends (step10 x) (joins (mays (s.drop i))) (step10 x (.h3 s.length v2 s.length i cap row)) := by
  intro m
  induction m with
  | zero =>
    intro i hi
    have : i = s.length := by omega
    subst this
    simp only [step10]
    simp only [lt_no (Nat.le_refl _), ends_ite, ends_need, ends_ret]
    refine ⟨(fun h => by cases h), fun _ => ?_⟩
    rw [List.drop_length]; rfl
  | succ m ih =>
    intro i hi
    have hi' : i < s.length := by omega
    obtain ⟨hc, hr⟩ := hrow i hi'
    have hx := hs s[i] (List.getElem_mem hi')
    simp only [step10]
    simp only [lt_yes hi', ends_ite, ends_need, ends_jump, Int.toNat_natCast, Nat.zero_add, hr, one_more i (by omega)]
    rw [List.drop_eq_getElem_cons hi', mays_cons]
    refine ⟨fun _ => ⟨by omega, by omega, hc, fun h => ⟨by omega, by omega, by omega, by omega, ?_⟩, fun h => ?_⟩, (fun h => by cases h)⟩
    · have h' : s[i].1 ≤ s[i].2 := by
        cases h2 : ile s[i].1 s[i].2 with
        | true => exact ile_iff.mp h2
        | false => rw [h2] at h; cases h
      rw [if_pos h']
      exact n10_h5 x hl hs hrow m (i + 1) (by omega) [] s[i] hx (by simp)
    · have h' : ¬ s[i].1 ≤ s[i].2 := by
        cases h2 : ile s[i].1 s[i].2 with
        | true => rw [h2] at h; cases h
        | false => have := ile_no.mp h2; omega
      rw [if_neg h']
      exact ih (i + 1) (by omega)
end
end
end Go.Eng.RT
end
section
/- Norm, Add: the rows put behind each other, sorted, joined. -/
namespace Go.Eng.RT
open Go.Eng.RS
open Go.Eng
set_option maxRecDepth 100000
set_option linter.unusedSectionVars false
set_option linter.unusedSimpArgs false
noncomputable section
theorem srt_is : Sorts srt := ⟨fun l => (srt_sorts l).1, fun l => (srt_sorts l).2⟩
abbrev normS (l : List Rg) : List Rg := normG srt l
theorem srt_len (l : List Rg) : (srt l).length = l.length := (srt_sorts l).1.length_eq
theorem srt_64 {l : List Rg} (h : ∀ r ∈ l, R64 r) : ∀ r ∈ srt l, R64 r := fun r hr => h r ((srt_sorts l).1.mem_iff.mp hr)
def lens (p : List (List Rg)) (i : Nat) : Nat := (p.take i).flatten.length
theorem flat_succ {p : List (List Rg)} {i : Nat} (h : i < p.length) : (p.take (i + 1)).flatten = (p.take i).flatten ++ p[i] := by
  rw [List.take_succ_eq_append_getElem h, List.flatten_append]; simp
theorem lens_succ {p : List (List Rg)} {i : Nat} (h : i < p.length) : lens p (i + 1) = lens p i + p[i].length := by
  unfold lens; rw [flat_succ h, List.length_append]
theorem lens_le (p : List (List Rg)) (i : Nat) : lens p i ≤ p.flatten.length := by
  unfold lens
  have : p.flatten = (p.take i).flatten ++ (p.drop i).flatten := by rw [← List.flatten_append, List.take_append_drop]
  rw [this, List.length_append]; omega
theorem lens_all (p : List (List Rg)) : lens p p.length = p.flatten.length := by unfold lens; rw [List.take_length]
theorem row_of {s row : List Rg} {cap : Nat} (h : row.length = cap) (hc : s.length ≤ cap) : ∀ i (hi : i < s.length), i < cap ∧ rdc CRange (spliceL row 0 s) i = s[i] := by
  intro i hi
  refine ⟨by omega, ?_⟩
  unfold spliceL
  rw [List.take_zero, List.nil_append, rdc_at (c := CRange) (by rw [List.length_append]; omega), List.getElem_append_left hi]

section
variable (x : List Rg) {p : List (List Rg)} (hp : p.length = 1) (hl : p.flatten.length ≤ 1000) (hs : ∀ r ∈ p.flatten, R64 r)
include hp hl hs
theorem n9_h1 : ∀ (m i : Nat), i + m = 1 → ∀ (cap : Nat) (row : List Rg), row.length = cap → p.flatten.length ≤ cap → row.take (lens p i) = (p.take i).flatten →
    Ends (step9 x) (normS p.flatten) (step9 x (.h1 (lens p i) cap i p cap row)) := by
  intro m
  induction m with
  | zero =>
    intro i hi cap row hr hc ht
    have : i = p.length := by omega
    subst this
    have e : ilt ((p.length : Nat) : Int) 1 = false := by rw [ilt_no]; omega
    have key := n9_h3 x (s := srt p.flatten) (row := spliceL row 0 (srt p.flatten)) (cap := cap) (v2 := cap) (by rw [srt_len]; exact hl) (srt_64 hs) (row_of hr (by rw [srt_len]; exact hc)) p.flatten.length 0 (by rw [srt_len]; omega)
    rw [srt_len, List.drop_zero] at key
    rw [List.take_length, lens_all] at ht
    simp only [step9]
    simp only [e, ends_ite, ends_need, ends_jump, lens_all, ht]
    exact ⟨(fun h => by cases h), fun _ => ⟨by omega, by omega, key⟩⟩
  | succ m ih =>
    intro i hi cap row hr hc ht
    have hi' : i < p.length := by omega
    have hrd : rdc (.slice CRange) p i = p[i] := rdc_at (c := .slice CRange) hi'
    have h1 := lens_succ hi'
    have h2 := lens_le p (i + 1)
    have e : ilt ((i : Nat) : Int) 1 = true := by rw [ilt_iff]; omega
    simp only [step9]
    simp only [e, ends_ite, ends_need, ends_all, ends_jump, Int.toNat_natCast, Nat.zero_add, hrd]
    refine ⟨fun _ => ⟨by omega, by omega, by omega, fun h => ?_, fun h => ⟨by omega, ?_⟩⟩, (fun h => by cases h)⟩
    · rw [ilt_iff] at h; omega
    · rw [one_more i (by omega), ← h1]
      refine ih (i + 1) (by omega) cap _ ?_ hc ?_
      · unfold spliceL
        simp only [List.length_append, List.length_take, List.length_drop]
        omega
      · unfold spliceL
        rw [flat_succ hi', ← ht, h1, ← List.append_assoc, List.take_append_of_le_length (by simp only [List.length_append, List.length_take]; omega)]
        rw [List.take_of_length_le (by simp only [List.length_append, List.length_take]; omega)]
theorem n9_h2 (h0 : p.flatten = []) : ∀ (m i : Nat), i + m = 1 → Ends (step9 x) [] (step9 x (.h2 i p)) := by
  intro m
  induction m with
  | zero =>
    intro i hi
    have : i = p.length := by omega
    subst this
    have e : ilt ((p.length : Nat) : Int) 1 = false := by rw [ilt_no]; omega
    simp only [step9]
    simp only [e, ends_ite, ends_jump]
    refine ⟨(fun h => by cases h), fun _ => ?_⟩
    simp only [step9, ends_ret]
  | succ m ih =>
    intro i hi
    have hi' : i < p.length := by omega
    have hrd : rdc (.slice CRange) p i = p[i] := rdc_at (c := .slice CRange) hi'
    have hz : p[i] = [] := List.flatten_eq_nil_iff.mp h0 _ (List.getElem_mem hi')
    have e : ilt ((i : Nat) : Int) 1 = true := by rw [ilt_iff]; omega
    have e2 : ieq (([] : List Rg).length : Int) 0 = true := rfl
    simp only [step9]
    simp only [e, ends_ite, ends_need, ends_all, ends_jump, Int.toNat_natCast, Nat.zero_add, hrd, hz, e2]
    refine ⟨fun _ => ⟨by omega, by omega, by omega, fun _ => ?_, (fun h => by cases h)⟩, (fun h => by cases h)⟩
    rw [one_more i (by omega)]
    exact ih (i + 1) (by omega)
theorem n9_h0 : ∀ (m i : Nat), i + m = 1 → Ends (step9 x) (normS p.flatten) (step9 x (.h0 (lens p i) i p)) := by
  intro m
  induction m with
  | zero =>
    intro i hi
    have : i = p.length := by omega
    subst this
    have e : ilt ((p.length : Nat) : Int) 1 = false := by rw [ilt_no]; omega
    have e2 : ilt ((p.flatten.length : Nat) : Int) 0 = false := by rw [ilt_no]; omega
    have e3 : isub .i64 ((p.flatten.length : Nat) : Int) 0 = ((p.flatten.length : Nat) : Int) := by rw [isub_i64 (by omega) (by omega)]; omega
    simp only [step9]
    simp only [e, e2, e3, ends_ite, ends_need, ends_all, ends_jump, lens_all, Int.toNat_natCast]
    refine ⟨(fun h => by cases h), fun _ => ⟨(fun h => by cases h), fun _ => ⟨fun h => ?_, fun h => ?_⟩⟩⟩
    · rw [ilt_iff] at h
      refine ⟨trivial, trivial, by omega, by omega, by omega, fun j => ⟨by omega, by omega, by omega, by omega, ?_⟩⟩
      exact n9_h1 x hp hl hs 1 0 (by omega) (p.flatten.length + j) _ (by simp) (by omega) rfl
    · rw [ilt_no] at h
      have h0 : p.flatten = [] := List.length_eq_zero_iff.mp (by omega)
      have := n9_h2 x hp hl hs h0 1 0 (by omega)
      rw [h0]
      have e4 : normS [] = [] := by
        unfold normS normG
        rw [List.length_eq_zero_iff.mp (srt_len []) ]; rfl
      rw [e4]
      exact this
  | succ m ih =>
    intro i hi
    have hi' : i < p.length := by omega
    have hrd : rdc (.slice CRange) p i = p[i] := rdc_at (c := .slice CRange) hi'
    have h1 := lens_succ hi'
    have h2 := lens_le p (i + 1)
    have e : ilt ((i : Nat) : Int) 1 = true := by rw [ilt_iff]; omega
    have e1 : iadd .i64 ((lens p i : Nat) : Int) ((p[i].length : Nat) : Int) = ((lens p (i + 1) : Nat) : Int) := by rw [iadd_i64 (by omega) (by omega)]; omega
    have e2 : ilt ((lens p (i + 1) : Nat) : Int) 0 = false := by rw [ilt_no]; omega
    simp only [step9]
    simp only [e, ends_ite, ends_need, ends_all, ends_jump, Int.toNat_natCast, Nat.zero_add, hrd, e1, e2, ends_fail]
    refine ⟨fun _ => ⟨by omega, by omega, by omega, (fun h => by cases h), fun _ => ?_⟩, (fun h => by cases h)⟩
    rw [one_more i (by omega)]
    exact ih (i + 1) (by omega)
end

section
variable (x : List Rg × List Rg) {p : List (List Rg)} (hp : p.length = 2) (hl : p.flatten.length ≤ 1000) (hs : ∀ r ∈ p.flatten, R64 r)
include hp hl hs
theorem n10_h1 : ∀ (m i : Nat), i + m = 2 → ∀ (cap : Nat) (row : List Rg), row.length = cap → p.flatten.length ≤ cap → row.take (lens p i) = (p.take i).flatten →
    Ends (step10 x) (normS p.flatten) (step10 x (.h1 (lens p i) cap i p cap row)) := by
  intro m
  induction m with
  | zero =>
    intro i hi cap row hr hc ht
    have : i = p.length := by omega
    subst this
    have e : ilt ((p.length : Nat) : Int) 2 = false := by rw [ilt_no]; omega
    have key := n10_h3 x (s := srt p.flatten) (row := spliceL row 0 (srt p.flatten)) (cap := cap) (v2 := cap) (by rw [srt_len]; exact hl) (srt_64 hs) (row_of hr (by rw [srt_len]; exact hc)) p.flatten.length 0 (by rw [srt_len]; omega)
    rw [srt_len, List.drop_zero] at key
    rw [List.take_length, lens_all] at ht
    simp only [step10]
    simp only [e, ends_ite, ends_need, ends_jump, lens_all, ht]
    exact ⟨(fun h => by cases h), fun _ => ⟨by omega, by omega, key⟩⟩
  | succ m ih =>
    intro i hi cap row hr hc ht
    have hi' : i < p.length := by omega
    have hrd : rdc (.slice CRange) p i = p[i] := rdc_at (c := .slice CRange) hi'
    have h1 := lens_succ hi'
    have h2 := lens_le p (i + 1)
    have e : ilt ((i : Nat) : Int) 2 = true := by rw [ilt_iff]; omega
    simp only [step10]
    simp only [e, ends_ite, ends_need, ends_all, ends_jump, Int.toNat_natCast, Nat.zero_add, hrd]
    refine ⟨fun _ => ⟨by omega, by omega, by omega, fun h => ?_, fun h => ⟨by omega, ?_⟩⟩, (fun h => by cases h)⟩
    · rw [ilt_iff] at h; omega
    · rw [one_more i (by omega), ← h1]
      refine ih (i + 1) (by omega) cap _ ?_ hc ?_
      · unfold spliceL
        simp only [List.length_append, List.length_take, List.length_drop]
        omega
      · unfold spliceL
        rw [flat_succ hi', ← ht, h1, ← List.append_assoc, List.take_append_of_le_length (by simp only [List.length_append, List.length_take]; omega)]
        rw [List.take_of_length_le (by simp only [List.length_append, List.length_take]; omega)]
theorem n10_h2 (h0 : p.flatten = []) : ∀ (m i : Nat), i + m = 2 → Ends (step10 x) [] (step10 x (.h2 i p)) := by
  intro m
  induction m with
  | zero =>
    intro i hi
    have : i = p.length := by omega
    subst this
    have e : ilt ((p.length : Nat) : Int) 2 = false := by rw [ilt_no]; omega
    simp only [step10]
    simp only [e, ends_ite, ends_jump]
    refine ⟨(fun h => by cases h), fun _ => ?_⟩
    simp only [step10, ends_ret]
  | succ m ih =>
    intro i hi
    have hi' : i < p.length := by omega
    have hrd : rdc (.slice CRange) p i = p[i] := rdc_at (c := .slice CRange) hi'
    have hz : p[i] = [] := List.flatten_eq_nil_iff.mp h0 _ (List.getElem_mem hi')
    have e : ilt ((i : Nat) : Int) 2 = true := by rw [ilt_iff]; omega
    have e2 : ieq (([] : List Rg).length : Int) 0 = true := rfl
    simp only [step10]
    simp only [e, ends_ite, ends_need, ends_all, ends_jump, Int.toNat_natCast, Nat.zero_add, hrd, hz, e2]
    refine ⟨fun _ => ⟨by omega, by omega, by omega, fun _ => ?_, (fun h => by cases h)⟩, (fun h => by cases h)⟩
    rw [one_more i (by omega)]
    exact ih (i + 1) (by omega)
theorem n10_h0 : ∀ (m i : Nat), i + m = 2 → Ends (step10 x) (normS p.flatten) (step10 x (.h0 (lens p i) i p)) := by
  intro m
  induction m with
  | zero =>
    intro i hi
    have : i = p.length := by omega
    subst this
    have e : ilt ((p.length : Nat) : Int) 2 = false := by rw [ilt_no]; omega
    have e2 : ilt ((p.flatten.length : Nat) : Int) 0 = false := by rw [ilt_no]; omega
    have e3 : isub .i64 ((p.flatten.length : Nat) : Int) 0 = ((p.flatten.length : Nat) : Int) := by rw [isub_i64 (by omega) (by omega)]; omega
    simp only [step10]
    simp only [e, e2, e3, ends_ite, ends_need, ends_all, ends_jump, lens_all, Int.toNat_natCast]
    refine ⟨(fun h => by cases h), fun _ => ⟨(fun h => by cases h), fun _ => ⟨fun h => ?_, fun h => ?_⟩⟩⟩
    · rw [ilt_iff] at h
      refine ⟨trivial, trivial, by omega, by omega, by omega, fun j => ⟨by omega, by omega, by omega, by omega, ?_⟩⟩
      exact n10_h1 x hp hl hs 2 0 (by omega) (p.flatten.length + j) _ (by simp) (by omega) rfl
    · rw [ilt_no] at h
      have h0 : p.flatten = [] := List.length_eq_zero_iff.mp (by omega)
      have := n10_h2 x hp hl hs h0 2 0 (by omega)
      rw [h0]
      have e4 : normS [] = [] := by
        unfold normS normG
        rw [List.length_eq_zero_iff.mp (srt_len []) ]; rfl
      rw [e4]
      exact this
  | succ m ih =>
    intro i hi
    have hi' : i < p.length := by omega
    have hrd : rdc (.slice CRange) p i = p[i] := rdc_at (c := .slice CRange) hi'
    have h1 := lens_succ hi'
    have h2 := lens_le p (i + 1)
    have e : ilt ((i : Nat) : Int) 2 = true := by rw [ilt_iff]; omega
    have e1 : iadd .i64 ((lens p i : Nat) : Int) ((p[i].length : Nat) : Int) = ((lens p (i + 1) : Nat) : Int) := by rw [iadd_i64 (by omega) (by omega)]; omega
    have e2 : ilt ((lens p (i + 1) : Nat) : Int) 0 = false := by rw [ilt_no]; omega
    simp only [step10]
    simp only [e, ends_ite, ends_need, ends_all, ends_jump, Int.toNat_natCast, Nat.zero_add, hrd, e1, e2, ends_fail]
    refine ⟨fun _ => ⟨by omega, by omega, by omega, (fun h => by cases h), fun _ => ?_⟩, (fun h => by cases h)⟩
    rw [one_more i (by omega)]
    exact ih (i + 1) (by omega)
end

theorem norm_ok {l : List Rg} (hl : l.length ≤ 1000) (hs : ∀ r ∈ l, R64 r) : pre9 l ∧ fn9 l = normS l := by
  have h : Ends (step9 l) (normS l) (tree9 l) := by
    have := n9_h0 l (p := [l]) rfl (by simpa using hl) (by simpa using hs) 1 0 rfl
    rw [show [l].flatten = l by simp] at this
    unfold tree9
    simp only [ends_need, ends_jump]
    exact ⟨by omega, this⟩
  exact ⟨⟨_, h⟩, endVal_eq h⟩
theorem add_ok {l m : List Rg} (hl : l.length + m.length ≤ 1000) (h1 : ∀ r ∈ l, R64 r) (h2 : ∀ r ∈ m, R64 r) : pre10 (l, m) ∧ fn10 (l, m) = normS (l ++ m) := by
  have h : Ends (step10 (l, m)) (normS (l ++ m)) (tree10 (l, m)) := by
    have e : [l, m].flatten = l ++ m := by simp
    have := n10_h0 (l, m) (p := [l, m]) rfl (by rw [e, List.length_append]; exact hl) (by rw [e]; exact fun r hr => (List.mem_append.mp hr).elim (h1 r) (h2 r)) 2 0 rfl
    rw [e] at this
    unfold tree10
    simp only [ends_need, ends_jump]
    exact ⟨by omega, by omega, this⟩
  exact ⟨⟨_, h⟩, endVal_eq h⟩
end
end Go.Eng.RT
end
section
/- The program's small functions on rows of ranges, plain. -/
namespace Go.Eng.RT
open Go.Eng.RS
open Go.Eng
set_option maxRecDepth 100000
set_option linter.unusedSectionVars false
set_option linter.unusedSimpArgs false
noncomputable section
theorem or4 {b : Bool} : ((b == true) = true → b = true) ∧ ((b == true) = false → b = false) := by cases b <;> simp
/- had -/
theorem any_cons' {α : Type} (p : α → Bool) (x : α) (l : List α) : (x :: l).any p = (p x || l.any p) := rfl
/- Meets, Has -/
def metP (r x : Rg) : Bool := decide (x.1 ≤ x.2) && (decide (x.1 ≤ r.2) && decide (r.1 ≤ x.2))
theorem met_loop (l : List Rg) (r : Rg) (hl : l.length ≤ 100000) : ∀ (m i : Nat), i + m = l.length → Ends (step15 (l, r)) ((l.drop i).any (metP r)) (step15 (l, r) (.h0 l.length i)) := by
  intro m
  induction m with
  | zero =>
    intro i hi
    have : i = l.length := by omega
    subst this
    simp only [step15]
    simp only [lt_no (Nat.le_refl _), ends_ite, ends_ret]
    exact ⟨(fun h => by cases h), fun _ => by rw [List.drop_length]; rfl⟩
  | succ m ih =>
    intro i hi
    have hi' : i < l.length := by omega
    have hr : rdc CRange l i = l[i] := rdc_at (c := CRange) hi'
    have nx := ih (i + 1) (by omega)
    have e0 : ile 0 (i : Int) = true := by rw [ile_iff]; omega
    simp only [step15]
    simp only [lt_yes hi', ends_ite, ends_need, ends_jump, ends_ret, Int.toNat_natCast, hr, one_more i (by omega), e0]
    rw [List.drop_eq_getElem_cons hi', any_cons']
    refine ⟨fun _ => ⟨by omega, by omega, fun h => ⟨fun k => ⟨fun j => ?_, fun j => ?_⟩, fun k => ?_⟩, fun h => ?_⟩, (fun h => by cases h)⟩
    · have h := ile_iff.mp (or4.1 h); have k := ile_iff.mp (or4.1 k); have j := ile_iff.mp j
      unfold metP; simp [h, k, j]
    · have j := ile_no.mp j
      have e : metP r l[i] = false := by unfold metP; simp; omega
      rw [e, Bool.false_or]; exact nx
    · have k := ile_no.mp (or4.2 k)
      have e : metP r l[i] = false := by unfold metP; simp; omega
      rw [e, Bool.false_or]; exact nx
    · have h := ile_no.mp (or4.2 h)
      have e : metP r l[i] = false := by unfold metP; simp; omega
      rw [e, Bool.false_or]; exact nx
def metS (l : List Rg) (r : Rg) : Bool := decide (r.1 ≤ r.2) && l.any (metP r)
theorem met_ok {l : List Rg} (r : Rg) (hl : l.length ≤ 100000) : pre15 (l, r) ∧ fn15 (l, r) = metS l r := by
  have h : Ends (step15 (l, r)) (metS l r) (tree15 (l, r)) := by
    unfold tree15 metS
    simp only [ends_ite, ends_jump, ends_ret]
    refine ⟨fun h => ?_, fun h => ?_⟩
    · have h := ile_iff.mp (or4.1 h)
      rw [decide_eq_true h, Bool.true_and]
      exact met_loop l r hl l.length 0 (by omega)
    · have h := ile_no.mp (or4.2 h)
      rw [decide_eq_false (by omega), Bool.false_and]
  exact ⟨⟨_, h⟩, endVal_eq h⟩
theorem met_iff {l : List Rg} {r : Rg} : metS l r = true ↔ Meet l r := by
  rw [meet_iff]
  unfold metS
  rw [Bool.and_eq_true, decide_eq_true_iff, List.any_eq_true]
  constructor
  · rintro ⟨h, x, hx, k⟩
    unfold metP at k
    simp at k
    exact ⟨h, x, hx, k⟩
  · rintro ⟨h, x, hx, k⟩
    exact ⟨h, x, hx, by unfold metP; simp; exact k⟩
theorem has_ok {l : List Rg} (a : Int) (hl : l.length ≤ 100000) : pre14 (l, a) ∧ fn14 (l, a) = metS l (a, a) := by
  obtain ⟨m1, m2⟩ := met_ok (a, a) hl
  unfold pre14 fn14 tree14
  simp only [ok_need, ok_ret, val_need, val_ret]
  exact ⟨⟨m1, trivial⟩, m2⟩
/- Same -/
theorem eq_r {x y : Rg} : eqD CRange x y = true ↔ x = y := eqD_iff rfl
theorem drop_eq {l m : List Rg} {i : Nat} (h : l.length = m.length) (hi : i < l.length) : decide (l.drop i = m.drop i) = (decide (l[i] = m[i]'(by omega)) && decide (l.drop (i + 1) = m.drop (i + 1))) := by
  rw [Bool.eq_iff_iff, Bool.and_eq_true, decide_eq_true_iff, decide_eq_true_iff, decide_eq_true_iff, List.drop_eq_getElem_cons hi, List.drop_eq_getElem_cons (show i < m.length by omega), List.cons.injEq]
theorem ref_same_loop (l m : List Rg) (hl : l.length ≤ 100000) (he : l.length = m.length) : ∀ (n i : Nat), i + n = l.length → Ends (step33 (l, m)) (decide (l.drop i = m.drop i)) (step33 (l, m) (.h0 i)) := by
  intro n
  induction n with
  | zero =>
    intro i hi
    have : i = l.length := by omega
    subst this
    simp only [step33]
    simp only [lt_no (Nat.le_refl _), ends_ite, ends_ret]
    exact ⟨(fun h => by cases h), fun _ => by rw [List.drop_length, he, List.drop_length]; rfl⟩
  | succ n ih =>
    intro i hi
    have hi' : i < l.length := by omega
    have hr : rdc CRange l i = l[i] := rdc_at (c := CRange) hi'
    have hr2 : rdc CRange m i = m[i] := rdc_at (c := CRange) (by omega : i < m.length)
    have nx := ih (i + 1) (by omega)
    simp only [step33]
    simp only [lt_yes hi', ends_ite, ends_need, ends_jump, ends_ret, Int.toNat_natCast, hr, hr2, one_more i (by omega)]
    rw [drop_eq he hi']
    refine ⟨fun _ => ⟨by omega, by omega, by omega, by omega, fun h => ?_, fun h => ?_⟩, (fun h => by cases h)⟩
    · rw [Bool.not_eq_true'] at h
      have : ¬ l[i] = m[i] := fun e => by rw [eq_r.mpr e] at h; cases h
      rw [decide_eq_false this, Bool.false_and]
    · rw [Bool.not_eq_false'] at h
      rw [decide_eq_true (eq_r.mp h), Bool.true_and]; exact nx
theorem same_ok {l m : List Rg} (hl : l.length ≤ 100000) (hm : m.length ≤ 100000) : pre17 (l, m) ∧ fn17 (l, m) = decide (l = m) := by
  have h : Ends (step33 (l, m)) (decide (l = m)) (tree33 (l, m)) := by
    unfold tree33
    simp only [ends_ite, ends_jump, ends_ret]
    refine ⟨fun h => ?_, fun h => ?_⟩
    · have h := ine_iff.mp h
      exact (decide_eq_false (fun e => h (by rw [e]))).symm
    · have h := ine_no.mp h
      have h : l.length = m.length := by omega
      exact ref_same_loop l m hl h l.length 0 (by omega)
  unfold pre17 fn17 tree17
  simp only [ok_need, ok_ret, val_need, val_ret]
  exact ⟨⟨⟨_, h⟩, trivial⟩, endVal_eq h⟩
theorem dsame_loop (l m : List Rg) (hl : l.length ≤ 100000) (he : l.length = m.length) : ∀ (n i : Nat), i + n = l.length → Ends (step26 (l, m)) (decide (l.drop i = m.drop i)) (step26 (l, m) (.h0 l.length i)) := by
  intro n
  induction n with
  | zero =>
    intro i hi
    have : i = l.length := by omega
    subst this
    simp only [step26]
    simp only [lt_no (Nat.le_refl _), ends_ite, ends_ret]
    exact ⟨(fun h => by cases h), fun _ => by rw [List.drop_length, he, List.drop_length]; rfl⟩
  | succ n ih =>
    intro i hi
    have hi' : i < l.length := by omega
    have hr : rdc CRange l i = l[i] := rdc_at (c := CRange) hi'
    have hr2 : rdc CRange m i = m[i] := rdc_at (c := CRange) (by omega : i < m.length)
    have nx := ih (i + 1) (by omega)
    simp only [step26]
    simp only [lt_yes hi', ends_ite, ends_need, ends_jump, ends_ret, Int.toNat_natCast, hr, hr2, one_more i (by omega)]
    rw [drop_eq he hi']
    refine ⟨fun _ => ⟨by omega, by omega, by omega, by omega, fun h => ?_, fun h => ?_⟩, (fun h => by cases h)⟩
    · rw [Bool.not_eq_true'] at h
      have : ¬ l[i] = m[i] := fun e => by rw [eq_r.mpr e] at h; cases h
      rw [decide_eq_false this, Bool.false_and]
    · rw [Bool.not_eq_false'] at h
      rw [decide_eq_true (eq_r.mp h), Bool.true_and]; exact nx
theorem dsame_ok {l m : List Rg} (hl : l.length ≤ 100000) (hm : m.length ≤ 100000) : pre26 (l, m) ∧ fn26 (l, m) = decide (l = m) := by
  have h : Ends (step26 (l, m)) (decide (l = m)) (tree26 (l, m)) := by
    unfold tree26
    simp only [ends_ite, ends_jump, ends_ret]
    refine ⟨fun h => ?_, fun h => ?_⟩
    · have h := ine_iff.mp h
      exact (decide_eq_false (fun e => h (by rw [e]))).symm
    · have h := ine_no.mp h
      have h : l.length = m.length := by omega
      exact dsame_loop l m hl h l.length 0 (by omega)
  exact ⟨⟨_, h⟩, endVal_eq h⟩
/- Right -/
def rB : Int → List Rg → Bool
  | _, [] => true
  | p, r :: l => decide (r.1 ≤ r.2) && (decide (p + 2 ≤ r.1) && rB r.2 l)
def rightS : List Rg → Bool
  | [] => true
  | r :: l => decide (r.1 ≤ r.2) && rB r.2 l
theorem right_loop (l : List Rg) (hl : l.length ≤ 100000) (h64 : ∀ r ∈ l, R64 r) : ∀ (m i : Nat), i + 1 + m = l.length → Ends (step13 l) (rB (l[i]!).2 (l.drop (i + 1))) (step13 l (.h0 true l.length ((i + 1 : Nat) : Int))) := by
  intro m
  induction m with
  | zero =>
    intro i hi
    simp only [step13]
    simp only [lt_no (show l.length ≤ i + 1 by omega), ends_ite, ends_ret]
    exact ⟨(fun h => by cases h), fun _ => by rw [List.drop_eq_nil_of_le (by omega)]; rfl⟩
  | succ m ih =>
    intro i hi
    have hi' : i + 1 < l.length := by omega
    have hi0 : i < l.length := by omega
    have hr : rdc CRange l (i + 1) = l[i + 1] := rdc_at (c := CRange) hi'
    have hr0 : rdc CRange l i = l[i] := rdc_at (c := CRange) hi0
    have nx := ih (i + 1) (by omega)
    have e1 : isub .i64 ((i + 1 : Nat) : Int) 1 = (i : Int) := by rw [isub_i64 (by omega) (by omega)]; omega
    have e2 : (ieq ((i + 1 : Nat) : Int) 0 == false) = true := by
      have : ieq ((i + 1 : Nat) : Int) 0 = false := ieq_no.mpr (by omega)
      rw [this]; rfl
    have g0 : l[i]! = l[i] := getElem!_pos l i hi0
    have g1 : l[i + 1]! = l[i + 1] := getElem!_pos l (i + 1) hi'
    obtain ⟨⟨a1, a2⟩, a3, a4⟩ := h64 _ (List.getElem_mem hi0)
    obtain ⟨⟨b1, b2⟩, b3, b4⟩ := h64 _ (List.getElem_mem hi')
    simp only [step13]
    simp only [lt_yes hi', ends_ite, ends_need, ends_jump, ends_ret, Int.toNat_natCast, hr, hr0, e1, e2, one_more (i + 1) (by omega)]
    rw [List.drop_eq_getElem_cons hi', rB, g0]
    refine ⟨fun _ => ⟨by omega, by omega, fun h => ⟨fun _ => ⟨by omega, by omega, fun k => ⟨by omega, by omega, fun j => ?_, fun j => ?_⟩, fun k => ?_⟩, (fun h => by cases h)⟩, fun h => ?_⟩, (fun h => by cases h)⟩
    · have h := ile_iff.mp (or4.1 h); have k := ilt_iff.mp (or4.1 k)
      rw [isub_u64 (by omega) (by omega)] at j ⊢
      rw [Bool.not_eq_true'] at j
      have j' := ilt_no.mp j
      rw [j, decide_eq_false (show ¬ l[i].2 + 2 ≤ l[i + 1].1 by omega), Bool.false_and, Bool.and_false]
    · have h := ile_iff.mp (or4.1 h); have k := ilt_iff.mp (or4.1 k)
      rw [isub_u64 (by omega) (by omega)] at j ⊢
      rw [Bool.not_eq_false'] at j
      have j' := ilt_iff.mp j
      rw [j, decide_eq_true (show l[i].2 + 2 ≤ l[i + 1].1 by omega), decide_eq_true h, Bool.true_and, Bool.true_and, ← g1]
      exact nx
    · have k := ilt_no.mp (or4.2 k)
      rw [decide_eq_false (show ¬ l[i].2 + 2 ≤ l[i + 1].1 by omega), Bool.false_and, Bool.and_false]
    · have h := ile_no.mp (or4.2 h)
      rw [decide_eq_false (show ¬ l[i + 1].1 ≤ l[i + 1].2 by omega), Bool.false_and]
theorem right_ok {l : List Rg} (hl : l.length ≤ 100000) (h64 : ∀ r ∈ l, R64 r) : pre13 l ∧ fn13 l = rightS l := by
  have h : Ends (step13 l) (rightS l) (tree13 l) := by
    unfold tree13
    simp only [ends_jump]
    simp only [step13]
    cases l with
    | nil => simp only [ends_ite, ends_ret]; exact ⟨(fun h => by cases h), fun _ => rfl⟩
    | cons r l =>
      have e : ilt 0 (((r :: l).length : Nat) : Int) = true := by rw [ilt_iff, List.length_cons]; omega
      have e2 : (ieq 0 0 == false) = false := rfl
      have hr : rdc CRange (r :: l) ((0 : Int).toNat) = r := rfl
      have e3 : iadd .i64 0 1 = ((0 + 1 : Nat) : Int) := by rw [iadd_i64 (by omega) (by omega)]; rfl
      simp only [e, e2, hr, e3, ends_ite, ends_need, ends_jump, ends_ret]
      refine ⟨fun _ => ⟨by omega, by rw [List.length_cons]; omega, fun h => ⟨(fun h => by cases h), fun _ => ?_⟩, fun h => ?_⟩, (fun h => by cases h)⟩
      · have h := ile_iff.mp (or4.1 h)
        rw [rightS, decide_eq_true h, Bool.true_and]
        exact right_loop (r :: l) hl h64 l.length 0 (by rw [List.length_cons]; omega)
      · have h := ile_no.mp (or4.2 h)
        rw [rightS, decide_eq_false (by omega), Bool.false_and]
  exact ⟨⟨_, h⟩, endVal_eq h⟩
end
end Go.Eng.RT
end
section
/- Sub, Join, In, the bounds of what is told; wakes. -/
namespace Go.Eng.RT
open Go.Eng.RS
open Go.Eng
set_option maxRecDepth 100000
set_option linter.unusedSectionVars false
set_option linter.unusedSimpArgs false
noncomputable section
theorem joinG_64 (l : List Rg) : ∀ y, R64 y → (∀ r ∈ l, R64 r) → ∀ r ∈ joinG y l, R64 r := by
  induction l with
  | nil => intro y hy _ r hr; rw [joinG, List.mem_singleton] at hr; rw [hr]; exact hy
  | cons x l ih =>
    intro y hy hl r hr
    have hx := hl x (.head _)
    have hl' : ∀ r ∈ l, R64 r := fun r h => hl r (.tail _ h)
    rw [joinG] at hr
    split at hr
    · cases hr with
      | head => exact hy
      | tail _ hr => exact ih x hx hl' r hr
    · exact ih _ (hy.touch hx) hl' r hr
theorem joinG_len (l : List Rg) : ∀ y, (joinG y l).length ≤ l.length + 1 := by
  induction l with
  | nil => intro y; exact Nat.le_refl _
  | cons x l ih =>
    intro y
    rw [joinG]
    split
    · have := ih x; simp only [List.length_cons]; omega
    · have := ih (y.1, max y.2 x.2); simp only [List.length_cons]; omega
theorem norm_64 {l : List Rg} (h : ∀ r ∈ l, R64 r) : ∀ r ∈ normS l, R64 r := by
  have h2 : ∀ r ∈ mays (srt l), R64 r := fun r hr => srt_64 h r (List.mem_filter.mp hr).1
  show ∀ r ∈ joins (mays (srt l)), R64 r
  generalize mays (srt l) = m at h2
  cases m with
  | nil => intro r hr; cases hr
  | cons y m => exact joinG_64 m y (h2 y (.head _)) (fun r hr => h2 r (.tail _ hr))
theorem norm_len (l : List Rg) : (normS l).length ≤ l.length := by
  have h2 : (mays (srt l)).length ≤ l.length := by rw [← srt_len l]; exact List.length_filter_le _ _
  show (joins (mays (srt l))).length ≤ l.length
  generalize mays (srt l) = m at h2
  cases m with
  | nil => exact Nat.zero_le _
  | cons y m => have := joinG_len m y; simp only [joins, List.length_cons] at *; omega
theorem cutX_64 {r x : Rg} (hr : R64 r) (hx : R64 x) : ∀ y ∈ RS.cutX r x, R64 y := by
  intro y hy
  unfold RS.cutX at hy
  obtain ⟨⟨a1, a2⟩, a3, a4⟩ := hr
  obtain ⟨⟨b1, b2⟩, b3, b4⟩ := hx
  rcases List.mem_append.mp hy with h | h
  · split at h
    · rw [List.mem_singleton] at h; subst h; exact ⟨⟨b1, b2⟩, by simp only; omega, by simp only; omega⟩
    · cases h
  · split at h
    · rw [List.mem_singleton] at h; subst h; exact ⟨⟨by simp only; omega, by simp only; omega⟩, b3, b4⟩
    · cases h
theorem cutX_len (r x : Rg) : (RS.cutX r x).length ≤ 2 := by
  unfold RS.cutX
  split <;> split <;> simp
theorem cutG_cons (r x : Rg) (l : List Rg) : cutG r (x :: l) = RS.cutX r x ++ cutG r l := rfl
theorem cutG_len (r : Rg) (l : List Rg) : (cutG r l).length ≤ 2 * l.length := by
  induction l with
  | nil => exact Nat.le_refl _
  | cons x l ih => rw [cutG_cons, List.length_append, List.length_cons]; have := cutX_len r x; omega
theorem cutG_64 {r : Rg} (hr : R64 r) {l : List Rg} (hl : ∀ x ∈ l, R64 x) : ∀ y ∈ cutG r l, R64 y := by
  intro y hy
  obtain ⟨x, hx, h⟩ := List.mem_flatMap.mp hy
  exact cutX_64 hr (hl x hx) y h
abbrev subS (l : List Rg) (r : Rg) : List Rg := subG srt l r
theorem sub_64 {l : List Rg} {r : Rg} (hr : R64 r) (h : ∀ r ∈ l, R64 r) : ∀ y ∈ subS l r, R64 y := by
  unfold subS subG
  split
  · exact cutG_64 hr (norm_64 h)
  · exact norm_64 h
theorem sub_len (l : List Rg) (r : Rg) : (subS l r).length ≤ 2 * l.length := by
  have := norm_len l
  unfold subS subG
  split
  · have h := cutG_len r (normS l)
    show (cutG r (normS l)).length ≤ _
    omega
  · show (normS l).length ≤ _
    omega
section
variable (l : List Rg) (r : Rg) (hr : R64 r) {n : List Rg} (hl : n.length ≤ 1000) (hn : ∀ x ∈ n, R64 x)
include hr hl hn
theorem sub_h1 : ∀ (m i : Nat), i + m = n.length → ∀ out : List Rg, out.length ≤ 2 * i → Ends (step12 (l, r)) (out ++ cutG r (n.drop i)) (step12 (l, r) (.h1 out.length n n.length i out.length out)) := by
  intro m
  induction m with
  | zero =>
    intro i hi out ho
    have : i = n.length := by omega
    subst this
    simp only [step12]
    simp only [lt_no (Nat.le_refl _), ends_ite, ends_need, ends_ret]
    refine ⟨(fun h => by cases h), fun _ => ⟨by omega, ?_⟩⟩
    rw [List.drop_length, List.take_length]
    exact (List.append_nil _).symm
  | succ m ih =>
    intro i hi out ho
    have hi' : i < n.length := by omega
    have hd : rdc CRange n i = n[i] := rdc_at (c := CRange) hi'
    obtain ⟨⟨b1, b2⟩, b3, b4⟩ := hn _ (List.getElem_mem hi')
    obtain ⟨⟨a1, a2⟩, a3, a4⟩ := hr
    simp only [step12]
    simp only [lt_yes hi', ends_ite, ends_need, ends_jump, ends_ret, Int.toNat_natCast, hd, one_more i (by omega), imin_eq, imax_eq]
    rw [List.drop_eq_getElem_cons hi', cutG_cons, ← List.append_assoc]
    refine ⟨fun _ => ⟨by omega, by omega, fun h => ⟨by omega, by omega, trivial, by omega, by omega, fun k => ⟨by omega, by omega, trivial, by omega, by omega, ?_⟩, fun k => ?_⟩, fun h => ⟨fun k => ⟨by omega, by omega, trivial, by omega, by omega, ?_⟩, fun k => ?_⟩⟩, (fun h => by cases h)⟩
    · have h := ilt_iff.mp h; have k := ilt_iff.mp k
      rw [isub_u64 (by omega) (by omega), iadd_u64 (by omega) (by omega)]
      have e : RS.cutX r n[i] = [(n[i].1, min n[i].2 (r.1 - 1))] ++ [(max n[i].1 (r.2 + 1), n[i].2)] := by unfold RS.cutX; rw [if_pos h, if_pos k]
      rw [e, ← List.append_assoc]
      have := ih (i + 1) (by omega) (out ++ [(n[i].1, min n[i].2 (r.1 - 1))] ++ [(max n[i].1 (r.2 + 1), n[i].2)]) (by simp; omega)
      simp only [List.length_append, List.length_singleton] at this
      exact this
    · have h := ilt_iff.mp h; have k := ilt_no.mp k
      rw [isub_u64 (by omega) (by omega)]
      have e : RS.cutX r n[i] = [(n[i].1, min n[i].2 (r.1 - 1))] := by unfold RS.cutX; rw [if_pos h, if_neg (by omega), List.append_nil]
      rw [e]
      have := ih (i + 1) (by omega) (out ++ [(n[i].1, min n[i].2 (r.1 - 1))]) (by simp; omega)
      simp only [List.length_append, List.length_singleton] at this
      exact this
    · have h := ilt_no.mp h; have k := ilt_iff.mp k
      rw [iadd_u64 (by omega) (by omega)]
      have e : RS.cutX r n[i] = [(max n[i].1 (r.2 + 1), n[i].2)] := by unfold RS.cutX; rw [if_neg (by omega), if_pos k, List.nil_append]
      rw [e]
      have := ih (i + 1) (by omega) (out ++ [(max n[i].1 (r.2 + 1), n[i].2)]) (by simp; omega)
      simp only [List.length_append, List.length_singleton] at this
      exact this
    · have h := ilt_no.mp h; have k := ilt_no.mp k
      have e : RS.cutX r n[i] = [] := by unfold RS.cutX; rw [if_neg (by omega), if_neg (by omega)]; rfl
      rw [e, List.append_nil]
      exact ih (i + 1) (by omega) out (by omega)
theorem sub_h0 : ∀ (m i : Nat), i + m = n.length → Ends (step12 (l, r)) (cutG r (n.drop i)) (step12 (l, r) (.h0 n n.length i)) := by
  intro m
  induction m with
  | zero =>
    intro i hi
    have : i = n.length := by omega
    subst this
    simp only [step12]
    simp only [lt_no (Nat.le_refl _), ends_ite, ends_need, ends_ret]
    exact ⟨(fun h => by cases h), fun _ => by rw [List.drop_length]; rfl⟩
  | succ m ih =>
    intro i hi
    have hi' : i < n.length := by omega
    have hd : rdc CRange n i = n[i] := rdc_at (c := CRange) hi'
    obtain ⟨⟨b1, b2⟩, b3, b4⟩ := hn _ (List.getElem_mem hi')
    have hr' := hr
    obtain ⟨⟨a1, a2⟩, a3, a4⟩ := hr
    simp only [step12]
    simp only [lt_yes hi', ends_ite, ends_need, ends_jump, ends_ret, Int.toNat_natCast, hd, one_more i (by omega), imin_eq, imax_eq]
    rw [List.drop_eq_getElem_cons hi', cutG_cons]
    refine ⟨fun _ => ⟨by omega, by omega, fun h => ⟨by omega, by omega, by omega, by omega, fun k => ⟨by omega, by omega, trivial, by omega, by omega, ?_⟩, fun k => ?_⟩, fun h => ⟨fun k => ⟨by omega, by omega, by omega, by omega, ?_⟩, fun k => ?_⟩⟩, (fun h => by cases h)⟩
    · have h := ilt_iff.mp h; have k := ilt_iff.mp k
      rw [isub_u64 (by omega) (by omega), iadd_u64 (by omega) (by omega)]
      have e : RS.cutX r n[i] = [(n[i].1, min n[i].2 (r.1 - 1)), (max n[i].1 (r.2 + 1), n[i].2)] := by unfold RS.cutX; rw [if_pos h, if_pos k]; rfl
      rw [e]
      exact sub_h1 l r hr' hl hn m (i + 1) (by omega) [(n[i].1, min n[i].2 (r.1 - 1)), (max n[i].1 (r.2 + 1), n[i].2)] (by simp; omega)
    · have h := ilt_iff.mp h; have k := ilt_no.mp k
      rw [isub_u64 (by omega) (by omega)]
      have e : RS.cutX r n[i] = [(n[i].1, min n[i].2 (r.1 - 1))] := by unfold RS.cutX; rw [if_pos h, if_neg (by omega), List.append_nil]
      rw [e]
      exact sub_h1 l r hr' hl hn m (i + 1) (by omega) [(n[i].1, min n[i].2 (r.1 - 1))] (by simp; omega)
    · have h := ilt_no.mp h; have k := ilt_iff.mp k
      rw [iadd_u64 (by omega) (by omega)]
      have e : RS.cutX r n[i] = [(max n[i].1 (r.2 + 1), n[i].2)] := by unfold RS.cutX; rw [if_neg (by omega), if_pos k, List.nil_append]
      rw [e]
      exact sub_h1 l r hr' hl hn m (i + 1) (by omega) [(max n[i].1 (r.2 + 1), n[i].2)] (by simp; omega)
    · have h := ilt_no.mp h; have k := ilt_no.mp k
      have e : RS.cutX r n[i] = [] := by unfold RS.cutX; rw [if_neg (by omega), if_neg (by omega)]; rfl
      rw [e, List.nil_append]
      exact ih (i + 1) (by omega)
end
theorem sub_ok {l : List Rg} {r : Rg} (hr : R64 r) (hl : l.length ≤ 1000) (h : ∀ r ∈ l, R64 r) : pre12 (l, r) ∧ fn12 (l, r) = subS l r := by
  obtain ⟨n1, n2⟩ := norm_ok hl h
  have e : Ends (step12 (l, r)) (subS l r) (tree12 (l, r)) := by
    unfold tree12
    simp only [ends_ite, ends_need, ends_jump, ends_ret, n2]
    refine ⟨fun k => ⟨n1, ?_⟩, fun k => ⟨n1, ?_⟩⟩
    · have k := ilt_iff.mp k
      unfold subS subG
      rw [if_neg (by omega)]
    · have k := ilt_no.mp k
      unfold subS subG
      rw [if_pos k]
      exact sub_h0 l r hr (by have := norm_len l; omega) (norm_64 h) (normS l).length 0 (by omega)
  exact ⟨⟨_, e⟩, endVal_eq e⟩
theorem join_ok {l m : List Rg} (hl : l.length + m.length ≤ 1000) (h1 : ∀ r ∈ l, R64 r) (h2 : ∀ r ∈ m, R64 r) : pre11 (l, m) ∧ fn11 (l, m) = normS (l ++ m) := by
  obtain ⟨a1, a2⟩ := add_ok hl h1 h2
  unfold pre11 fn11 tree11
  simp only [ok_need, ok_ret, val_need, val_ret]
  exact ⟨⟨a1, trivial⟩, a2⟩
theorem in_ok {l m : List Rg} (hl : l.length + m.length ≤ 1000) (h1 : ∀ r ∈ l, R64 r) (h2 : ∀ r ∈ m, R64 r) : pre23 (l, m) ∧ fn23 (l, m) = decide (normS (l ++ m) = normS m) := by
  obtain ⟨a1, a2⟩ := join_ok hl h1 h2
  obtain ⟨b1, b2⟩ := norm_ok (show m.length ≤ 1000 by omega) h2
  obtain ⟨c1, c2⟩ := dsame_ok (l := normS (l ++ m)) (m := normS m) (by have := norm_len (l ++ m); rw [List.length_append] at this; omega) (by have := norm_len m; omega)
  unfold pre23 fn23 tree23
  simp only [ok_need, ok_ret, val_need, val_ret, a2, b2]
  exact ⟨⟨a1, b1, c1, trivial⟩, c2⟩
theorem r64_nn {l : List Rg} (h : ∀ r ∈ l, R64 r) : Nn l := fun x hx => (h x hx).1.1
theorem small64 {a b : Int} (h1 : 0 ≤ a) (h2 : a < 1000) (h3 : 0 ≤ b) (h4 : b < 1000) : R64 (a, b) := ⟨⟨h1, by simp only; omega⟩, h3, by simp only; omega⟩
theorem wakes_ok : pre7 () ∧ fn7 () = true := by
  have k1 : ∀ r ∈ ([(1, 3)] : List Rg), R64 r := fun r h => by rw [List.mem_singleton] at h; rw [h]; exact small64 (by omega) (by omega) (by omega) (by omega)
  have k2 : ∀ r ∈ ([(4, 6)] : List Rg), R64 r := fun r h => by rw [List.mem_singleton] at h; rw [h]; exact small64 (by omega) (by omega) (by omega) (by omega)
  have k3 : ∀ r ∈ ([(1, 9)] : List Rg), R64 r := fun r h => by rw [List.mem_singleton] at h; rw [h]; exact small64 (by omega) (by omega) (by omega) (by omega)
  have k4 : R64 (3, 4) := small64 (by omega) (by omega) (by omega) (by omega)
  have k5 : ∀ r ∈ ([(2, 1)] : List Rg), R64 r := fun r h => by rw [List.mem_singleton] at h; rw [h]; exact small64 (by omega) (by omega) (by omega) (by omega)
  have e1 : normS ([(1, 3)] ++ [(4, 6)]) = [(1, 6)] := by
    refine norm_is srt_is ((r64_nn k1).app (r64_nn k2)) (b := 0) ⟨by omega, by omega, trivial⟩ fun a => ?_
    rw [cov_app, cov_cons, cov_cons, cov_cons]
    have := @cov_nil a
    simp only [this, or_false]
    omega
  have e2 : normS [(1, 9)] = [(1, 9)] := norm_self srt_is ⟨by omega, by omega, trivial⟩
  have e3 : subS [(1, 9)] (3, 4) = [(1, 2), (5, 9)] := by
    unfold subS subG
    rw [if_pos (by decide), show normG srt [(1, 9)] = [(1, 9)] from e2]
    decide
  obtain ⟨a1, a2⟩ := add_ok (by decide) k1 k2
  obtain ⟨b1, b2⟩ := sub_ok k4 (by decide) k3
  rw [e1] at a2
  rw [e3] at b2
  have k6 : ∀ r ∈ ([(1, 6)] : List Rg), R64 r := fun r h => by rw [List.mem_singleton] at h; rw [h]; exact small64 (by omega) (by omega) (by omega) (by omega)
  obtain ⟨c1, c2⟩ := same_ok (l := [(1, 6)]) (m := [(1, 6)]) (by decide) (by decide)
  obtain ⟨d1, d2⟩ := same_ok (l := [(1, 2), (5, 9)]) (m := [(1, 2), (5, 9)]) (by decide) (by decide)
  obtain ⟨f1, f2⟩ := right_ok (by decide) k6
  obtain ⟨g1, g2⟩ := right_ok (by decide) k5
  obtain ⟨h1, h2⟩ := has_ok (l := [(1, 2), (5, 9)]) 5 (by decide)
  obtain ⟨i1, i2⟩ := has_ok (l := [(1, 2), (5, 9)]) 4 (by decide)
  have c3 : fn17 ([(1, 6)], [(1, 6)]) = true := c2.trans (by decide)
  have d3 : fn17 ([(1, 2), (5, 9)], [(1, 2), (5, 9)]) = true := d2.trans (by decide)
  have f3 : fn13 [(1, 6)] = true := f2.trans (by decide)
  have g3 : fn13 [(2, 1)] = false := g2.trans (by decide)
  have h3 : fn14 ([(1, 2), (5, 9)], 5) = true := h2.trans (by decide)
  have i3 : fn14 ([(1, 2), (5, 9)], 4) = false := i2.trans (by decide)
  unfold pre7 fn7 tree7
  simp only [ok_need, ok_ite, ok_ret, val_need, val_ite, val_ret, a2, b2, c3, d3, f3, g3, h3, i3]
  refine ⟨?_, rfl⟩
  refine ⟨by omega, by omega, by omega, by omega, a1, by omega, by omega, b1, by omega, by omega, c1, fun _ => ⟨by omega, by omega, by omega, d1, fun _ => ⟨f1, fun _ => ⟨by omega, by omega, g1, fun _ => ⟨h1, fun _ => ⟨i1, trivial⟩, (fun h => by cases h)⟩, (fun h => by cases h)⟩, (fun h => by cases h)⟩, (fun h => by cases h)⟩, (fun h => by cases h)⟩
end
end Go.Eng.RT
end
section
/- DirtHas: plain. -/
namespace Go.Eng.RT
open Go.Eng.RS
open Go.Eng
set_option maxRecDepth 100000
set_option linter.unusedSectionVars false
set_option linter.unusedSimpArgs false
noncomputable section
theorem wf_u64 {c : Int} (h : TC.wf (.int .u64) c) : 0 ≤ c ∧ c < 18446744073709551616 := by
  simp only [TC.wf, Lit.wf] at h
  have e1 : IntKind.u64.min = 0 := rfl
  have e2 : IntKind.u64.max = 18446744073709551615 := rfl
  have : IntKind.u64.min ≤ c ∧ c ≤ IntKind.u64.max := by simpa using h
  rw [e1, e2] at this
  exact ⟨this.1, by omega⟩
theorem wf_rg {r : Rg} (h : TC.wf CRange r) : R64 r := ⟨wf_u64 h.1, wf_u64 h.2⟩
theorem wf_row {l : List Rg} (h : TC.wf (.slice CRange) l) : ∀ r ∈ l, R64 r := fun r hr => wf_rg (h.2 r hr)
end
end Go.Eng.RT
end
section
/- DirtBack: plain. -/
namespace Go.Eng.RT
open Go.Eng.RS
open Go.Eng
set_option maxRecDepth 100000
set_option linter.unusedSectionVars false
set_option linter.unusedSimpArgs false
noncomputable section
theorem back_law (x : List Rg × Rg) (w : TC.wf (.st (.slice CRange) (.st1 CRange)) x) : pre6 x ∧ fn6 x = true := by
  obtain ⟨l, r⟩ := x
  have hl := wf_row w.1
  have hr : R64 r := wf_rg w.2
  have hr1 : ∀ x ∈ [r], R64 x := fun x h => by rw [List.mem_singleton] at h; rw [h]; exact hr
  obtain ⟨w1, w2⟩ := wakes_ok
  cases hg : ilt 60 (l.length : Int) with
  | true =>
    unfold pre6 fn6 tree6
    simp only [ok_ite, ok_need, ok_ret, val_ite, val_need, val_ret, hg, w1, w2, cond_true]
    simp
  | false =>
    have g1 : l.length ≤ 60 := by have := ilt_no.mp hg; omega
    have n1 := norm_len l
    have n2 := norm_len (l ++ [r])
    have n3 := sub_len l r
    rw [List.length_append, List.length_singleton] at n2
    obtain ⟨c1, c2⟩ := norm_ok (l := l) (by omega) hl
    obtain ⟨f1, f2⟩ := sub_ok (l := l) hr (by omega) hl
    obtain ⟨e1, e2⟩ := same_ok (l := subS l r) (m := normS l) (by omega) (by omega)
    obtain ⟨s1, s2⟩ := met_ok (l := l) r (by omega)
    obtain ⟨a1, a2⟩ := add_ok (l := l) (m := [r]) (by simp only [List.length_singleton]; omega) hl hr1
    cases ho : ilt r.2 r.1 with
    | true =>
      have o := ilt_iff.mp ho
      have z : subS l r = normS l := by unfold subS subG; rw [if_neg (by omega)]
      rw [decide_eq_true z] at e2
      have s3 : metS l r = false := by unfold metS; rw [decide_eq_false (by omega), Bool.false_and]
      rw [s3] at s2
      have y : normS (l ++ [r]) = normS l := (norm_eq srt_is ((r64_nn hl).app (r64_nn hr1)) (r64_nn hl)).mpr fun a => by
        have cn := @cov_nil a
        rw [cov_app, cov_cons]
        constructor
        · rintro (k | k | k)
          · exact k
          · omega
          · exact absurd k cn
        · exact .inl
      rw [y] at a2
      obtain ⟨d1, d2⟩ := same_ok (l := normS l) (m := normS l) (by omega) (by omega)
      rw [decide_eq_true rfl] at d2
      unfold pre6 fn6 tree6
      simp only [ok_ite, ok_need, ok_ret, ok_both, val_ite, val_need, val_ret, val_both, hg, ho, w1, w2, c1, c2, f1, f2, e1, e2, s1, s2, a1, a2, d1, d2, z]
      rw [z] at e1 e2
      simp [d1, d2]
    | false =>
      have o := ilt_no.mp ho
      have n4 := norm_len (subS l r ++ [r])
      rw [List.length_append, List.length_singleton] at n4
      obtain ⟨b1, b2⟩ := add_ok (l := subS l r) (m := [r]) (by simp only [List.length_singleton]; omega) (sub_64 hr hl) hr1
      rw [show normS (subS l r ++ [r]) = normS (l ++ [r]) from back_add srt_is (r64_nn hl) hr.1.1] at b2
      obtain ⟨d1, d2⟩ := same_ok (l := normS (l ++ [r])) (m := normS (l ++ [r])) (by omega) (by omega)
      rw [decide_eq_true rfl] at d2
      have s3 : metS l r = !decide (subS l r = normS l) := by
        rw [Bool.eq_iff_iff, met_iff, Bool.not_eq_true', decide_eq_false_iff_not]
        exact back_meet srt_is (r64_nn hl)
      rw [s3] at s2
      obtain ⟨t1, t2⟩ := met_ok (l := subS l r) r (by omega)
      have t3 : metS (subS l r) r = false := by
        rw [Bool.eq_false_iff, ne_eq, met_iff]
        exact back_off srt_is (r64_nn hl)
      rw [t3] at t2
      obtain ⟨u1, u2⟩ := in_ok (l := subS l r) (m := l) (by omega) (sub_64 hr hl) hl
      rw [decide_eq_true (show normS (subS l r ++ l) = normS l from back_in srt_is (r64_nn hl))] at u2
      unfold pre6 fn6 tree6
      simp only [ok_ite, ok_need, ok_ret, ok_both, val_ite, val_need, val_ret, val_both, hg, ho, w1, w2, c1, c2, f1, f2, e1, e2, s1, s2, a1, a2, b1, b2, d1, d2, t1, t2, u1, u2]
      generalize decide (subS l r = normS l) = D
      cases D <;> simp
end
end Go.Eng.RT
end
