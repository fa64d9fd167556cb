/- A part of the proof that the laws of this seat hold. Conditions: none beyond the row. -/
import Derived.Test.YtohejjhnnghieaaDoorEng2
import Derived.Shelf.Sort.Plain
import Derived.Shelf.Slices.In.SortNone
import Derived.Shelf.Slices.CompactI
import Derived.Test.YtohejjhnnghieaaDoorProg
import Derived.Ground.NamesProg
import Derived.Ground.Names2Prog
import Derived.Shelf.Lay
import Derived.Lib.Walk
import Derived.KernelRfl
import Derived.Lib.LaidTab
import Derived.Stop.LaidErr
set_option linter.unusedVariables false
set_option linter.unusedSimpArgs false
set_option linter.unusedSectionVars false
section
/- slices.Sort and slices.Compact at ints, as the engine wants them: out of the kit's laws. -/
namespace Go.Eng
open Go.Proofs Go.Sort Go.Shelf
theorem putCells_enc {α : Type} [Inhabited α] {enc : α → Value} {d : Array α} {off : Nat} {cells : Array Value} (h : off + d.size ≤ cells.size) :
    (putCells enc off d cells).toList = cells.toList.take off ++ (d.toList.map enc ++ cells.toList.drop (off + d.size)) := by
  apply List.ext_getElem?
  intro t
  unfold putCells
  rw [Array.getElem?_toList, Array.getElem?_mapIdx]
  by_cases h1 : t < off
  · rw [List.getElem?_append_left (by simp; omega), List.getElem?_take_of_lt h1, Array.getElem?_toList, Array.getElem?_eq_getElem (show t < cells.size by omega)]
    simp; omega
  · rw [List.getElem?_append_right (by simp; omega)]
    have hl : (cells.toList.take off).length = off := by simp; omega
    rw [hl]
    by_cases h2 : t < off + d.size
    · rw [List.getElem?_append_left (by simp; omega), List.getElem?_map, Array.getElem?_toList, Array.getElem?_eq_getElem (show t - off < d.size by omega), Array.getElem?_eq_getElem (show t < cells.size by omega)]
      simp only [Option.map_some]
      rw [if_pos ⟨by omega, h2⟩, getElem!_pos d (t - off) (by omega)]
    · rw [List.getElem?_append_right (by simp; omega), List.getElem?_drop]
      have : off + d.size + (t - off - (d.toList.map enc).length) = t := by simp; omega
      rw [this, Array.getElem?_toList]
      by_cases h3 : t < cells.size
      · rw [Array.getElem?_eq_getElem h3]; simp; omega
      · rw [Array.getElem?_eq_none (by omega)]; rfl
def encL (x : Int) : List Value := [.int .i64 x]
theorem encL_map (xs : List Int) : xs.flatMap encL = xs.map (Value.int .i64) := by
  induction xs with
  | nil => rfl
  | cons x xs ih => rw [List.flatMap_cons, ih]; rfl
theorem holds_ints {w : World} {blk off : Nat} {xs : List Int} {cells : Array Value} {t : TypeId} (hb : w.heap[blk]? = some (.cells cells t (0, 0)))
    (h : (cells.toList.drop off).take xs.length = xs.map (Value.int .i64)) : Holds (Value.int .i64) w blk off xs.toArray := by
  intro j hj
  have hj' : j < xs.length := by simpa using hj
  have e2 : cells[off + j]? = some (Value.int .i64 xs[j]) := by
    have := congrArg (fun l => l[j]?) h
    simp only [List.getElem?_take_of_lt hj', List.getElem?_drop, List.getElem?_map, List.getElem?_eq_getElem hj', Option.map_some] at this
    simpa using this
  refine ⟨?_, ?_⟩
  · show World.cell? w ⟨blk, off + j, none⟩ = _
    unfold World.cell?
    simp only [hb]
    rw [e2]
    simp [hj']
  · unfold World.frozen?
    simp only [hb]
    simp
theorem row_put {w : World} {blk off : Nat} {d : Array Int} {cells : Array Value} {t : TypeId} {n : Nat} (hn : d.size = n) (hb : w.heap[blk]? = some (.cells cells t (0, 0))) (hl : off + n ≤ cells.size ∨ n = 0) (q : Nat) (os : Array Obj) :
    ∃ (w1 : World) (cells' : Array Value), w1.heap[blk]? = some (.cells cells' t (0, 0)) ∧ cells'.toList = cells.toList.take off ++ (d.toList.flatMap encL ++ cells.toList.drop (off + n * 1)) ∧
        (∀ k, k ≠ blk → w1.heap[k]? = w.heap[k]?) ∧ w1.heap.size = w.heap.size ∧ w1.os = w.os ∧ w1.tape = w.tape ∧ w1.output = w.output ∧ Go.RowKit.Below w1.heap.size w1 (grow (putRow (Value.int .i64) (Sort.ahead w q) blk off d) os) := by
  subst hn
  refine ⟨putRow (Value.int .i64) w blk off d, putCells (Value.int .i64) off d cells, ?_, ?_, ?_, ?_, rfl, rfl, rfl, ?_⟩
  · show (w.heap.modify blk (onCells _))[blk]? = _
    rw [Array.getElem?_modify, if_pos rfl, hb]; rfl
  · rw [encL_map, Nat.mul_one]
    rcases hl with hl | hl
    · exact putCells_enc hl
    · have hd : d.toList = [] := by
        apply List.eq_nil_of_length_eq_zero
        simpa using hl
      have : putCells (Value.int .i64) off d cells = cells := by
        apply Array.ext
        · simp [putCells]
        · intro i h1 h2
          simp only [putCells, Array.getElem_mapIdx, hl]
          rw [if_neg (by omega)]
      rw [this, hd, hl]
      simp
  · intro k hk'
    show (w.heap.modify blk (onCells _))[k]? = _
    rw [Array.getElem?_modify, if_neg (fun h => hk' h.symm)]
  · show (w.heap.modify blk (onCells _)).size = _
    rw [Array.size_modify]
  · refine ⟨rfl, rfl, rfl, ?_, fun k hk' => ?_⟩
    · show _ ≤ ((w.heap.modify blk (onCells _)) ++ os).size
      simp [putRow, mapBlock]
    · show ((w.heap.modify blk (onCells _)) ++ os)[k]? = _
      exact Array.getElem?_append_left (xs := (putRow (Value.int .i64) w blk off d).heap) hk'
theorem encL_rep : ∀ ι (x : Int) l, RepD ι (.int .i64) x l ↔ l = encL x := fun _ _ _ => Iff.rfl
def sortInts (xs : List Int) : List Int := xs.mergeSort fun x y => decide (x ≤ y)
def sortIntsD : SortD := { c := .int .i64, cmp := none, f := sortInts, enc := encL }
def compInts (xs : List Int) : List Int := Lib.compact xs ++ List.replicate (xs.length - (Lib.compact xs).length) 0
def compLen (xs : List Int) : Nat := (Lib.compact xs).length
def compIntsD : SortD := { c := .int .i64, cmp := none, f := compInts, enc := encL, res := some compLen }
theorem compact_le (xs : List Int) : (Lib.compact xs).length ≤ xs.length := by
  unfold Lib.compact Lib.compactUpTo
  rw [List.length_map]
  exact Nat.le_trans (List.length_filter_le _ _) (by simp)
theorem size_lt {w : World} {blk : Nat} {o : Obj} (hb : w.heap[blk]? = some o) : blk < w.heap.size := (Array.getElem?_eq_some_iff.1 hb).1
theorem row_le {cells : Array Value} {off : Nat} {xs : List Int} (h : (cells.toList.drop off).take xs.length = xs.map (Value.int .i64)) : off + xs.length ≤ cells.size ∨ xs.length = 0 := by
  have := congrArg List.length h
  simp at this
  omega
variable {P : Program} {ρ : Ren}
theorem sortInts_ok (L : Lays.n189 P ρ) (e6 : ∀ args w, (callFunc (ρ.f 189) args).run P w = .ok (.enter (ρ.f 189) args) w) : SortOk P (ρ.f 189) sortIntsD := by
  refine ⟨⟨encL_rep, fun _ h => by cases h⟩, fun xs => List.length_mergeSort .., fun w => .inr ⟨e6 _ _, ?_⟩, fun w blk off cap (xs : List Int) cells t (hl : xs.length < 2 ^ 60) (hcap : xs.length ≤ cap) hb (hx : (cells.toList.drop off).take (xs.length * 1) = xs.flatMap encL) => .inr ⟨e6 _ _, ?_⟩⟩
  · refine (show Calls P (ρ.f 189) #[.slice none 0 0] w _ from Any.slices_Sort_int_none L none 0 w).mono ?_
    rintro e w' ⟨rfl, rfl⟩
    exact ⟨_, rfl, rfl, Go.RowKit.Below.refl _ _⟩
  · have hx' : (cells.toList.drop off).take xs.length = xs.map (Value.int .i64) := by
      rw [← encL_map, ← hx, Nat.mul_one]
    have key := Any.slices_Sort_int L blk off cap xs w (holds_ints hb hx') (size_lt hb) (by omega)
    refine (show Calls P (ρ.f 189) #[.slice (some ⟨blk, off, none⟩) xs.length cap] w _ from key).mono ?_
    rintro e w' ⟨rfl, n, os, rfl⟩
    refine ⟨_, rfl, rfl, ?_⟩
    exact row_put (d := (sortInts xs).toArray) (by simp [sortInts]) hb (row_le hx') n os
theorem compInts_ok (L : Lays2.n20 P ρ) (e6 : ∀ args w, (callFunc (ρ.f 20) args).run P w = .ok (.enter (ρ.f 20) args) w) : SortOk P (ρ.f 20) compIntsD := by
  refine ⟨⟨encL_rep, fun g h xs => by cases h; exact compact_le xs⟩, fun (xs : List Int) => ?_, fun w => .inr ⟨e6 _ _, ?_⟩, fun w blk off cap (xs : List Int) cells t (hl : xs.length < 2 ^ 60) (hcap : xs.length ≤ cap) hb (hx : (cells.toList.drop off).take (xs.length * 1) = xs.flatMap encL) => .inr ⟨e6 _ _, ?_⟩⟩
  · have := compact_le xs
    show (compInts xs).length = xs.length
    unfold compInts
    rw [List.length_append, List.length_replicate]
    omega
  · refine (show Calls P (ρ.f 20) #[.slice none 0 0] w _ from Any.slices_Compact_int_empty L none 0 w).mono ?_
    rintro e w' ⟨rfl, rfl⟩
    exact ⟨_, rfl, rfl, Go.RowKit.Below.refl _ _⟩
  · have hx' : (cells.toList.drop off).take xs.length = xs.map (Value.int .i64) := by
      rw [← encL_map, ← hx, Nat.mul_one]
    have key := Any.slices_Compact_int L blk off cap xs w (holds_ints hb hx') (by omega) hcap
    refine (show Calls P (ρ.f 20) #[.slice (some ⟨blk, off, none⟩) xs.length cap] w _ from key).mono ?_
    rintro e w' ⟨rfl, n, rfl⟩
    refine ⟨_, rfl, rfl, ?_⟩
    have hc := compact_le xs
    have h1 := row_put (d := (compInts xs).toArray) (n := xs.length) (by simp [compInts]; omega) hb (row_le hx') n #[]
    have e : ∀ W : World, grow W #[] = W := fun W => by unfold grow; rw [Array.append_empty]
    rw [e] at h1
    exact h1
end Go.Eng
end
section
/- slices.Sort and slices.Compact of this program's ints. -/
namespace Go.Proofs
open Go.Shelf Go.RowKit Go.Lib Go.Sort
shelf_lay Lays.n189 Nm 189 at Tryd as RUSort.lay189
shelf_lay Lays2.n20 Nm2 20 at Tryd as RUSort.lay20
end Go.Proofs
namespace Go.Eng.RU
open Go.Proofs Go.Eng Go.Shelf Go.RowKit Go.Lib Go.Sort
def srt : List Int → List Int := sortInts
def srtD : SortD := sortIntsD
def cmp : List Int → List Int := compInts
def cmpLen : List Int → Nat := compLen
def cmpD : SortD := compIntsD
theorem srt_ok : SortOk Tryd.prog 54 srtD := by
  have e6 : ∀ args w, (callFunc 54 args).run Tryd.prog w = .ok (.enter 54 args) w := enters_of Tryd.func54 (by kernel_rfl) rfl
  have e : RUSort.lay189_ren.f 189 = 54 := rfl
  have h := sortInts_ok RUSort.lay189 (by rw [e]; exact e6)
  rw [e] at h
  exact h
theorem cmp_ok : SortOk Tryd.prog 55 cmpD := by
  have e6 : ∀ args w, (callFunc 55 args).run Tryd.prog w = .ok (.enter 55 args) w := enters_of Tryd.func55 (by kernel_rfl) rfl
  have e : RUSort.lay20_ren.f 20 = 55 := rfl
  have h := compInts_ok RUSort.lay20 (by rw [e]; exact e6)
  rw [e] at h
  exact h
end Go.Eng.RU
end
section
/- The tables of this program, and that they are right. -/
namespace Go.Eng.RU
open Go.Proofs Go.Eng
set_option maxRecDepth 100000

@[reducible] def CerrorAddressString : TC := (.st .str (.st1 (.int .u64)))
@[reducible] def CboundsError : TC := (.st (.int .i64) (.st (.int .i64) (.st .bool (.st1 (.int .u8)))))
@[reducible] def CFlags : TC := (.st .bool (.st .bool (.st .bool (.st .bool (.st1 .bool)))))
abbrev DFlags : Type := (Bool × (Bool × (Bool × (Bool × Bool))))
@[reducible] def COperand : TC := (.st (.int .u8) (.st (.int .i64) (.st (.int .i64) (.st (.int .i64) (.st (.int .i64) (.st (.int .i64) (.st .bool (.st1 (.int .i64)))))))))
abbrev DOperand : Type := (Int × (Int × (Int × (Int × (Int × (Int × (Bool × Int)))))))
@[reducible] def CFacts : TC := (.st (.slice (.int .i64)) (.st (.slice (.int .i64)) (.st (.slice (.int .i64)) (.st (.int .u8) (.st (.int .u8) (.st (.int .i64) (.st (.int .i64) (.st1 .bool))))))))
abbrev DFacts : Type := ((List Int) × ((List Int) × ((List Int) × (Int × (Int × (Int × (Int × Bool)))))))
@[reducible] def Crow : TC := (.st (.int .i64) (.st .str (.st .str (.st (.int .u8) (.st (.slice (.int .u8)) (.st (.int .i64) (.st (.int .i64) (.st1 (.int .i64)))))))))
@[reducible] def CInsn : TC := (.st (.int .u8) (.st (.int .u8) (.st (.int .i64) (.st COperand (.st COperand (.st (.int .u8) (.st1 (.int .i64))))))))
abbrev DInsn : Type := (Int × (Int × (Int × (DOperand × (DOperand × (Int × Int))))))
@[reducible] def Cmaker : TC := (.st CInsn (.st (.int .i64) (.st1 CFacts)))
noncomputable def ty : TypeId → Option ATy
  | 1 => some { desc := Tryd.t1.desc, size := 1, bytes := 8, zero := (.raw .nilFunc), code := none }
  | 2 => some { desc := (.int .i64), size := 1, bytes := 8, zero := (.int .i64 0), code := (some (.int .i64)) }
  | 3 => some { desc := (.int .i64), size := 1, bytes := 8, zero := (.int .i64 0), code := (some (.int .i64)) }
  | 4 => some { desc := .bool, size := 1, bytes := 1, zero := (.bool false), code := (some .bool) }
  | 5 => some { desc := (.int .u8), size := 1, bytes := 1, zero := (.int .u8 0), code := (some (.int .u8)) }
  | 6 => some { desc := (.int .u8), size := 1, bytes := 1, zero := (.int .u8 0), code := (some (.int .u8)) }
  | 7 => some { desc := Tryd.t7.desc, size := 4, bytes := 24, zero := (.agg [1, 1, 1, 1] [(.int .i64 0), (.int .i64 0), (.bool false), (.int .u8 0)]), code := (some CboundsError) }
  | 8 => some { desc := Tryd.t7.desc, size := 4, bytes := 24, zero := (.agg [1, 1, 1, 1] [(.int .i64 0), (.int .i64 0), (.bool false), (.int .u8 0)]), code := (some CboundsError) }
  | 9 => some { desc := .string, size := 1, bytes := 16, zero := (.str ByteArray.empty), code := (some .str) }
  | 10 => some { desc := .string, size := 1, bytes := 16, zero := (.str ByteArray.empty), code := (some .str) }
  | 11 => some { desc := .string, size := 1, bytes := 16, zero := (.str ByteArray.empty), code := (some .str) }
  | 12 => some { desc := (.int .u64), size := 1, bytes := 8, zero := (.int .u64 0), code := (some (.int .u64)) }
  | 13 => some { desc := Tryd.t13.desc, size := 2, bytes := 24, zero := (.agg [1, 1] [(.str ByteArray.empty), (.int .u64 0)]), code := (some CerrorAddressString) }
  | 14 => some { desc := Tryd.t13.desc, size := 2, bytes := 24, zero := (.agg [1, 1] [(.str ByteArray.empty), (.int .u64 0)]), code := (some CerrorAddressString) }
  | 15 => some { desc := (.pointer 113), size := 1, bytes := 8, zero := (.raw (.pointer none)), code := none }
  | 16 => some { desc := (.pointer 116), size := 1, bytes := 8, zero := (.raw (.pointer none)), code := none }
  | 17 => some { desc := (.pointer 125), size := 1, bytes := 8, zero := (.raw (.pointer none)), code := none }
  | 18 => some { desc := Tryd.t18.desc, size := 1, bytes := 8, zero := (.agg [1] [(.raw (.pointer none))]), code := none }
  | 19 => some { desc := Tryd.t18.desc, size := 1, bytes := 8, zero := (.agg [1] [(.raw (.pointer none))]), code := none }
  | 20 => some { desc := Tryd.t20.desc, size := 1, bytes := 16, zero := (.raw .nilIface), code := none }
  | 21 => some { desc := (.int .i32), size := 1, bytes := 4, zero := (.int .i32 0), code := (some (.int .i32)) }
  | 22 => some { desc := Tryd.t22.desc, size := 8, bytes := 64, zero := (.agg [1, 1, 1, 1, 1, 1, 1, 1] [(.int .u8 0), (.int .i64 0), (.int .i64 0), (.int .i64 0), (.int .i64 0), (.int .i64 0), (.bool false), (.int .i64 0)]), code := (some COperand) }
  | 23 => some { desc := Tryd.t22.desc, size := 8, bytes := 64, zero := (.agg [1, 1, 1, 1, 1, 1, 1, 1] [(.int .u8 0), (.int .i64 0), (.int .i64 0), (.int .i64 0), (.int .i64 0), (.int .i64 0), (.bool false), (.int .i64 0)]), code := (some COperand) }
  | 24 => some { desc := Tryd.t24.desc, size := 21, bytes := 160, zero := (.agg [1, 1, 1, 8, 8, 1, 1] [(.int .u8 0), (.int .u8 0), (.int .i64 0), (.agg [1, 1, 1, 1, 1, 1, 1, 1] [(.int .u8 0), (.int .i64 0), (.int .i64 0), (.int .i64 0), (.int .i64 0), (.int .i64 0), (.bool false), (.int .i64 0)]), (.agg [1, 1, 1, 1, 1, 1, 1, 1] [(.int .u8 0), (.int .i64 0), (.int .i64 0), (.int .i64 0), (.int .i64 0), (.int .i64 0), (.bool false), (.int .i64 0)]), (.int .u8 0), (.int .i64 0)]), code := (some CInsn) }
  | 25 => some { desc := Tryd.t24.desc, size := 21, bytes := 160, zero := (.agg [1, 1, 1, 8, 8, 1, 1] [(.int .u8 0), (.int .u8 0), (.int .i64 0), (.agg [1, 1, 1, 1, 1, 1, 1, 1] [(.int .u8 0), (.int .i64 0), (.int .i64 0), (.int .i64 0), (.int .i64 0), (.int .i64 0), (.bool false), (.int .i64 0)]), (.agg [1, 1, 1, 1, 1, 1, 1, 1] [(.int .u8 0), (.int .i64 0), (.int .i64 0), (.int .i64 0), (.int .i64 0), (.int .i64 0), (.bool false), (.int .i64 0)]), (.int .u8 0), (.int .i64 0)]), code := (some CInsn) }
  | 26 => some { desc := Tryd.t26.desc, size := 1, bytes := 8, zero := (.raw .nilFunc), code := none }
  | 27 => some { desc := Tryd.t27.desc, size := 1, bytes := 8, zero := (.raw .nilFunc), code := none }
  | 28 => some { desc := (.slice 3), size := 1, bytes := 24, zero := (.raw (.slice none 0 0)), code := (some (.slice (.int .i64))) }
  | 29 => some { desc := Tryd.t29.desc, size := 8, bytes := 104, zero := (.agg [1, 1, 1, 1, 1, 1, 1, 1] [(.raw (.slice none 0 0)), (.raw (.slice none 0 0)), (.raw (.slice none 0 0)), (.int .u8 0), (.int .u8 0), (.int .i64 0), (.int .i64 0), (.bool false)]), code := (some CFacts) }
  | 30 => some { desc := Tryd.t29.desc, size := 8, bytes := 104, zero := (.agg [1, 1, 1, 1, 1, 1, 1, 1] [(.raw (.slice none 0 0)), (.raw (.slice none 0 0)), (.raw (.slice none 0 0)), (.int .u8 0), (.int .u8 0), (.int .i64 0), (.int .i64 0), (.bool false)]), code := (some CFacts) }
  | 31 => some { desc := Tryd.t31.desc, size := 1, bytes := 8, zero := (.raw .nilFunc), code := none }
  | 32 => some { desc := Tryd.t32.desc, size := 1, bytes := 8, zero := (.raw .nilFunc), code := none }
  | 33 => some { desc := Tryd.t33.desc, size := 5, bytes := 5, zero := (.agg [1, 1, 1, 1, 1] [(.bool false), (.bool false), (.bool false), (.bool false), (.bool false)]), code := (some CFlags) }
  | 34 => some { desc := Tryd.t33.desc, size := 5, bytes := 5, zero := (.agg [1, 1, 1, 1, 1] [(.bool false), (.bool false), (.bool false), (.bool false), (.bool false)]), code := (some CFlags) }
  | 35 => some { desc := Tryd.t35.desc, size := 1, bytes := 8, zero := (.raw .nilFunc), code := none }
  | 36 => some { desc := (.array 5 4), size := 5, bytes := 5, zero := (.arr 5 .bool (List.replicate 5 false)), code := (some (.arr 5 .bool)) }
  | 37 => some { desc := (.pointer 4), size := 1, bytes := 8, zero := (.raw (.pointer none)), code := none }
  | 38 => some { desc := (.array 5 37), size := 5, bytes := 40, zero := (.agg [1, 1, 1, 1, 1] [(.raw (.pointer none)), (.raw (.pointer none)), (.raw (.pointer none)), (.raw (.pointer none)), (.raw (.pointer none))]), code := none }
  | 39 => some { desc := (.int .u64), size := 1, bytes := 8, zero := (.int .u64 0), code := (some (.int .u64)) }
  | 40 => some { desc := Tryd.t40.desc, size := 1, bytes := 8, zero := (.raw .nilFunc), code := none }
  | 41 => some { desc := (.slice 5), size := 1, bytes := 24, zero := (.raw (.slice none 0 0)), code := (some (.slice (.int .u8))) }
  | 42 => some { desc := Tryd.t42.desc, size := 1, bytes := 8, zero := (.raw .nilFunc), code := none }
  | 43 => some { desc := Tryd.t43.desc, size := 8, bytes := 96, zero := (.agg [1, 1, 1, 1, 1, 1, 1, 1] [(.int .i64 0), (.str ByteArray.empty), (.str ByteArray.empty), (.int .u8 0), (.raw (.slice none 0 0)), (.int .i64 0), (.int .i64 0), (.int .i64 0)]), code := (some Crow) }
  | 44 => some { desc := Tryd.t43.desc, size := 8, bytes := 96, zero := (.agg [1, 1, 1, 1, 1, 1, 1, 1] [(.int .i64 0), (.str ByteArray.empty), (.str ByteArray.empty), (.int .u8 0), (.raw (.slice none 0 0)), (.int .i64 0), (.int .i64 0), (.int .i64 0)]), code := (some Crow) }
  | 46 => some { desc := Tryd.t46.desc, size := 1, bytes := 8, zero := (.raw .nilFunc), code := none }
  | 47 => some { desc := Tryd.t47.desc, size := 1, bytes := 8, zero := (.raw .nilFunc), code := none }
  | 48 => some { desc := (.slice 50), size := 1, bytes := 24, zero := (.raw (.slice none 0 0)), code := (some (.slice (.int .u64))) }
  | 49 => some { desc := Tryd.t49.desc, size := 1, bytes := 8, zero := (.raw .nilFunc), code := none }
  | 50 => some { desc := (.int .u64), size := 1, bytes := 8, zero := (.int .u64 0), code := (some (.int .u64)) }
  | 51 => some { desc := (.pointer 53), size := 1, bytes := 8, zero := (.raw (.pointer none)), code := none }
  | 52 => some { desc := Tryd.t52.desc, size := 30, bytes := 272, zero := (.agg [21, 1, 8] [(.agg [1, 1, 1, 8, 8, 1, 1] [(.int .u8 0), (.int .u8 0), (.int .i64 0), (.agg [1, 1, 1, 1, 1, 1, 1, 1] [(.int .u8 0), (.int .i64 0), (.int .i64 0), (.int .i64 0), (.int .i64 0), (.int .i64 0), (.bool false), (.int .i64 0)]), (.agg [1, 1, 1, 1, 1, 1, 1, 1] [(.int .u8 0), (.int .i64 0), (.int .i64 0), (.int .i64 0), (.int .i64 0), (.int .i64 0), (.bool false), (.int .i64 0)]), (.int .u8 0), (.int .i64 0)]), (.int .i64 0), (.agg [1, 1, 1, 1, 1, 1, 1, 1] [(.raw (.slice none 0 0)), (.raw (.slice none 0 0)), (.raw (.slice none 0 0)), (.int .u8 0), (.int .u8 0), (.int .i64 0), (.int .i64 0), (.bool false)])]), code := (some Cmaker) }
  | 53 => some { desc := Tryd.t52.desc, size := 30, bytes := 272, zero := (.agg [21, 1, 8] [(.agg [1, 1, 1, 8, 8, 1, 1] [(.int .u8 0), (.int .u8 0), (.int .i64 0), (.agg [1, 1, 1, 1, 1, 1, 1, 1] [(.int .u8 0), (.int .i64 0), (.int .i64 0), (.int .i64 0), (.int .i64 0), (.int .i64 0), (.bool false), (.int .i64 0)]), (.agg [1, 1, 1, 1, 1, 1, 1, 1] [(.int .u8 0), (.int .i64 0), (.int .i64 0), (.int .i64 0), (.int .i64 0), (.int .i64 0), (.bool false), (.int .i64 0)]), (.int .u8 0), (.int .i64 0)]), (.int .i64 0), (.agg [1, 1, 1, 1, 1, 1, 1, 1] [(.raw (.slice none 0 0)), (.raw (.slice none 0 0)), (.raw (.slice none 0 0)), (.int .u8 0), (.int .u8 0), (.int .i64 0), (.int .i64 0), (.bool false)])]), code := (some Cmaker) }
  | 54 => some { desc := Tryd.t54.desc, size := 1, bytes := 8, zero := (.raw .nilFunc), code := none }
  | 56 => some { desc := (.map 5 54), size := 1, bytes := 8, zero := (.raw (.map none)), code := none }
  | 57 => some { desc := Tryd.t57.desc, size := 1, bytes := 8, zero := (.raw .nilFunc), code := none }
  | 58 => some { desc := Tryd.t58.desc, size := 1, bytes := 8, zero := (.raw .nilFunc), code := none }
  | 59 => some { desc := Tryd.t59.desc, size := 1, bytes := 8, zero := (.raw .nilFunc), code := none }
  | 60 => some { desc := (.array 4 5), size := 4, bytes := 4, zero := (.arr 4 (.int .u8) (List.replicate 4 (0 : Int))), code := (some (.arr 4 (.int .u8))) }
  | 61 => some { desc := (.array 8 5), size := 8, bytes := 8, zero := (.arr 8 (.int .u8) (List.replicate 8 (0 : Int))), code := (some (.arr 8 (.int .u8))) }
  | 62 => some { desc := (.array 8 4), size := 8, bytes := 8, zero := (.arr 8 .bool (List.replicate 8 false)), code := (some (.arr 8 .bool)) }
  | 63 => some { desc := (.slice 44), size := 1, bytes := 24, zero := (.raw (.slice none 0 0)), code := (some (.slice Crow)) }
  | 64 => some { desc := Tryd.t64.desc, size := 1, bytes := 8, zero := (.raw .nilFunc), code := none }
  | 65 => some { desc := Tryd.t65.desc, size := 1, bytes := 8, zero := (.raw .nilFunc), code := none }
  | 66 => some { desc := Tryd.t66.desc, size := 1, bytes := 8, zero := (.raw .nilFunc), code := none }
  | 67 => some { desc := Tryd.t67.desc, size := 1, bytes := 8, zero := (.raw .nilFunc), code := none }
  | 68 => some { desc := Tryd.t68.desc, size := 1, bytes := 8, zero := (.raw .nilFunc), code := none }
  | 69 => some { desc := Tryd.t69.desc, size := 1, bytes := 8, zero := (.raw .nilFunc), code := none }
  | 70 => some { desc := Tryd.t70.desc, size := 1, bytes := 8, zero := (.raw .nilFunc), code := none }
  | 71 => some { desc := Tryd.t71.desc, size := 1, bytes := 8, zero := (.raw .nilFunc), code := none }
  | 72 => some { desc := Tryd.t72.desc, size := 1, bytes := 8, zero := (.raw .nilFunc), code := none }
  | 73 => some { desc := Tryd.t73.desc, size := 1, bytes := 8, zero := (.raw .nilFunc), code := none }
  | 74 => some { desc := Tryd.t74.desc, size := 1, bytes := 8, zero := (.raw .nilFunc), code := none }
  | 75 => some { desc := Tryd.t75.desc, size := 1, bytes := 8, zero := (.raw .nilFunc), code := none }
  | 76 => some { desc := Tryd.t76.desc, size := 1, bytes := 8, zero := (.raw .nilFunc), code := none }
  | 77 => some { desc := (.slice 23), size := 1, bytes := 24, zero := (.raw (.slice none 0 0)), code := (some (.slice COperand)) }
  | 78 => some { desc := Tryd.t78.desc, size := 1, bytes := 8, zero := (.raw .nilFunc), code := none }
  | 79 => some { desc := (.pointer 28), size := 1, bytes := 8, zero := (.raw (.pointer none)), code := none }
  | 80 => some { desc := (.pointer 3), size := 1, bytes := 8, zero := (.raw (.pointer none)), code := none }
  | 81 => some { desc := Tryd.t81.desc, size := 1, bytes := 8, zero := (.raw .nilFunc), code := none }
  | 82 => some { desc := Tryd.t82.desc, size := 1, bytes := 8, zero := (.raw .nilFunc), code := none }
  | 83 => some { desc := Tryd.t82.desc, size := 1, bytes := 8, zero := (.raw .nilFunc), code := none }
  | 84 => some { desc := Tryd.t84.desc, size := 1, bytes := 8, zero := (.raw .nilFunc), code := none }
  | 85 => some { desc := Tryd.t85.desc, size := 1, bytes := 8, zero := (.raw .nilFunc), code := none }
  | 86 => some { desc := Tryd.t86.desc, size := 1, bytes := 8, zero := (.raw .nilFunc), code := none }
  | 87 => some { desc := Tryd.t87.desc, size := 1, bytes := 8, zero := (.raw .nilFunc), code := none }
  | 88 => some { desc := Tryd.t88.desc, size := 1, bytes := 8, zero := (.raw .nilFunc), code := none }
  | 89 => some { desc := Tryd.t89.desc, size := 1, bytes := 8, zero := (.raw .nilFunc), code := none }
  | 90 => some { desc := Tryd.t90.desc, size := 1, bytes := 8, zero := (.raw .nilFunc), code := none }
  | 91 => some { desc := (.array 2 3), size := 2, bytes := 16, zero := (.arr 2 (.int .i64) (List.replicate 2 (0 : Int))), code := (some (.arr 2 (.int .i64))) }
  | 92 => some { desc := Tryd.t92.desc, size := 1, bytes := 8, zero := (.raw .nilFunc), code := none }
  | 93 => some { desc := (.int .i64), size := 1, bytes := 8, zero := (.int .i64 0), code := (some (.int .i64)) }
  | 95 => some { desc := Tryd.t95.desc, size := 1, bytes := 8, zero := (.raw .nilFunc), code := none }
  | 96 => some { desc := Tryd.t96.desc, size := 1, bytes := 8, zero := (.raw .nilFunc), code := none }
  | 97 => some { desc := Tryd.t97.desc, size := 1, bytes := 8, zero := (.raw .nilFunc), code := none }
  | 99 => some { desc := Tryd.t99.desc, size := 1, bytes := 8, zero := (.raw .nilFunc), code := none }
  | 100 => some { desc := Tryd.t100.desc, size := 1, bytes := 8, zero := (.raw .nilFunc), code := none }
  | 101 => some { desc := (.int .u32), size := 1, bytes := 4, zero := (.int .u32 0), code := (some (.int .u32)) }
  | 102 => some { desc := Tryd.t102.desc, size := 1, bytes := 8, zero := (.raw .nilFunc), code := none }
  | 103 => some { desc := (.int .u64), size := 1, bytes := 8, zero := (.int .u64 0), code := (some (.int .u64)) }
  | 104 => some { desc := Tryd.t104.desc, size := 1, bytes := 8, zero := (.raw .nilFunc), code := none }
  | 105 => some { desc := Tryd.t105.desc, size := 1, bytes := 8, zero := (.raw .nilFunc), code := none }
  | 106 => some { desc := Tryd.t106.desc, size := 1, bytes := 8, zero := (.raw .nilFunc), code := none }
  | 107 => some { desc := Tryd.t107.desc, size := 1, bytes := 8, zero := (.raw .nilFunc), code := none }
  | 108 => some { desc := (.pointer 103), size := 1, bytes := 8, zero := (.raw (.pointer none)), code := none }
  | 110 => some { desc := Tryd.t110.desc, size := 1, bytes := 8, zero := (.raw .nilFunc), code := none }
  | 111 => some { desc := Tryd.t111.desc, size := 1, bytes := 8, zero := (.raw .nilFunc), code := none }
  | 112 => some { desc := Tryd.t112.desc, size := 4, bytes := 40, zero := (.agg [1, 1, 1, 1] [(.raw (.pointer none)), (.raw (.pointer none)), (.raw (.pointer none)), (.str ByteArray.empty)]), code := none }
  | 113 => some { desc := Tryd.t112.desc, size := 4, bytes := 40, zero := (.agg [1, 1, 1, 1] [(.raw (.pointer none)), (.raw (.pointer none)), (.raw (.pointer none)), (.str ByteArray.empty)]), code := none }
  | 114 => some { desc := (.array 0 16), size := 0, bytes := 0, zero := (.agg [] []), code := none }
  | 117 => some { desc := Tryd.t117.desc, size := 1, bytes := 8, zero := (.raw .nilFunc), code := none }
  | 118 => some { desc := (.int .u8), size := 1, bytes := 1, zero := (.int .u8 0), code := (some (.int .u8)) }
  | 119 => some { desc := (.int .u8), size := 1, bytes := 1, zero := (.int .u8 0), code := (some (.int .u8)) }
  | 120 => some { desc := Tryd.t120.desc, size := 1, bytes := 8, zero := (.raw .nilFunc), code := none }
  | 121 => some { desc := (.pointer 5), size := 1, bytes := 8, zero := (.raw (.pointer none)), code := none }
  | 122 => some { desc := (.int .i32), size := 1, bytes := 4, zero := (.int .i32 0), code := (some (.int .i32)) }
  | 123 => some { desc := (.int .i32), size := 1, bytes := 4, zero := (.int .i32 0), code := (some (.int .i32)) }
  | 124 => some { desc := Tryd.t124.desc, size := 11, bytes := 48, zero := (.agg [1, 1, 1, 1, 1, 1, 1, 1, 1, 1, 1] [(.int .u64 0), (.int .u64 0), (.int .u32 0), (.int .u8 0), (.int .u8 0), (.int .u8 0), (.int .u8 0), (.raw .nilFunc), (.raw (.pointer none)), (.int .i32 0), (.int .i32 0)]), code := none }
  | 125 => some { desc := Tryd.t124.desc, size := 11, bytes := 48, zero := (.agg [1, 1, 1, 1, 1, 1, 1, 1, 1, 1, 1] [(.int .u64 0), (.int .u64 0), (.int .u32 0), (.int .u8 0), (.int .u8 0), (.int .u8 0), (.int .u8 0), (.raw .nilFunc), (.raw (.pointer none)), (.int .i32 0), (.int .i32 0)]), code := none }
  | _ => none

theorem ty_ok : ∀ t d, ty t = some d → d.ok Tryd.prog t := by
  intro t d h
  unfold ty at h
  split at h
  · cases h; exact ATy.ok_of (i := Tryd.t1) Tryd.underlying1 Tryd.type1 rfl (by kernel_rfl)
  · cases h; exact ATy.ok_of (i := Tryd.t2) Tryd.underlying2 Tryd.type2 rfl (by kernel_rfl)
  · cases h; exact ATy.ok_of (i := Tryd.t3) Tryd.underlying3 Tryd.type3 rfl (by kernel_rfl)
  · cases h; exact ATy.ok_of (i := Tryd.t4) Tryd.underlying4 Tryd.type4 rfl (by kernel_rfl)
  · cases h; exact ATy.ok_of (i := Tryd.t5) Tryd.underlying5 Tryd.type5 rfl (by kernel_rfl)
  · cases h; exact ATy.ok_of (i := Tryd.t6) Tryd.underlying6 Tryd.type6 rfl (by kernel_rfl)
  · cases h; exact ATy.ok_of (i := Tryd.t7) Tryd.underlying7 Tryd.type7 rfl (by kernel_rfl)
  · cases h; exact ATy.ok_of (i := Tryd.t8) Tryd.underlying8 Tryd.type8 rfl (by kernel_rfl)
  · cases h; exact ATy.ok_of (i := Tryd.t9) Tryd.underlying9 Tryd.type9 rfl (by kernel_rfl)
  · cases h; exact ATy.ok_of (i := Tryd.t10) Tryd.underlying10 Tryd.type10 rfl (by kernel_rfl)
  · cases h; exact ATy.ok_of (i := Tryd.t11) Tryd.underlying11 Tryd.type11 rfl (by kernel_rfl)
  · cases h; exact ATy.ok_of (i := Tryd.t12) Tryd.underlying12 Tryd.type12 rfl (by kernel_rfl)
  · cases h; exact ATy.ok_of (i := Tryd.t13) Tryd.underlying13 Tryd.type13 rfl (by kernel_rfl)
  · cases h; exact ATy.ok_of (i := Tryd.t14) Tryd.underlying14 Tryd.type14 rfl (by kernel_rfl)
  · cases h; exact ATy.ok_of (i := Tryd.t15) Tryd.underlying15 Tryd.type15 rfl (by kernel_rfl)
  · cases h; exact ATy.ok_of (i := Tryd.t16) Tryd.underlying16 Tryd.type16 rfl (by kernel_rfl)
  · cases h; exact ATy.ok_of (i := Tryd.t17) Tryd.underlying17 Tryd.type17 rfl (by kernel_rfl)
  · cases h; exact ATy.ok_of (i := Tryd.t18) Tryd.underlying18 Tryd.type18 rfl (by kernel_rfl)
  · cases h; exact ATy.ok_of (i := Tryd.t19) Tryd.underlying19 Tryd.type19 rfl (by kernel_rfl)
  · cases h; exact ATy.ok_of (i := Tryd.t20) Tryd.underlying20 Tryd.type20 rfl (by kernel_rfl)
  · cases h; exact ATy.ok_of (i := Tryd.t21) Tryd.underlying21 Tryd.type21 rfl (by kernel_rfl)
  · cases h; exact ATy.ok_of (i := Tryd.t22) Tryd.underlying22 Tryd.type22 rfl (by kernel_rfl)
  · cases h; exact ATy.ok_of (i := Tryd.t23) Tryd.underlying23 Tryd.type23 rfl (by kernel_rfl)
  · cases h; exact ATy.ok_of (i := Tryd.t24) Tryd.underlying24 Tryd.type24 rfl (by kernel_rfl)
  · cases h; exact ATy.ok_of (i := Tryd.t25) Tryd.underlying25 Tryd.type25 rfl (by kernel_rfl)
  · cases h; exact ATy.ok_of (i := Tryd.t26) Tryd.underlying26 Tryd.type26 rfl (by kernel_rfl)
  · cases h; exact ATy.ok_of (i := Tryd.t27) Tryd.underlying27 Tryd.type27 rfl (by kernel_rfl)
  · cases h; exact ATy.ok_of (i := Tryd.t28) Tryd.underlying28 Tryd.type28 rfl (by kernel_rfl)
  · cases h; exact ATy.ok_of (i := Tryd.t29) Tryd.underlying29 Tryd.type29 rfl (by kernel_rfl)
  · cases h; exact ATy.ok_of (i := Tryd.t30) Tryd.underlying30 Tryd.type30 rfl (by kernel_rfl)
  · cases h; exact ATy.ok_of (i := Tryd.t31) Tryd.underlying31 Tryd.type31 rfl (by kernel_rfl)
  · cases h; exact ATy.ok_of (i := Tryd.t32) Tryd.underlying32 Tryd.type32 rfl (by kernel_rfl)
  · cases h; exact ATy.ok_of (i := Tryd.t33) Tryd.underlying33 Tryd.type33 rfl (by kernel_rfl)
  · cases h; exact ATy.ok_of (i := Tryd.t34) Tryd.underlying34 Tryd.type34 rfl (by kernel_rfl)
  · cases h; exact ATy.ok_of (i := Tryd.t35) Tryd.underlying35 Tryd.type35 rfl (by kernel_rfl)
  · cases h; exact ATy.ok_of (i := Tryd.t36) Tryd.underlying36 Tryd.type36 rfl (by kernel_rfl)
  · cases h; exact ATy.ok_of (i := Tryd.t37) Tryd.underlying37 Tryd.type37 rfl (by kernel_rfl)
  · cases h; exact ATy.ok_of (i := Tryd.t38) Tryd.underlying38 Tryd.type38 rfl (by kernel_rfl)
  · cases h; exact ATy.ok_of (i := Tryd.t39) Tryd.underlying39 Tryd.type39 rfl (by kernel_rfl)
  · cases h; exact ATy.ok_of (i := Tryd.t40) Tryd.underlying40 Tryd.type40 rfl (by kernel_rfl)
  · cases h; exact ATy.ok_of (i := Tryd.t41) Tryd.underlying41 Tryd.type41 rfl (by kernel_rfl)
  · cases h; exact ATy.ok_of (i := Tryd.t42) Tryd.underlying42 Tryd.type42 rfl (by kernel_rfl)
  · cases h; exact ATy.ok_of (i := Tryd.t43) Tryd.underlying43 Tryd.type43 rfl (by kernel_rfl)
  · cases h; exact ATy.ok_of (i := Tryd.t44) Tryd.underlying44 Tryd.type44 rfl (by kernel_rfl)
  · cases h; exact ATy.ok_of (i := Tryd.t46) Tryd.underlying46 Tryd.type46 rfl (by kernel_rfl)
  · cases h; exact ATy.ok_of (i := Tryd.t47) Tryd.underlying47 Tryd.type47 rfl (by kernel_rfl)
  · cases h; exact ATy.ok_of (i := Tryd.t48) Tryd.underlying48 Tryd.type48 rfl (by kernel_rfl)
  · cases h; exact ATy.ok_of (i := Tryd.t49) Tryd.underlying49 Tryd.type49 rfl (by kernel_rfl)
  · cases h; exact ATy.ok_of (i := Tryd.t50) Tryd.underlying50 Tryd.type50 rfl (by kernel_rfl)
  · cases h; exact ATy.ok_of (i := Tryd.t51) Tryd.underlying51 Tryd.type51 rfl (by kernel_rfl)
  · cases h; exact ATy.ok_of (i := Tryd.t52) Tryd.underlying52 Tryd.type52 rfl (by kernel_rfl)
  · cases h; exact ATy.ok_of (i := Tryd.t53) Tryd.underlying53 Tryd.type53 rfl (by kernel_rfl)
  · cases h; exact ATy.ok_of (i := Tryd.t54) Tryd.underlying54 Tryd.type54 rfl (by kernel_rfl)
  · cases h; exact ATy.ok_of (i := Tryd.t56) Tryd.underlying56 Tryd.type56 rfl (by kernel_rfl)
  · cases h; exact ATy.ok_of (i := Tryd.t57) Tryd.underlying57 Tryd.type57 rfl (by kernel_rfl)
  · cases h; exact ATy.ok_of (i := Tryd.t58) Tryd.underlying58 Tryd.type58 rfl (by kernel_rfl)
  · cases h; exact ATy.ok_of (i := Tryd.t59) Tryd.underlying59 Tryd.type59 rfl (by kernel_rfl)
  · cases h; exact ATy.ok_of (i := Tryd.t60) Tryd.underlying60 Tryd.type60 rfl (by kernel_rfl)
  · cases h; exact ATy.ok_of (i := Tryd.t61) Tryd.underlying61 Tryd.type61 rfl (by kernel_rfl)
  · cases h; exact ATy.ok_of (i := Tryd.t62) Tryd.underlying62 Tryd.type62 rfl (by kernel_rfl)
  · cases h; exact ATy.ok_of (i := Tryd.t63) Tryd.underlying63 Tryd.type63 rfl (by kernel_rfl)
  · cases h; exact ATy.ok_of (i := Tryd.t64) Tryd.underlying64 Tryd.type64 rfl (by kernel_rfl)
  · cases h; exact ATy.ok_of (i := Tryd.t65) Tryd.underlying65 Tryd.type65 rfl (by kernel_rfl)
  · cases h; exact ATy.ok_of (i := Tryd.t66) Tryd.underlying66 Tryd.type66 rfl (by kernel_rfl)
  · cases h; exact ATy.ok_of (i := Tryd.t67) Tryd.underlying67 Tryd.type67 rfl (by kernel_rfl)
  · cases h; exact ATy.ok_of (i := Tryd.t68) Tryd.underlying68 Tryd.type68 rfl (by kernel_rfl)
  · cases h; exact ATy.ok_of (i := Tryd.t69) Tryd.underlying69 Tryd.type69 rfl (by kernel_rfl)
  · cases h; exact ATy.ok_of (i := Tryd.t70) Tryd.underlying70 Tryd.type70 rfl (by kernel_rfl)
  · cases h; exact ATy.ok_of (i := Tryd.t71) Tryd.underlying71 Tryd.type71 rfl (by kernel_rfl)
  · cases h; exact ATy.ok_of (i := Tryd.t72) Tryd.underlying72 Tryd.type72 rfl (by kernel_rfl)
  · cases h; exact ATy.ok_of (i := Tryd.t73) Tryd.underlying73 Tryd.type73 rfl (by kernel_rfl)
  · cases h; exact ATy.ok_of (i := Tryd.t74) Tryd.underlying74 Tryd.type74 rfl (by kernel_rfl)
  · cases h; exact ATy.ok_of (i := Tryd.t75) Tryd.underlying75 Tryd.type75 rfl (by kernel_rfl)
  · cases h; exact ATy.ok_of (i := Tryd.t76) Tryd.underlying76 Tryd.type76 rfl (by kernel_rfl)
  · cases h; exact ATy.ok_of (i := Tryd.t77) Tryd.underlying77 Tryd.type77 rfl (by kernel_rfl)
  · cases h; exact ATy.ok_of (i := Tryd.t78) Tryd.underlying78 Tryd.type78 rfl (by kernel_rfl)
  · cases h; exact ATy.ok_of (i := Tryd.t79) Tryd.underlying79 Tryd.type79 rfl (by kernel_rfl)
  · cases h; exact ATy.ok_of (i := Tryd.t80) Tryd.underlying80 Tryd.type80 rfl (by kernel_rfl)
  · cases h; exact ATy.ok_of (i := Tryd.t81) Tryd.underlying81 Tryd.type81 rfl (by kernel_rfl)
  · cases h; exact ATy.ok_of (i := Tryd.t82) Tryd.underlying82 Tryd.type82 rfl (by kernel_rfl)
  · cases h; exact ATy.ok_of (i := Tryd.t83) Tryd.underlying83 Tryd.type83 rfl (by kernel_rfl)
  · cases h; exact ATy.ok_of (i := Tryd.t84) Tryd.underlying84 Tryd.type84 rfl (by kernel_rfl)
  · cases h; exact ATy.ok_of (i := Tryd.t85) Tryd.underlying85 Tryd.type85 rfl (by kernel_rfl)
  · cases h; exact ATy.ok_of (i := Tryd.t86) Tryd.underlying86 Tryd.type86 rfl (by kernel_rfl)
  · cases h; exact ATy.ok_of (i := Tryd.t87) Tryd.underlying87 Tryd.type87 rfl (by kernel_rfl)
  · cases h; exact ATy.ok_of (i := Tryd.t88) Tryd.underlying88 Tryd.type88 rfl (by kernel_rfl)
  · cases h; exact ATy.ok_of (i := Tryd.t89) Tryd.underlying89 Tryd.type89 rfl (by kernel_rfl)
  · cases h; exact ATy.ok_of (i := Tryd.t90) Tryd.underlying90 Tryd.type90 rfl (by kernel_rfl)
  · cases h; exact ATy.ok_of (i := Tryd.t91) Tryd.underlying91 Tryd.type91 rfl (by kernel_rfl)
  · cases h; exact ATy.ok_of (i := Tryd.t92) Tryd.underlying92 Tryd.type92 rfl (by kernel_rfl)
  · cases h; exact ATy.ok_of (i := Tryd.t93) Tryd.underlying93 Tryd.type93 rfl (by kernel_rfl)
  · cases h; exact ATy.ok_of (i := Tryd.t95) Tryd.underlying95 Tryd.type95 rfl (by kernel_rfl)
  · cases h; exact ATy.ok_of (i := Tryd.t96) Tryd.underlying96 Tryd.type96 rfl (by kernel_rfl)
  · cases h; exact ATy.ok_of (i := Tryd.t97) Tryd.underlying97 Tryd.type97 rfl (by kernel_rfl)
  · cases h; exact ATy.ok_of (i := Tryd.t99) Tryd.underlying99 Tryd.type99 rfl (by kernel_rfl)
  · cases h; exact ATy.ok_of (i := Tryd.t100) Tryd.underlying100 Tryd.type100 rfl (by kernel_rfl)
  · cases h; exact ATy.ok_of (i := Tryd.t101) Tryd.underlying101 Tryd.type101 rfl (by kernel_rfl)
  · cases h; exact ATy.ok_of (i := Tryd.t102) Tryd.underlying102 Tryd.type102 rfl (by kernel_rfl)
  · cases h; exact ATy.ok_of (i := Tryd.t103) Tryd.underlying103 Tryd.type103 rfl (by kernel_rfl)
  · cases h; exact ATy.ok_of (i := Tryd.t104) Tryd.underlying104 Tryd.type104 rfl (by kernel_rfl)
  · cases h; exact ATy.ok_of (i := Tryd.t105) Tryd.underlying105 Tryd.type105 rfl (by kernel_rfl)
  · cases h; exact ATy.ok_of (i := Tryd.t106) Tryd.underlying106 Tryd.type106 rfl (by kernel_rfl)
  · cases h; exact ATy.ok_of (i := Tryd.t107) Tryd.underlying107 Tryd.type107 rfl (by kernel_rfl)
  · cases h; exact ATy.ok_of (i := Tryd.t108) Tryd.underlying108 Tryd.type108 rfl (by kernel_rfl)
  · cases h; exact ATy.ok_of (i := Tryd.t110) Tryd.underlying110 Tryd.type110 rfl (by kernel_rfl)
  · cases h; exact ATy.ok_of (i := Tryd.t111) Tryd.underlying111 Tryd.type111 rfl (by kernel_rfl)
  · cases h; exact ATy.ok_of (i := Tryd.t112) Tryd.underlying112 Tryd.type112 rfl (by kernel_rfl)
  · cases h; exact ATy.ok_of (i := Tryd.t113) Tryd.underlying113 Tryd.type113 rfl (by kernel_rfl)
  · cases h; exact ATy.ok_of (i := Tryd.t114) Tryd.underlying114 Tryd.type114 rfl (by kernel_rfl)
  · cases h; exact ATy.ok_of (i := Tryd.t117) Tryd.underlying117 Tryd.type117 rfl (by kernel_rfl)
  · cases h; exact ATy.ok_of (i := Tryd.t118) Tryd.underlying118 Tryd.type118 rfl (by kernel_rfl)
  · cases h; exact ATy.ok_of (i := Tryd.t119) Tryd.underlying119 Tryd.type119 rfl (by kernel_rfl)
  · cases h; exact ATy.ok_of (i := Tryd.t120) Tryd.underlying120 Tryd.type120 rfl (by kernel_rfl)
  · cases h; exact ATy.ok_of (i := Tryd.t121) Tryd.underlying121 Tryd.type121 rfl (by kernel_rfl)
  · cases h; exact ATy.ok_of (i := Tryd.t122) Tryd.underlying122 Tryd.type122 rfl (by kernel_rfl)
  · cases h; exact ATy.ok_of (i := Tryd.t123) Tryd.underlying123 Tryd.type123 rfl (by kernel_rfl)
  · cases h; exact ATy.ok_of (i := Tryd.t124) Tryd.underlying124 Tryd.type124 rfl (by kernel_rfl)
  · cases h; exact ATy.ok_of (i := Tryd.t125) Tryd.underlying125 Tryd.type125 rfl (by kernel_rfl)
  · cases h

noncomputable def fns : FuncId → Option Func
  | 3 => some Tryd.f3
  | 4 => some Tryd.f4
  | 5 => some Tryd.f5
  | 6 => some Tryd.f6
  | 7 => some Tryd.f7
  | 8 => some Tryd.f8
  | 9 => some Tryd.f9
  | 10 => some Tryd.f10
  | 11 => some Tryd.f11
  | 12 => some Tryd.f12
  | 13 => some Tryd.f13
  | 14 => some Tryd.f14
  | 15 => some Tryd.f15
  | 16 => some Tryd.f16
  | 17 => some Tryd.f17
  | 18 => some Tryd.f18
  | 19 => some Tryd.f19
  | 20 => some Tryd.f20
  | 21 => some Tryd.f21
  | 22 => some Tryd.f22
  | 23 => some Tryd.f23
  | 24 => some Tryd.f24
  | 25 => some Tryd.f25
  | 26 => some Tryd.f26
  | 27 => some Tryd.f27
  | 28 => some Tryd.f28
  | 29 => some Tryd.f29
  | 30 => some Tryd.f30
  | 31 => some Tryd.f31
  | 32 => some Tryd.f32
  | 33 => some Tryd.f33
  | 34 => some Tryd.f34
  | 35 => some Tryd.f35
  | 36 => some Tryd.f36
  | 37 => some Tryd.f37
  | 38 => some Tryd.f38
  | 39 => some Tryd.f39
  | 40 => some Tryd.f40
  | 41 => some Tryd.f41
  | 42 => some Tryd.f42
  | 43 => some Tryd.f43
  | 44 => some Tryd.f44
  | 45 => some Tryd.f45
  | 46 => some Tryd.f46
  | 47 => some Tryd.f47
  | 48 => some Tryd.f48
  | 49 => some Tryd.f49
  | 50 => some Tryd.f50
  | 51 => some Tryd.f51
  | 52 => some Tryd.f52
  | 53 => some Tryd.f53
  | 54 => some Tryd.f54
  | 55 => some Tryd.f55
  | 56 => some Tryd.f56
  | 57 => some Tryd.f57
  | 58 => some Tryd.f58
  | 59 => some Tryd.f59
  | 60 => some Tryd.f60
  | 61 => some Tryd.f61
  | 62 => some Tryd.f62
  | 63 => some Tryd.f63
  | 64 => some Tryd.f64
  | 65 => some Tryd.f65
  | 66 => some Tryd.f66
  | 67 => some Tryd.f67
  | 68 => some Tryd.f68
  | 69 => some Tryd.f69
  | 70 => some Tryd.f70
  | 71 => some Tryd.f71
  | 72 => some Tryd.f72
  | 73 => some Tryd.f73
  | 74 => some Tryd.f74
  | 75 => some Tryd.f75
  | 76 => some Tryd.f76
  | 77 => some Tryd.f77
  | 78 => some Tryd.f78
  | 79 => some Tryd.f79
  | 80 => some Tryd.f80
  | 81 => some Tryd.f81
  | 82 => some Tryd.f82
  | 83 => some Tryd.f83
  | 84 => some Tryd.f84
  | 85 => some Tryd.f85
  | 86 => some Tryd.f86
  | 87 => some Tryd.f87
  | 88 => some Tryd.f88
  | _ => none

theorem fns_ok : ∀ f fn, fns f = some fn → Tryd.prog.funcs[f]? = some fn ∧ (fn.name == "runtime.NumGoroutine") = false := by
  intro f fn h
  unfold fns at h
  split at h
  · cases h; exact ⟨Tryd.func3, by kernel_rfl⟩
  · cases h; exact ⟨Tryd.func4, by kernel_rfl⟩
  · cases h; exact ⟨Tryd.func5, by kernel_rfl⟩
  · cases h; exact ⟨Tryd.func6, by kernel_rfl⟩
  · cases h; exact ⟨Tryd.func7, by kernel_rfl⟩
  · cases h; exact ⟨Tryd.func8, by kernel_rfl⟩
  · cases h; exact ⟨Tryd.func9, by kernel_rfl⟩
  · cases h; exact ⟨Tryd.func10, by kernel_rfl⟩
  · cases h; exact ⟨Tryd.func11, by kernel_rfl⟩
  · cases h; exact ⟨Tryd.func12, by kernel_rfl⟩
  · cases h; exact ⟨Tryd.func13, by kernel_rfl⟩
  · cases h; exact ⟨Tryd.func14, by kernel_rfl⟩
  · cases h; exact ⟨Tryd.func15, by kernel_rfl⟩
  · cases h; exact ⟨Tryd.func16, by kernel_rfl⟩
  · cases h; exact ⟨Tryd.func17, by kernel_rfl⟩
  · cases h; exact ⟨Tryd.func18, by kernel_rfl⟩
  · cases h; exact ⟨Tryd.func19, by kernel_rfl⟩
  · cases h; exact ⟨Tryd.func20, by kernel_rfl⟩
  · cases h; exact ⟨Tryd.func21, by kernel_rfl⟩
  · cases h; exact ⟨Tryd.func22, by kernel_rfl⟩
  · cases h; exact ⟨Tryd.func23, by kernel_rfl⟩
  · cases h; exact ⟨Tryd.func24, by kernel_rfl⟩
  · cases h; exact ⟨Tryd.func25, by kernel_rfl⟩
  · cases h; exact ⟨Tryd.func26, by kernel_rfl⟩
  · cases h; exact ⟨Tryd.func27, by kernel_rfl⟩
  · cases h; exact ⟨Tryd.func28, by kernel_rfl⟩
  · cases h; exact ⟨Tryd.func29, by kernel_rfl⟩
  · cases h; exact ⟨Tryd.func30, by kernel_rfl⟩
  · cases h; exact ⟨Tryd.func31, by kernel_rfl⟩
  · cases h; exact ⟨Tryd.func32, by kernel_rfl⟩
  · cases h; exact ⟨Tryd.func33, by kernel_rfl⟩
  · cases h; exact ⟨Tryd.func34, by kernel_rfl⟩
  · cases h; exact ⟨Tryd.func35, by kernel_rfl⟩
  · cases h; exact ⟨Tryd.func36, by kernel_rfl⟩
  · cases h; exact ⟨Tryd.func37, by kernel_rfl⟩
  · cases h; exact ⟨Tryd.func38, by kernel_rfl⟩
  · cases h; exact ⟨Tryd.func39, by kernel_rfl⟩
  · cases h; exact ⟨Tryd.func40, by kernel_rfl⟩
  · cases h; exact ⟨Tryd.func41, by kernel_rfl⟩
  · cases h; exact ⟨Tryd.func42, by kernel_rfl⟩
  · cases h; exact ⟨Tryd.func43, by kernel_rfl⟩
  · cases h; exact ⟨Tryd.func44, by kernel_rfl⟩
  · cases h; exact ⟨Tryd.func45, by kernel_rfl⟩
  · cases h; exact ⟨Tryd.func46, by kernel_rfl⟩
  · cases h; exact ⟨Tryd.func47, by kernel_rfl⟩
  · cases h; exact ⟨Tryd.func48, by kernel_rfl⟩
  · cases h; exact ⟨Tryd.func49, by kernel_rfl⟩
  · cases h; exact ⟨Tryd.func50, by kernel_rfl⟩
  · cases h; exact ⟨Tryd.func51, by kernel_rfl⟩
  · cases h; exact ⟨Tryd.func52, by kernel_rfl⟩
  · cases h; exact ⟨Tryd.func53, by kernel_rfl⟩
  · cases h; exact ⟨Tryd.func54, by kernel_rfl⟩
  · cases h; exact ⟨Tryd.func55, by kernel_rfl⟩
  · cases h; exact ⟨Tryd.func56, by kernel_rfl⟩
  · cases h; exact ⟨Tryd.func57, by kernel_rfl⟩
  · cases h; exact ⟨Tryd.func58, by kernel_rfl⟩
  · cases h; exact ⟨Tryd.func59, by kernel_rfl⟩
  · cases h; exact ⟨Tryd.func60, by kernel_rfl⟩
  · cases h; exact ⟨Tryd.func61, by kernel_rfl⟩
  · cases h; exact ⟨Tryd.func62, by kernel_rfl⟩
  · cases h; exact ⟨Tryd.func63, by kernel_rfl⟩
  · cases h; exact ⟨Tryd.func64, by kernel_rfl⟩
  · cases h; exact ⟨Tryd.func65, by kernel_rfl⟩
  · cases h; exact ⟨Tryd.func66, by kernel_rfl⟩
  · cases h; exact ⟨Tryd.func67, by kernel_rfl⟩
  · cases h; exact ⟨Tryd.func68, by kernel_rfl⟩
  · cases h; exact ⟨Tryd.func69, by kernel_rfl⟩
  · cases h; exact ⟨Tryd.func70, by kernel_rfl⟩
  · cases h; exact ⟨Tryd.func71, by kernel_rfl⟩
  · cases h; exact ⟨Tryd.func72, by kernel_rfl⟩
  · cases h; exact ⟨Tryd.func73, by kernel_rfl⟩
  · cases h; exact ⟨Tryd.func74, by kernel_rfl⟩
  · cases h; exact ⟨Tryd.func75, by kernel_rfl⟩
  · cases h; exact ⟨Tryd.func76, by kernel_rfl⟩
  · cases h; exact ⟨Tryd.func77, by kernel_rfl⟩
  · cases h; exact ⟨Tryd.func78, by kernel_rfl⟩
  · cases h; exact ⟨Tryd.func79, by kernel_rfl⟩
  · cases h; exact ⟨Tryd.func80, by kernel_rfl⟩
  · cases h; exact ⟨Tryd.func81, by kernel_rfl⟩
  · cases h; exact ⟨Tryd.func82, by kernel_rfl⟩
  · cases h; exact ⟨Tryd.func83, by kernel_rfl⟩
  · cases h; exact ⟨Tryd.func84, by kernel_rfl⟩
  · cases h; exact ⟨Tryd.func85, by kernel_rfl⟩
  · cases h; exact ⟨Tryd.func86, by kernel_rfl⟩
  · cases h; exact ⟨Tryd.func87, by kernel_rfl⟩
  · cases h; exact ⟨Tryd.func88, by kernel_rfl⟩
  · cases h

theorem mixed : Tryd.prog.follows .mixedOrders = true := by kernel_rfl

noncomputable def glob : Nat → Option AV
  | 0 => some (.arr 4 (.int .u8) [26, 27, 28, 29])
  | 1 => some (.arr 8 (.int .u8) [8, 1, 2, 3, 4, 16, 12, 14])
  | _ => none

def sched : FuncId → Nat → Option Sch
  | 7, 2 => some (.one 1 (.one 2 (.one 0 (.one 3 (.one 4 (.one 5 (.one 6 (.one 7 (.one 8 .fin)))))))))
  | _, _ => none
def split : FuncId → Nat → Option (Nat × List Step × Nat)
  | _, _ => none
def tail : FuncId → Nat → Bool
  | 23, 3 => true
  | 24, 3 => true
  | 30, 1 => true
  | 32, 0 => true
  | 39, 0 => true
  | 41, 0 => true
  | 49, 0 => true
  | _, _ => false
def rowf : FuncId → Bool
  | 43 => true
  | _ => false
def frz : FuncId → Nat → Option Nat
  | 7, 6 => some 6
  | _, _ => none
def exact : FuncId → Bool
  | 53 => true
  | _ => false
def apart : FuncId → Bool
  | _ => false
theorem apart_ok : ∀ f, apart f = true → ApartOk Tryd.prog f := by
  intro f h
  unfold apart at h
  split at h
  · cases h
noncomputable def sort : FuncId → Option SortD
  | 54 => some srtD
  | 55 => some cmpD
  | _ => none
theorem sort_ok : ∀ f s, sort f = some s → SortOk Tryd.prog f s := by
  intro f s h
  unfold sort at h
  split at h
  · cases h; exact srt_ok
  · cases h; exact cmp_ok
  · cases h
noncomputable def env (sp : FuncId → Option Spec) (mk : FuncId → Nat → Option (List Nat)) : Env := { P := Tryd.prog, ty := ty, fns := fns, glob := glob, spec := sp, mask := mk, exact := exact, apart := apart, split := split, sched := sched, sort := sort, frz := frz, tail := tail, rows := true, rowf := rowf }
noncomputable abbrev env0 : Env := env (fun _ => none) (fun _ _ => none)
theorem valid (sp : FuncId → Option Spec) (mk : FuncId → Nat → Option (List Nat)) : (env sp mk).Valid := ⟨ty_ok, fns_ok, mixed, apart_ok, sort_ok⟩
end Go.Eng.RU
end
section
/- The two tables that facts' laws lay. -/
namespace Go.Eng.RU
open Go.Proofs Go.Eng Go.RowKit

def tabC : List Int := [8, 1, 2, 3, 4, 16, 12, 14]
def tabE : List Int := [26, 27, 28, 29]

theorem laid_two {W : World} (hL : laidMet Tryd.prog [("sundial/facts.conds", Lib.tabData .u8 tabC), ("sundial/facts.ends", Lib.tabData .u8 tabE)] W) : GlobRep env0 ⟨W, protAll W, []⟩ := by
  have h := Lib.tabIs_of_head (g := 1) (by kernel_rfl) (by kernel_rfl) Tryd.underlying61 Tryd.underlying5 (by kernel_rfl) (by kernel_rfl) hL
  have h' := Lib.tabIs_of_head (g := 0) (by kernel_rfl) (by kernel_rfl) Tryd.underlying60 Tryd.underlying5 (by kernel_rfl) (by kernel_rfl) (laidMet.tail hL)
  have hg : Tryd.prog.globalNamed "sundial/facts.conds" = some 1 := by kernel_rfl
  have hg' : Tryd.prog.globalNamed "sundial/facts.ends" = some 0 := by kernel_rfl
  unfold Lib.TabIs World.var? at h h'
  rw [hg] at h
  rw [hg'] at h'
  simp only [Option.bind_some] at h h'
  intro g v e
  have e : glob g = some v := e
  unfold glob at e
  split at e
  · cases e
    split at h'
    · rename_i cs' t fz hh
      simp only [Option.some.injEq] at h'
      subst h'
      refine ⟨(tabE.map fun z => Value.int .u8 z).toArray, t, fz, tabE.map fun z => Value.int .u8 z, hh, fun ι' => ground_ok ι' _ _ (by kernel_rfl), ?_⟩
      intro j v hj
      simpa using hj
    · cases h'
  · cases e
    split at h
    · rename_i cs' t fz hh
      simp only [Option.some.injEq] at h
      subst h
      refine ⟨(tabC.map fun z => Value.int .u8 z).toArray, t, fz, tabC.map fun z => Value.int .u8 z, hh, fun ι' => ground_ok ι' _ _ (by kernel_rfl), ?_⟩
      intro j v hj
      simpa using hj
    · cases h
  · cases e
end Go.Eng.RU
end
section
/- Functions of this program, written out. -/
namespace Go.Eng.RU
open Go.Proofs Go.Eng
set_option maxRecDepth 100000

/-! ### sundial/sundialref10.alu -/
/-! ### sundial/sundialref10.digit -/
/-! ### sundial/sundialref10.plain -/
/-! ### sundial/sundialref10.rows -/
/-! ### sundial/sundialref10.fits -/
/-! ### sundial/sundialref08.Reg -/
noncomputable def tree13 (x : Int) : Tr DOperand :=
  .ret (1, (x, ((-1), ((-1), (0, (0, (false, 0)))))))
noncomputable def fn13 (x : Int) : DOperand := (tree13 x).val
def pre13 (x : Int) : Prop := (tree13 x).ok
noncomputable def spec13 : Spec := { dom := (.st1 (.int .i64)), cod := COperand, n := 1, pre := pre13, f := fn13 }
noncomputable def need13 : FuncId → Option Spec
  | _ => none
theorem need13_ok : ∀ f sp, need13 f = some sp → SpecOk env0 f sp := by
  intro f sp h
  unfold need13 at h
  split at h
  · cases h
theorem run13 (W : Cfg) (Q : DOperand → Prop) (x : Int) : run (env need13 (fun _ _ => none)) (fun _ _ _ => none) (finS spec13 Q) W 100000 (startFr 13 Tryd.f13 (bodyOf Tryd.f13) (argsOf (.st1 (.int .i64)) x)) [] [] = (tree13 x).wp Q := by kernel_rfl
theorem ok13 : SpecOk env0 13 spec13 := SpecOk.env rfl (fun _ _ h => h) (spec_of_tree (E := (env need13 (fun _ _ => none))) (sp := spec13) (valid _ _) (fun f sp h => SpecOk.env rfl (fun _ _ h => h) (need13_ok f sp h)) (fn := Tryd.f13) (c := (bodyOf Tryd.f13)) (by kernel_rfl) (by kernel_rfl) tree13 run13 (fun _ h => Tr.gives_val h))

/-! ### sundial/sundialref08.Right -/
/-! ### sundial/sundialref10.Imm -/
/-! ### sundial/sundialref10.Vec -/
end Go.Eng.RU
end
section
/- Functions of this program, written out. -/
namespace Go.Eng.RU
open Go.Proofs Go.Eng
set_option maxRecDepth 100000

/-! ### sundial/sundialref10.find -/
/-! ### sundial/sundialref10.Right -/
/-! ### sundial/operand.Uses -/
inductive J28 where
  | h0 (v0 : (List Int)) (v1 : Int)
  | h1 (v0 : (List Int)) (v1 : Int) (v11 : Nat) (v12 : Nat) (v13 : (List Int))
noncomputable def tree28 (x : DOperand) : Tr (J28 ⊕ (List Int)) :=
  .need ((0 : Nat) < 2) <|
  .need ((1 : Nat) < 2) <|
  let y0 : (Int × (Int × (Int × (Int × (Bool × Int))))) := x.2.2
  .ret (.inl (.h0 [y0.1, y0.2.1] 0))
noncomputable def step28 (x : DOperand) : J28 → Tr (J28 ⊕ (List Int))
  | .h0 v0 v1 =>
  .ite (ilt v1 2) (
  .need ((0 : Int) ≤ v1) <|
  .need ((v1 : Int) < 2) <|
  .need (((v1).toNat : Nat) < 2) <|
  .ite ((ieq x.1 2) == true) (
  let y0 : Int := (rdc (.int .i64) v0 (v1).toNat)
  .ite ((ile 0 y0) == true) (
  .need ((0 : Nat) < 1) <|
  .need (((0 : Nat) + 1 : Nat) ≤ 1) <|
  .need (((1 : Nat) * 8 : Nat) ≤ 2 ^ 40) <|
  .need ((1 : Nat) ≤ 2 ^ 40) <|
  let y1 : Int := (iadd .i64 v1 1)
  .ret (.inl (.h1 v0 y1 1 1 [y0]))) (
  let y2 : Int := (iadd .i64 v1 1)
  .ret (.inl (.h0 v0 y2)))) (
  let y3 : Int := (iadd .i64 v1 1)
  .ret (.inl (.h0 v0 y3)))) (
  .ret (.inr ([] : List Int)))
  | .h1 v0 v1 v11 v12 v13 =>
  .ite (ilt v1 2) (
  .need ((0 : Int) ≤ v1) <|
  .need ((v1 : Int) < 2) <|
  .need (((v1).toNat : Nat) < 2) <|
  .ite ((ieq x.1 2) == true) (
  let y0 : Int := (rdc (.int .i64) v0 (v1).toNat)
  .ite ((ile 0 y0) == true) (
  .need ((0 : Nat) < 1) <|
  .need (((0 : Nat) + 1 : Nat) ≤ 1) <|
  .need ((v11 : Nat) = v12) <|
  let y1 : Nat := (v11 + 1)
  .need (((y1 : Nat) * 8 : Nat) ≤ 2 ^ 40) <|
  .need ((y1 : Nat) ≤ 2 ^ 40) <|
  let y2 : Int := (iadd .i64 v1 1)
  .ret (.inl (.h1 v0 y2 y1 y1 (v13 ++ [y0])))) (
  let y3 : Int := (iadd .i64 v1 1)
  .ret (.inl (.h1 v0 y3 v11 v12 v13)))) (
  let y4 : Int := (iadd .i64 v1 1)
  .ret (.inl (.h1 v0 y4 v11 v12 v13)))) (
  .need (((0 : Nat) + v11 : Nat) ≤ v12) <|
  .ret (.inr (v13.take v11)))
noncomputable def head28 (x : DOperand) : J28 → Head
  | .h0 v0 v1 =>
  { fr := { id := 70, kind := (.iter 4), T := [(.yld 4), (.ptr 1 [])] ++ List.replicate 7 .any ++ [(.arr 2 (.int .i64) v0), (.int .i64 v1)] ++ List.replicate 16 .any, items := [.lp (subc [1, 0, 0] (bodyOf Tryd.f70)), .blk 0], D := [], base := 5 },
    stk := [{ id := 69, kind := (.call (some 4)), T := [.any, .any, (.ptr 2 []), .any, (.raw (.slice none 0 0))] ++ List.replicate 8 .any, items := [.fin 4, .blk 0, .code (subc [1, 1] (bodyOf Tryd.f69))], D := [3], base := 2 }, { id := 62, kind := (.call (some 5)), T := List.replicate 4 .any ++ [.undef], items := [.ops (opsOf (subc [1, 0] (bodyOf Tryd.f62))) ((opsOf (subc [1, 0] (bodyOf Tryd.f62))).drop 2), .code (subc [1, 1] (bodyOf Tryd.f62))], D := [], base := 2 }, { id := 28, kind := .top, T := List.replicate 5 .any ++ [.undef], items := [.ops (opsOf (subc [1, 0] (bodyOf Tryd.f28))) ((opsOf (subc [1, 0] (bodyOf Tryd.f28))).drop 3), .code (subc [1, 1] (bodyOf Tryd.f28))], D := [], base := 0 }],
    H := [.dead, .cell true 23 (.agg [1, 1, 1, 1, 1, 1, 1, 1] [(.int .u8 x.1), (.int .i64 x.2.1), (.int .i64 x.2.2.1), (.int .i64 x.2.2.2.1), (.int .i64 x.2.2.2.2.1), (.int .i64 x.2.2.2.2.2.1), (.bool x.2.2.2.2.2.2.1), (.int .i64 x.2.2.2.2.2.2.2)]), .cell true 28 (.raw (.slice none 0 0)), .dfd, .loop .ready none 69 ([.any, .any, (.ptr 2 [])] ++ List.replicate 10 .any) [7] (subc [1, 0, 1, 0, 0] (bodyOf Tryd.f69)) (subc [1, 0, 1, 0, 1] (bodyOf Tryd.f69)) 3] }
  | .h1 v0 v1 v11 v12 v13 =>
  { fr := { id := 70, kind := (.iter 4), T := [(.yld 4), (.ptr 1 [])] ++ List.replicate 7 .any ++ [(.arr 2 (.int .i64) v0), (.int .i64 v1)] ++ List.replicate 16 .any, items := [.lp (subc [1, 0, 0] (bodyOf Tryd.f70)), .blk 0], D := [], base := 5 },
    stk := [{ id := 69, kind := (.call (some 4)), T := [.any, .any, (.ptr 2 []), .any, (.raw (.slice none 0 0))] ++ List.replicate 8 .any, items := [.fin 4, .blk 0, .code (subc [1, 1] (bodyOf Tryd.f69))], D := [3], base := 2 }, { id := 62, kind := (.call (some 5)), T := List.replicate 4 .any ++ [.undef], items := [.ops (opsOf (subc [1, 0] (bodyOf Tryd.f62))) ((opsOf (subc [1, 0] (bodyOf Tryd.f62))).drop 2), .code (subc [1, 1] (bodyOf Tryd.f62))], D := [], base := 2 }, { id := 28, kind := .top, T := List.replicate 5 .any ++ [.undef], items := [.ops (opsOf (subc [1, 0] (bodyOf Tryd.f28))) ((opsOf (subc [1, 0] (bodyOf Tryd.f28))).drop 3), .code (subc [1, 1] (bodyOf Tryd.f28))], D := [], base := 0 }],
    H := [.dead, .cell true 23 (.agg [1, 1, 1, 1, 1, 1, 1, 1] [(.int .u8 x.1), (.int .i64 x.2.1), (.int .i64 x.2.2.1), (.int .i64 x.2.2.2.1), (.int .i64 x.2.2.2.2.1), (.int .i64 x.2.2.2.2.2.1), (.bool x.2.2.2.2.2.2.1), (.int .i64 x.2.2.2.2.2.2.2)]), .cell true 28 (.osl 5 [] 1 0 v11 none), .dfd, .loop .ready none 69 ([.any, .any, (.ptr 2 [])] ++ List.replicate 10 .any) [7] (subc [1, 0, 1, 0, 0] (bodyOf Tryd.f69)) (subc [1, 0, 1, 0, 1] (bodyOf Tryd.f69)) 3, .cell true 3 (.arr v12 (.int .i64) v13)] }
noncomputable def stop28 : FuncId → Nat → Nat → Option Cut
  | 70, 0, 5 => some { tmps := [0, 1, 9, 10], loops := [(4, [2])], dead := [0], stk := [[2, 4], [4], [5]] }
  | _, _, _ => none
noncomputable def fn28 (x : DOperand) : (List Int) := endVal (TC.dflt (.slice (.int .i64))) (step28 x) (tree28 x)
def pre28 (x : DOperand) : Prop := ∃ r, Ends (step28 x) r (tree28 x)
noncomputable def spec28 : Spec := { dom := (.st1 COperand), cod := (.slice (.int .i64)), n := 1, pre := pre28, f := fn28 }
noncomputable def need28 : FuncId → Option Spec
  | _ => none
theorem need28_ok : ∀ f sp, need28 f = some sp → SpecOk env0 f sp := by
  intro f sp h
  unfold need28 at h
  split at h
  · cases h
theorem run28 (W : Cfg) (Q : (List Int) → Prop) (x : DOperand) : run (env need28 (fun _ _ => none)) stop28 (finS spec28 Q) W 100000 (startFr 28 Tryd.f28 (bodyOf Tryd.f28) (argsOf (.st1 COperand) x)) [] [] = (tree28 x).wp (kont W Q (head28 x)) := by kernel_rfl
theorem run28h0 (W : Cfg) (Q : (List Int) → Prop) (x : DOperand) (v0 : (List Int)) (v1 : Int) : run (env need28 (fun _ _ => none)) stop28 (finS spec28 Q) W 100000 (head28 x (.h0 v0 v1)).fr.enter (head28 x (.h0 v0 v1)).stk (head28 x (.h0 v0 v1)).H = (step28 x (.h0 v0 v1)).wp (kont W Q (head28 x)) := by kernel_rfl
theorem run28h1 (W : Cfg) (Q : (List Int) → Prop) (x : DOperand) (v0 : (List Int)) (v1 : Int) (v11 : Nat) (v12 : Nat) (v13 : (List Int)) : run (env need28 (fun _ _ => none)) stop28 (finS spec28 Q) W 100000 (head28 x (.h1 v0 v1 v11 v12 v13)).fr.enter (head28 x (.h1 v0 v1 v11 v12 v13)).stk (head28 x (.h1 v0 v1 v11 v12 v13)).H = (step28 x (.h1 v0 v1 v11 v12 v13)).wp (kont W Q (head28 x)) := by kernel_rfl
theorem runs28 (W : Cfg) (Q : (List Int) → Prop) (x : DOperand) : ∀ j : J28, run (env need28 (fun _ _ => none)) stop28 (finS spec28 Q) W 100000 (head28 x j).fr.enter (head28 x j).stk (head28 x j).H = (step28 x j).wp (kont W Q (head28 x))
  | .h0 v0 v1 => run28h0 W Q x v0 v1
  | .h1 v0 v1 v11 v12 v13 => run28h1 W Q x v0 v1 v11 v12 v13
theorem ok28 : SpecOk env0 28 spec28 := SpecOk.env rfl (fun _ _ h => h) (spec_of_trees (E := (env need28 (fun _ _ => none))) (sp := spec28) (valid _ _) (fun f sp h => SpecOk.env rfl (fun _ _ h => h) (need28_ok f sp h)) (fn := Tryd.f28) (c := (bodyOf Tryd.f28)) (by kernel_rfl) (by kernel_rfl) tree28 step28 head28 run28 runs28 (fun _ h => endVal_ends h))

/-! ### sundial/facts.Nought -/
noncomputable def tree9 (x : DInsn) : Tr Bool :=
  .ite (ieq x.1 9) (
  let y0 : (DOperand × (DOperand × (Int × Int))) := x.2.2.2
  let y1 : DOperand := y0.1
  let y2 : Bool := ((ieq y1.1 1) == true)
  .ite y2 (
  let y3 : DOperand := y0.2.1
  let y4 : Bool := ((ieq y3.1 1) == true)
  .ite y4 (
  let y5 : Bool := (ieq y1.2.1 y3.2.1)
  .ret y5) (
  .ret false)) (
  .ret false)) (
  .ite (ieq x.1 8) (
  let y6 : (DOperand × (DOperand × (Int × Int))) := x.2.2.2
  let y7 : DOperand := y6.1
  let y8 : Bool := ((ieq y7.1 1) == true)
  .ite y8 (
  let y9 : DOperand := y6.2.1
  let y10 : Bool := ((ieq y9.1 1) == true)
  .ite y10 (
  let y11 : Bool := (ieq y7.2.1 y9.2.1)
  .ret y11) (
  .ret false)) (
  .ret false)) (
  .ite (ieq x.1 36) (
  let y12 : (DOperand × (DOperand × (Int × Int))) := x.2.2.2
  let y13 : DOperand := y12.1
  let y14 : Bool := ((ieq y13.1 1) == true)
  .ite y14 (
  let y15 : DOperand := y12.2.1
  let y16 : Bool := ((ieq y15.1 1) == true)
  .ite y16 (
  let y17 : Bool := (ieq y13.2.1 y15.2.1)
  .ret y17) (
  .ret false)) (
  .ret false)) (
  .ret false)))
noncomputable def fn9 (x : DInsn) : Bool := (tree9 x).val
def pre9 (x : DInsn) : Prop := (tree9 x).ok
noncomputable def spec9 : Spec := { dom := (.st1 CInsn), cod := .bool, n := 1, pre := pre9, f := fn9 }
noncomputable def need9 : FuncId → Option Spec
  | _ => none
theorem need9_ok : ∀ f sp, need9 f = some sp → SpecOk env0 f sp := by
  intro f sp h
  unfold need9 at h
  split at h
  · cases h
theorem run9 (W : Cfg) (Q : Bool → Prop) (x : DInsn) : run (env need9 (fun _ _ => none)) (fun _ _ _ => none) (finS spec9 Q) W 100000 (startFr 9 Tryd.f9 (bodyOf Tryd.f9) (argsOf (.st1 CInsn) x)) [] [] = (tree9 x).wp Q := by kernel_rfl
theorem ok9 : SpecOk env0 9 spec9 := SpecOk.env rfl (fun _ _ h => h) (spec_of_tree (E := (env need9 (fun _ _ => none))) (sp := spec9) (valid _ _) (fun f sp h => SpecOk.env rfl (fun _ _ h => h) (need9_ok f sp h)) (fn := Tryd.f9) (c := (bodyOf Tryd.f9)) (by kernel_rfl) (by kernel_rfl) tree9 run9 (fun _ h => Tr.gives_val h))

/-! ### sundial/operand.Reg -/
noncomputable def tree40 (x : Int) : Tr DOperand :=
  .ret (1, (x, ((-1), ((-1), (0, (0, (false, 0)))))))
noncomputable def fn40 (x : Int) : DOperand := (tree40 x).val
def pre40 (x : Int) : Prop := (tree40 x).ok
noncomputable def spec40 : Spec := { dom := (.st1 (.int .i64)), cod := COperand, n := 1, pre := pre40, f := fn40 }
noncomputable def need40 : FuncId → Option Spec
  | _ => none
theorem need40_ok : ∀ f sp, need40 f = some sp → SpecOk env0 f sp := by
  intro f sp h
  unfold need40 at h
  split at h
  · cases h
theorem run40 (W : Cfg) (Q : DOperand → Prop) (x : Int) : run (env need40 (fun _ _ => none)) (fun _ _ _ => none) (finS spec40 Q) W 100000 (startFr 40 Tryd.f40 (bodyOf Tryd.f40) (argsOf (.st1 (.int .i64)) x)) [] [] = (tree40 x).wp Q := by kernel_rfl
theorem ok40 : SpecOk env0 40 spec40 := SpecOk.env rfl (fun _ _ h => h) (spec_of_tree (E := (env need40 (fun _ _ => none))) (sp := spec40) (valid _ _) (fun f sp h => SpecOk.env rfl (fun _ _ h => h) (need40_ok f sp h)) (fn := Tryd.f40) (c := (bodyOf Tryd.f40)) (by kernel_rfl) (by kernel_rfl) tree40 run40 (fun _ h => Tr.gives_val h))

/-! ### sundial/operand.Mem -/
noncomputable def tree64 (x : (Int × Int)) : Tr DOperand :=
  .ret (2, (0, ((imax x.1 (-1)), ((-1), (1, (x.2, (false, 0)))))))
noncomputable def fn64 (x : (Int × Int)) : DOperand := (tree64 x).val
def pre64 (x : (Int × Int)) : Prop := (tree64 x).ok
noncomputable def spec64 : Spec := { dom := (.st (.int .i64) (.st1 (.int .i64))), cod := COperand, n := 1, pre := pre64, f := fn64 }
noncomputable def need64 : FuncId → Option Spec
  | _ => none
theorem need64_ok : ∀ f sp, need64 f = some sp → SpecOk env0 f sp := by
  intro f sp h
  unfold need64 at h
  split at h
  · cases h
theorem run64 (W : Cfg) (Q : DOperand → Prop) (x : (Int × Int)) : run (env need64 (fun _ _ => none)) (fun _ _ _ => none) (finS spec64 Q) W 100000 (startFr 64 Tryd.f64 (bodyOf Tryd.f64) (argsOf (.st (.int .i64) (.st1 (.int .i64))) x)) [] [] = (tree64 x).wp Q := by kernel_rfl
theorem ok64 : SpecOk env0 64 spec64 := SpecOk.env rfl (fun _ _ h => h) (spec_of_tree (E := (env need64 (fun _ _ => none))) (sp := spec64) (valid _ _) (fun f sp h => SpecOk.env rfl (fun _ _ h => h) (need64_ok f sp h)) (fn := Tryd.f64) (c := (bodyOf Tryd.f64)) (by kernel_rfl) (by kernel_rfl) tree64 run64 (fun _ h => Tr.gives_val h))

/-! ### sundial/facts.Cond -/
noncomputable def tree10 (x : Int) : Tr Int :=
  .need ((16 : Int) ≠ 0) <|
  .need ((2 : Int) ≠ 0) <|
  let y0 : Int := (iquo .u8 (irem .u8 x 16) 2)
  .need ((0 : Int) ≤ y0) <|
  .need ((y0 : Int) < 8) <|
  let y1 : Nat := (y0).toNat
  .need ((y1 : Nat) < 8) <|
  .ret (rdc (.int .u8) [8, 1, 2, 3, 4, 16, 12, 14] y1)
noncomputable def fn10 (x : Int) : Int := (tree10 x).val
def pre10 (x : Int) : Prop := (tree10 x).ok
noncomputable def spec10 : Spec := { dom := (.st1 (.int .u8)), cod := (.int .u8), n := 1, pre := pre10, f := fn10 }
noncomputable def need10 : FuncId → Option Spec
  | _ => none
theorem need10_ok : ∀ f sp, need10 f = some sp → SpecOk env0 f sp := by
  intro f sp h
  unfold need10 at h
  split at h
  · cases h
theorem run10 (W : Cfg) (Q : Int → Prop) (x : Int) : run (env need10 (fun _ _ => none)) (fun _ _ _ => none) (finS spec10 Q) W 100000 (startFr 10 Tryd.f10 (bodyOf Tryd.f10) (argsOf (.st1 (.int .u8)) x)) [] [] = (tree10 x).wp Q := by kernel_rfl
theorem ok10 : SpecOk env0 10 spec10 := SpecOk.env rfl (fun _ _ h => h) (spec_of_tree (E := (env need10 (fun _ _ => none))) (sp := spec10) (valid _ _) (fun f sp h => SpecOk.env rfl (fun _ _ h => h) (need10_ok f sp h)) (fn := Tryd.f10) (c := (bodyOf Tryd.f10)) (by kernel_rfl) (by kernel_rfl) tree10 run10 (fun _ h => Tr.gives_val h))

/-! ### sundial/facts.rows -/
noncomputable def tree15 (_x : Unit) : Tr Unit :=
  .need ((0 : Nat) < 1) <|
  .need ((0 : Int) ≤ 0) <|
  .need (0 < (1 : Int)) <|
  .need ((0 : Nat) < 1) <|
  .need ((0 : Nat) < 1) <|
  .need ((0 : Int) ≤ 0) <|
  .need (0 < (1 : Int)) <|
  .need ((0 : Nat) < 1) <|
  .need ((0 : Nat) < 1) <|
  .need ((0 : Int) ≤ 0) <|
  .need (0 < (1 : Int)) <|
  .need ((0 : Nat) < 1) <|
  .need ((0 : Nat) < 6) <|
  .need ((1 : Nat) < 6) <|
  .need ((2 : Nat) < 6) <|
  .need ((3 : Nat) < 6) <|
  .need ((4 : Nat) < 6) <|
  .need ((5 : Nat) < 6) <|
  .need ((0 : Int) ≤ 0) <|
  .need (0 < (6 : Int)) <|
  .need ((0 : Nat) < 6) <|
  .need ((0 : Int) ≤ 1) <|
  .need (1 < (6 : Int)) <|
  .need ((1 : Nat) < 6) <|
  .need ((0 : Int) ≤ 2) <|
  .need (2 < (6 : Int)) <|
  .need ((2 : Nat) < 6) <|
  .need ((0 : Int) ≤ 3) <|
  .need (3 < (6 : Int)) <|
  .need ((3 : Nat) < 6) <|
  .need ((0 : Int) ≤ 4) <|
  .need (4 < (6 : Int)) <|
  .need ((4 : Nat) < 6) <|
  .need ((0 : Int) ≤ 5) <|
  .need (5 < (6 : Int)) <|
  .need ((5 : Nat) < 6) <|
  .need ((0 : Nat) < 2) <|
  .need ((1 : Nat) < 2) <|
  .need ((0 : Int) ≤ 0) <|
  .need (0 < (2 : Int)) <|
  .need ((0 : Nat) < 2) <|
  .need ((0 : Int) ≤ 1) <|
  .need (1 < (2 : Int)) <|
  .need ((1 : Nat) < 2) <|
  .need ((0 : Nat) < 2) <|
  .need ((1 : Nat) < 2) <|
  .need ((0 : Int) ≤ 0) <|
  .need (0 < (2 : Int)) <|
  .need ((0 : Nat) < 2) <|
  .need ((0 : Int) ≤ 1) <|
  .need (1 < (2 : Int)) <|
  .need ((1 : Nat) < 2) <|
  .need ((0 : Nat) < 2) <|
  .need ((1 : Nat) < 2) <|
  .need ((0 : Int) ≤ 0) <|
  .need (0 < (2 : Int)) <|
  .need ((0 : Nat) < 2) <|
  .need ((0 : Int) ≤ 1) <|
  .need (1 < (2 : Int)) <|
  .need ((1 : Nat) < 2) <|
  .need ((0 : Nat) < 1) <|
  .need ((0 : Int) ≤ 0) <|
  .need (0 < (1 : Int)) <|
  .need ((0 : Nat) < 1) <|
  .need ((0 : Nat) < 1) <|
  .need ((0 : Int) ≤ 0) <|
  .need (0 < (1 : Int)) <|
  .need ((0 : Nat) < 1) <|
  .need ((0 : Nat) < 3) <|
  .need ((1 : Nat) < 3) <|
  .need ((2 : Nat) < 3) <|
  .need ((0 : Int) ≤ 0) <|
  .need (0 < (3 : Int)) <|
  .need ((0 : Nat) < 3) <|
  .need ((0 : Int) ≤ 1) <|
  .need (1 < (3 : Int)) <|
  .need ((1 : Nat) < 3) <|
  .need ((0 : Int) ≤ 2) <|
  .need (2 < (3 : Int)) <|
  .need ((2 : Nat) < 3) <|
  .need ((0 : Nat) < 2) <|
  .need ((1 : Nat) < 2) <|
  .need ((0 : Int) ≤ 0) <|
  .need (0 < (2 : Int)) <|
  .need ((0 : Nat) < 2) <|
  .need ((0 : Int) ≤ 1) <|
  .need (1 < (2 : Int)) <|
  .need ((1 : Nat) < 2) <|
  .need ((0 : Nat) < 1) <|
  .need ((0 : Int) ≤ 0) <|
  .need (0 < (1 : Int)) <|
  .need ((0 : Nat) < 1) <|
  .need ((0 : Nat) < 1) <|
  .need ((0 : Int) ≤ 0) <|
  .need (0 < (1 : Int)) <|
  .need ((0 : Nat) < 1) <|
  .need ((0 : Nat) < 1) <|
  .need ((0 : Int) ≤ 0) <|
  .need (0 < (1 : Int)) <|
  .need ((0 : Nat) < 1) <|
  .need ((0 : Nat) < 1) <|
  .need ((0 : Int) ≤ 0) <|
  .need (0 < (1 : Int)) <|
  .need ((0 : Nat) < 1) <|
  .need ((0 : Nat) < 1) <|
  .need ((0 : Int) ≤ 0) <|
  .need (0 < (1 : Int)) <|
  .need ((0 : Nat) < 1) <|
  .need ((0 : Nat) < 1) <|
  .need ((0 : Int) ≤ 0) <|
  .need (0 < (1 : Int)) <|
  .need ((0 : Nat) < 1) <|
  .need ((0 : Nat) < 1) <|
  .need ((0 : Int) ≤ 0) <|
  .need (0 < (1 : Int)) <|
  .need ((0 : Nat) < 1) <|
  .need ((0 : Nat) < 1) <|
  .need ((0 : Int) ≤ 0) <|
  .need (0 < (1 : Int)) <|
  .need ((0 : Nat) < 1) <|
  .need ((0 : Nat) < 1) <|
  .need ((0 : Int) ≤ 0) <|
  .need (0 < (1 : Int)) <|
  .need ((0 : Nat) < 1) <|
  .need ((0 : Nat) < 1) <|
  .need ((0 : Int) ≤ 0) <|
  .need (0 < (1 : Int)) <|
  .need ((0 : Nat) < 1) <|
  .need ((0 : Nat) < 2) <|
  .need ((1 : Nat) < 2) <|
  .need ((0 : Int) ≤ 0) <|
  .need (0 < (2 : Int)) <|
  .need ((0 : Nat) < 2) <|
  .need ((0 : Int) ≤ 1) <|
  .need (1 < (2 : Int)) <|
  .need ((1 : Nat) < 2) <|
  .need ((0 : Nat) < 4) <|
  .need ((1 : Nat) < 4) <|
  .need ((2 : Nat) < 4) <|
  .need ((3 : Nat) < 4) <|
  .need ((0 : Int) ≤ 0) <|
  .need (0 < (4 : Int)) <|
  .need ((0 : Nat) < 4) <|
  .need ((0 : Int) ≤ 1) <|
  .need (1 < (4 : Int)) <|
  .need ((1 : Nat) < 4) <|
  .need ((0 : Int) ≤ 2) <|
  .need (2 < (4 : Int)) <|
  .need ((2 : Nat) < 4) <|
  .need ((0 : Int) ≤ 3) <|
  .need (3 < (4 : Int)) <|
  .need ((3 : Nat) < 4) <|
  .ret ()
noncomputable def fn15 (x : Unit) : Unit := (tree15 x).val
def pre15 (x : Unit) : Prop := (tree15 x).ok
noncomputable def m15 : List (AV × AV) := [((.int .u8 35), (.fn 22 [])), ((.int .u8 1), (.fn 25 [])), ((.int .u8 2), (.fn 27 [])), ((.int .u8 3), (.fn 29 [])), ((.int .u8 4), (.fn 29 [])), ((.int .u8 7), (.fn 29 [])), ((.int .u8 8), (.fn 29 [])), ((.int .u8 9), (.fn 29 [])), ((.int .u8 21), (.fn 29 [])), ((.int .u8 5), (.fn 31 [])), ((.int .u8 6), (.fn 31 [])), ((.int .u8 10), (.fn 32 [])), ((.int .u8 11), (.fn 32 [])), ((.int .u8 12), (.fn 33 [])), ((.int .u8 13), (.fn 33 [])), ((.int .u8 14), (.fn 34 [])), ((.int .u8 15), (.fn 35 [])), ((.int .u8 16), (.fn 36 [])), ((.int .u8 17), (.fn 36 [])), ((.int .u8 18), (.fn 36 [])), ((.int .u8 19), (.fn 38 [])), ((.int .u8 20), (.fn 38 [])), ((.int .u8 22), (.fn 39 [])), ((.int .u8 23), (.fn 41 [])), ((.int .u8 24), (.fn 42 [])), ((.int .u8 25), (.fn 44 [])), ((.int .u8 26), (.fn 45 [])), ((.int .u8 27), (.fn 46 [])), ((.int .u8 28), (.fn 47 [])), ((.int .u8 29), (.fn 48 [])), ((.int .u8 30), (.fn 49 [])), ((.int .u8 31), (.fn 50 [])), ((.int .u8 32), (.fn 51 [])), ((.int .u8 33), (.fn 51 [])), ((.int .u8 36), (.fn 52 [])), ((.int .u8 37), (.fn 52 [])), ((.int .u8 38), (.fn 52 [])), ((.int .u8 39), (.fn 52 []))]
noncomputable def spec15 : Spec := { dom := .unit, cod := .junk, n := 1, pre := pre15, f := fn15, own := some (.mp m15) }
noncomputable def need15 : FuncId → Option Spec
  | _ => none
theorem need15_ok : ∀ f sp, need15 f = some sp → SpecOk env0 f sp := by
  intro f sp h
  unfold need15 at h
  split at h
  · cases h
theorem run15 (W : Cfg) (Q : Unit → Prop) (x : Unit) : run (env need15 (fun _ _ => none)) (fun _ _ _ => none) (finS spec15 Q) W 100000 (startFr 15 Tryd.f15 (bodyOf Tryd.f15) (argsOf .unit x)) [] [] = (tree15 x).wp Q := by kernel_rfl
theorem ok15 : SpecOk env0 15 spec15 := SpecOk.env rfl (fun _ _ h => h) (spec_of_tree (E := (env need15 (fun _ _ => none))) (sp := spec15) (valid _ _) (fun f sp h => SpecOk.env rfl (fun _ _ h => h) (need15_ok f sp h)) (fn := Tryd.f15) (c := (bodyOf Tryd.f15)) (by kernel_rfl) (by kernel_rfl) tree15 run15 (fun _ h => Tr.gives_val h))

/-! ### cmp.isNaN[int] -/
/-! ### cmp.Less[int] -/
/-! ### math/bits.Len32 -/
/-! ### math/bits.Len64 -/
/-! ### math/bits.Len -/
/-! ### slices.nextPowerOfTwo -/
/-! ### sundial/facts.rising -/
noncomputable def tree16 (x : (List Int)) : Tr (List Int) :=
  .ite (ieq (x.length : Int) 0) (
  .both (
  .ret ([] : List Int)) (
  let y0 : Nat := (0 + x.length)
  let y1 : Bool := (ilt ((0 : Nat) : Int) ((y0 : Nat) : Int))
  .ite y1 (
  .need ((0 + 0 : Nat) ≤ 0) <|
  .need (((y0 : Nat) * 8 : Nat) ≤ 2 ^ 40) <|
  .need ((y0 : Nat) ≤ 2 ^ 40) <|
  .all fun j1 =>
  let y2 : Nat := (0 + y0)
  let y3 : Nat := (y0 + j1)
  .need ((y2 : Nat) ≤ y3) <|
  .need ((y0 : Nat) < 1152921504606846976) <|
  .need ((y2 : Nat) ≤ y3) <|
  .need ((y0 : Nat) < 1152921504606846976) <|
  let y4 : (List Int) := ((([] : List Int) ++ x) ++ (List.replicate j1 0))
  let y5 : (List Int) := (spliceL y4 0 (srt (y4.take y0)))
  let y6 : (List Int) := (y5.take y0)
  let y7 : Nat := (cmpLen y6)
  .need (((0 : Nat) + y7 : Nat) ≤ y3) <|
  let y8 : (List Int) := ((spliceL y5 0 (cmp y6)).take y7)
  .ret y8) (
  .need ((0 + 0 + x.length : Nat) ≤ 0) <|
  let y9 : Nat := (0 + y0)
  .need ((y9 : Nat) ≤ 0) <|
  .need ((y0 : Nat) < 1152921504606846976) <|
  .need ((y9 : Nat) ≤ 0) <|
  .need ((y0 : Nat) < 1152921504606846976) <|
  let y10 : (List Int) := (spliceL (List.replicate 0 (0 : Int)) 0 x)
  let y11 : (List Int) := (spliceL y10 0 (srt (y10.take y0)))
  let y12 : (List Int) := (y11.take y0)
  let y13 : Nat := (cmpLen y12)
  .need (((0 : Nat) + y13 : Nat) ≤ 0) <|
  let y14 : (List Int) := ((spliceL y11 0 (cmp y12)).take y13)
  .ret y14))) (
  let y15 : Nat := (0 + x.length)
  let y16 : Bool := (ilt ((0 : Nat) : Int) ((y15 : Nat) : Int))
  .ite y16 (
  .need ((0 + 0 : Nat) ≤ 0) <|
  .need (((y15 : Nat) * 8 : Nat) ≤ 2 ^ 40) <|
  .need ((y15 : Nat) ≤ 2 ^ 40) <|
  .all fun j1 =>
  let y17 : Nat := (0 + y15)
  let y18 : Nat := (y15 + j1)
  .need ((y17 : Nat) ≤ y18) <|
  .need ((y15 : Nat) < 1152921504606846976) <|
  .need ((y17 : Nat) ≤ y18) <|
  .need ((y15 : Nat) < 1152921504606846976) <|
  let y19 : (List Int) := ((([] : List Int) ++ x) ++ (List.replicate j1 0))
  let y20 : (List Int) := (spliceL y19 0 (srt (y19.take y15)))
  let y21 : (List Int) := (y20.take y15)
  let y22 : Nat := (cmpLen y21)
  .need (((0 : Nat) + y22 : Nat) ≤ y18) <|
  let y23 : (List Int) := ((spliceL y20 0 (cmp y21)).take y22)
  .ret y23) (
  .need ((0 + 0 + x.length : Nat) ≤ 0) <|
  let y24 : Nat := (0 + y15)
  .need ((y24 : Nat) ≤ 0) <|
  .need ((y15 : Nat) < 1152921504606846976) <|
  .need ((y24 : Nat) ≤ 0) <|
  .need ((y15 : Nat) < 1152921504606846976) <|
  let y25 : (List Int) := (spliceL (List.replicate 0 (0 : Int)) 0 x)
  let y26 : (List Int) := (spliceL y25 0 (srt (y25.take y15)))
  let y27 : (List Int) := (y26.take y15)
  let y28 : Nat := (cmpLen y27)
  .need (((0 : Nat) + y28 : Nat) ≤ 0) <|
  let y29 : (List Int) := ((spliceL y26 0 (cmp y27)).take y28)
  .ret y29))
noncomputable def fn16 (x : (List Int)) : (List Int) := (tree16 x).val
def pre16 (x : (List Int)) : Prop := (tree16 x).ok
noncomputable def spec16 : Spec := { dom := (.st1 (.slice (.int .i64))), cod := (.slice (.int .i64)), n := 1, pre := pre16, f := fn16 }
noncomputable def need16 : FuncId → Option Spec
  | _ => none
theorem need16_ok : ∀ f sp, need16 f = some sp → SpecOk env0 f sp := by
  intro f sp h
  unfold need16 at h
  split at h
  · cases h
theorem run16 (W : Cfg) (Q : (List Int) → Prop) (x : (List Int)) : run (env need16 (fun _ _ => none)) (fun _ _ _ => none) (finS spec16 Q) W 100000 (startFr 16 Tryd.f16 (bodyOf Tryd.f16) (argsOf (.st1 (.slice (.int .i64))) x)) [] [] = (tree16 x).wp Q := by kernel_rfl
theorem ok16 : SpecOk env0 16 spec16 := SpecOk.env rfl (fun _ _ h => h) (spec_of_tree (E := (env need16 (fun _ _ => none))) (sp := spec16) (valid _ _) (fun f sp h => SpecOk.env rfl (fun _ _ h => h) (need16_ok f sp h)) (fn := Tryd.f16) (c := (bodyOf Tryd.f16)) (by kernel_rfl) (by kernel_rfl) tree16 run16 (fun _ h => Tr.gives_val h))

/-! ### slices.Index[[]uint8,uint8] -/
inductive J56 where
  | h0 (v2 : Int) (v3 : Int)
noncomputable def tree56 (x : ((List Int) × Int)) : Tr (J56 ⊕ Int) :=
  .ret (.inl (.h0 (x.1.length : Int) 0))
noncomputable def step56 (x : ((List Int) × Int)) : J56 → Tr (J56 ⊕ Int)
  | .h0 v2 v3 =>
  .ite (ilt v3 v2) (
  .need ((0 : Int) ≤ v3) <|
  .need (v3 < (x.1.length : Int)) <|
  .ite (ieq x.2 (rdc (.int .u8) x.1 (v3).toNat)) (
  .ret (.inr v3)) (
  .ret (.inl (.h0 v2 (iadd .i64 v3 1))))) (
  .ret (.inr (-1)))
noncomputable def head56 (x : ((List Int) × Int)) : J56 → Head
  | .h0 v2 v3 =>
  { fr := { id := 56, kind := .top, T := [(.fsl (.int .u8) x.1), (.int .u8 x.2)] ++ List.replicate 5 .any ++ [(.int .i64 v2), (.int .i64 v3)] ++ List.replicate 10 .any, items := [.lp (subc [1, 0, 1, 0, 0] (bodyOf Tryd.f56)), .blk 0, .code (subc [1, 1] (bodyOf Tryd.f56))], D := [], base := 0 },
    stk := [],
    H := [] }
noncomputable def stop56 : FuncId → Nat → Nat → Option Cut
  | 56, 0, 0 => some { tmps := [0, 1, 7, 8], loops := [], dead := [], stk := [] }
  | _, _, _ => none
noncomputable def fn56 (x : ((List Int) × Int)) : Int := endVal (TC.dflt (.int .i64)) (step56 x) (tree56 x)
def pre56 (x : ((List Int) × Int)) : Prop := ∃ r, Ends (step56 x) r (tree56 x)
noncomputable def spec56 : Spec := { dom := (.st (.slice (.int .u8)) (.st1 (.int .u8))), cod := (.int .i64), n := 1, pre := pre56, f := fn56 }
noncomputable def need56 : FuncId → Option Spec
  | _ => none
theorem need56_ok : ∀ f sp, need56 f = some sp → SpecOk env0 f sp := by
  intro f sp h
  unfold need56 at h
  split at h
  · cases h
theorem run56 (W : Cfg) (Q : Int → Prop) (x : ((List Int) × Int)) : run (env need56 (fun _ _ => none)) stop56 (finS spec56 Q) W 100000 (startFr 56 Tryd.f56 (bodyOf Tryd.f56) (argsOf (.st (.slice (.int .u8)) (.st1 (.int .u8))) x)) [] [] = (tree56 x).wp (kont W Q (head56 x)) := by kernel_rfl
theorem run56h0 (W : Cfg) (Q : Int → Prop) (x : ((List Int) × Int)) (v2 : Int) (v3 : Int) : run (env need56 (fun _ _ => none)) stop56 (finS spec56 Q) W 100000 (head56 x (.h0 v2 v3)).fr.enter (head56 x (.h0 v2 v3)).stk (head56 x (.h0 v2 v3)).H = (step56 x (.h0 v2 v3)).wp (kont W Q (head56 x)) := by kernel_rfl
theorem runs56 (W : Cfg) (Q : Int → Prop) (x : ((List Int) × Int)) : ∀ j : J56, run (env need56 (fun _ _ => none)) stop56 (finS spec56 Q) W 100000 (head56 x j).fr.enter (head56 x j).stk (head56 x j).H = (step56 x j).wp (kont W Q (head56 x))
  | .h0 v2 v3 => run56h0 W Q x v2 v3
theorem ok56 : SpecOk env0 56 spec56 := SpecOk.env rfl (fun _ _ h => h) (spec_of_trees (E := (env need56 (fun _ _ => none))) (sp := spec56) (valid _ _) (fun f sp h => SpecOk.env rfl (fun _ _ h => h) (need56_ok f sp h)) (fn := Tryd.f56) (c := (bodyOf Tryd.f56)) (by kernel_rfl) (by kernel_rfl) tree56 step56 head56 run56 runs56 (fun _ h => endVal_ends h))

/-! ### slices.Contains[[]uint8,uint8] -/
noncomputable def tree17 (x : ((List Int) × Int)) : Tr Bool :=
  .need (pre56 x) <|
  .ret (ile 0 (fn56 x))
noncomputable def fn17 (x : ((List Int) × Int)) : Bool := (tree17 x).val
def pre17 (x : ((List Int) × Int)) : Prop := (tree17 x).ok
noncomputable def spec17 : Spec := { dom := (.st (.slice (.int .u8)) (.st1 (.int .u8))), cod := .bool, n := 1, pre := pre17, f := fn17 }
noncomputable def need17 : FuncId → Option Spec
  | 56 => some spec56
  | _ => none
theorem need17_ok : ∀ f sp, need17 f = some sp → SpecOk env0 f sp := by
  intro f sp h
  unfold need17 at h
  split at h
  · cases h; exact ok56
  · cases h
theorem run17 (W : Cfg) (Q : Bool → Prop) (x : ((List Int) × Int)) : run (env need17 (fun _ _ => none)) (fun _ _ _ => none) (finS spec17 Q) W 100000 (startFr 17 Tryd.f17 (bodyOf Tryd.f17) (argsOf (.st (.slice (.int .u8)) (.st1 (.int .u8))) x)) [] [] = (tree17 x).wp Q := by kernel_rfl
theorem ok17 : SpecOk env0 17 spec17 := SpecOk.env rfl (fun _ _ h => h) (spec_of_tree (E := (env need17 (fun _ _ => none))) (sp := spec17) (valid _ _) (fun f sp h => SpecOk.env rfl (fun _ _ h => h) (need17_ok f sp h)) (fn := Tryd.f17) (c := (bodyOf Tryd.f17)) (by kernel_rfl) (by kernel_rfl) tree17 run17 (fun _ h => Tr.gives_val h))

end Go.Eng.RU
end
