/- A part of the proof that the laws of this seat hold. Conditions: none beyond the row. -/
import Derived.Test.YtohejjhnnghieaaDoorEng2
import Derived.Shelf.Sort.Plain
import Derived.Shelf.Slices.In.SortNone
import Derived.Shelf.Slices.CompactI
import Derived.Test.YtohejjhnnghieaaDoorProg
import Derived.Ground.NamesProg
import Derived.Ground.Names2Prog
import Derived.Shelf.Lay
import Derived.Lib.Walk
import Derived.KernelRfl
import Derived.Lib.LaidTab
import Derived.Stop.LaidErr
set_option linter.unusedVariables false
set_option linter.unusedSimpArgs false
set_option linter.unusedSectionVars false
section
/- slices.Sort and slices.Compact at ints, as the engine wants them: out of the kit's laws. -/
namespace Go.Eng
open Go.Proofs Go.Sort Go.Shelf
theorem putCells_enc {α : Type} [Inhabited α] {enc : α → Value} {d : Array α} {off : Nat} {cells : Array Value} (h : off + d.size ≤ cells.size) :
    (putCells enc off d cells).toList = cells.toList.take off ++ (d.toList.map enc ++ cells.toList.drop (off + d.size)) := by
  apply List.ext_getElem?
  intro t
  unfold putCells
  rw [Array.getElem?_toList, Array.getElem?_mapIdx]
  by_cases h1 : t < off
  · rw [List.getElem?_append_left (by simp; omega), List.getElem?_take_of_lt h1, Array.getElem?_toList, Array.getElem?_eq_getElem (show t < cells.size by omega)]
    simp; omega
  · rw [List.getElem?_append_right (by simp; omega)]
    have hl : (cells.toList.take off).length = off := by simp; omega
    rw [hl]
    by_cases h2 : t < off + d.size
    · rw [List.getElem?_append_left (by simp; omega), List.getElem?_map, Array.getElem?_toList, Array.getElem?_eq_getElem (show t - off < d.size by omega), Array.getElem?_eq_getElem (show t < cells.size by omega)]
      simp only [Option.map_some]
      rw [if_pos ⟨by omega, h2⟩, getElem!_pos d (t - off) (by omega)]
    · rw [List.getElem?_append_right (by simp; omega), List.getElem?_drop]
      have : off + d.size + (t - off - (d.toList.map enc).length) = t := by simp; omega
      rw [this, Array.getElem?_toList]
      by_cases h3 : t < cells.size
      · rw [Array.getElem?_eq_getElem h3]; simp; omega
      · rw [Array.getElem?_eq_none (by omega)]; rfl
def encL (x : Int) : List Value := [.int .i64 x]
theorem encL_map (xs : List Int) : xs.flatMap encL = xs.map (Value.int .i64) := by
  induction xs with
  | nil => rfl
  | cons x xs ih => rw [List.flatMap_cons, ih]; rfl
theorem holds_ints {w : World} {blk off : Nat} {xs : List Int} {cells : Array Value} {t : TypeId} (hb : w.heap[blk]? = some (.cells cells t (0, 0)))
    (h : (cells.toList.drop off).take xs.length = xs.map (Value.int .i64)) : Holds (Value.int .i64) w blk off xs.toArray := by
  intro j hj
  have hj' : j < xs.length := by simpa using hj
  have e2 : cells[off + j]? = some (Value.int .i64 xs[j]) := by
    have := congrArg (fun l => l[j]?) h
    simp only [List.getElem?_take_of_lt hj', List.getElem?_drop, List.getElem?_map, List.getElem?_eq_getElem hj', Option.map_some] at this
    simpa using this
  refine ⟨?_, ?_⟩
  · show World.cell? w ⟨blk, off + j, none⟩ = _
    unfold World.cell?
    simp only [hb]
    rw [e2]
    simp [hj']
  · unfold World.frozen?
    simp only [hb]
    simp
theorem row_put {w : World} {blk off : Nat} {d : Array Int} {cells : Array Value} {t : TypeId} {n : Nat} (hn : d.size = n) (hb : w.heap[blk]? = some (.cells cells t (0, 0))) (hl : off + n ≤ cells.size ∨ n = 0) (q : Nat) (os : Array Obj) :
    ∃ (w1 : World) (cells' : Array Value), w1.heap[blk]? = some (.cells cells' t (0, 0)) ∧ cells'.toList = cells.toList.take off ++ (d.toList.flatMap encL ++ cells.toList.drop (off + n * 1)) ∧
        (∀ k, k ≠ blk → w1.heap[k]? = w.heap[k]?) ∧ w1.heap.size = w.heap.size ∧ w1.os = w.os ∧ w1.tape = w.tape ∧ w1.output = w.output ∧ Go.RowKit.Below w1.heap.size w1 (grow (putRow (Value.int .i64) (Sort.ahead w q) blk off d) os) := by
  subst hn
  refine ⟨putRow (Value.int .i64) w blk off d, putCells (Value.int .i64) off d cells, ?_, ?_, ?_, ?_, rfl, rfl, rfl, ?_⟩
  · show (w.heap.modify blk (onCells _))[blk]? = _
    rw [Array.getElem?_modify, if_pos rfl, hb]; rfl
  · rw [encL_map, Nat.mul_one]
    rcases hl with hl | hl
    · exact putCells_enc hl
    · have hd : d.toList = [] := by
        apply List.eq_nil_of_length_eq_zero
        simpa using hl
      have : putCells (Value.int .i64) off d cells = cells := by
        apply Array.ext
        · simp [putCells]
        · intro i h1 h2
          simp only [putCells, Array.getElem_mapIdx, hl]
          rw [if_neg (by omega)]
      rw [this, hd, hl]
      simp
  · intro k hk'
    show (w.heap.modify blk (onCells _))[k]? = _
    rw [Array.getElem?_modify, if_neg (fun h => hk' h.symm)]
  · show (w.heap.modify blk (onCells _)).size = _
    rw [Array.size_modify]
  · refine ⟨rfl, rfl, rfl, ?_, fun k hk' => ?_⟩
    · show _ ≤ ((w.heap.modify blk (onCells _)) ++ os).size
      simp [putRow, mapBlock]
    · show ((w.heap.modify blk (onCells _)) ++ os)[k]? = _
      exact Array.getElem?_append_left (xs := (putRow (Value.int .i64) w blk off d).heap) hk'
theorem encL_rep : ∀ ι (x : Int) l, RepD ι (.int .i64) x l ↔ l = encL x := fun _ _ _ => Iff.rfl
def sortInts (xs : List Int) : List Int := xs.mergeSort fun x y => decide (x ≤ y)
def sortIntsD : SortD := { c := .int .i64, cmp := none, f := sortInts, enc := encL }
def compInts (xs : List Int) : List Int := Lib.compact xs ++ List.replicate (xs.length - (Lib.compact xs).length) 0
def compLen (xs : List Int) : Nat := (Lib.compact xs).length
def compIntsD : SortD := { c := .int .i64, cmp := none, f := compInts, enc := encL, res := some compLen }
theorem compact_le (xs : List Int) : (Lib.compact xs).length ≤ xs.length := by
  unfold Lib.compact Lib.compactUpTo
  rw [List.length_map]
  exact Nat.le_trans (List.length_filter_le _ _) (by simp)
theorem size_lt {w : World} {blk : Nat} {o : Obj} (hb : w.heap[blk]? = some o) : blk < w.heap.size := (Array.getElem?_eq_some_iff.1 hb).1
theorem row_le {cells : Array Value} {off : Nat} {xs : List Int} (h : (cells.toList.drop off).take xs.length = xs.map (Value.int .i64)) : off + xs.length ≤ cells.size ∨ xs.length = 0 := by
  have := congrArg List.length h
  simp at this
  omega
variable {P : Program} {ρ : Ren}
theorem sortInts_ok (L : Lays.n189 P ρ) (e6 : ∀ args w, (callFunc (ρ.f 189) args).run P w = .ok (.enter (ρ.f 189) args) w) : SortOk P (ρ.f 189) sortIntsD := by
  refine ⟨⟨encL_rep, fun _ h => by cases h⟩, fun xs => List.length_mergeSort .., fun w => .inr ⟨e6 _ _, ?_⟩, fun w blk off cap (xs : List Int) cells t (hl : xs.length < 2 ^ 60) (hcap : xs.length ≤ cap) hb (hx : (cells.toList.drop off).take (xs.length * 1) = xs.flatMap encL) => .inr ⟨e6 _ _, ?_⟩⟩
  · refine (show Calls P (ρ.f 189) #[.slice none 0 0] w _ from Any.slices_Sort_int_none L none 0 w).mono ?_
    rintro e w' ⟨rfl, rfl⟩
    exact ⟨_, rfl, rfl, Go.RowKit.Below.refl _ _⟩
  · have hx' : (cells.toList.drop off).take xs.length = xs.map (Value.int .i64) := by
      rw [← encL_map, ← hx, Nat.mul_one]
    have key := Any.slices_Sort_int L blk off cap xs w (holds_ints hb hx') (size_lt hb) (by omega)
    refine (show Calls P (ρ.f 189) #[.slice (some ⟨blk, off, none⟩) xs.length cap] w _ from key).mono ?_
    rintro e w' ⟨rfl, n, os, rfl⟩
    refine ⟨_, rfl, rfl, ?_⟩
    exact row_put (d := (sortInts xs).toArray) (by simp [sortInts]) hb (row_le hx') n os
theorem compInts_ok (L : Lays2.n20 P ρ) (e6 : ∀ args w, (callFunc (ρ.f 20) args).run P w = .ok (.enter (ρ.f 20) args) w) : SortOk P (ρ.f 20) compIntsD := by
  refine ⟨⟨encL_rep, fun g h xs => by cases h; exact compact_le xs⟩, fun (xs : List Int) => ?_, fun w => .inr ⟨e6 _ _, ?_⟩, fun w blk off cap (xs : List Int) cells t (hl : xs.length < 2 ^ 60) (hcap : xs.length ≤ cap) hb (hx : (cells.toList.drop off).take (xs.length * 1) = xs.flatMap encL) => .inr ⟨e6 _ _, ?_⟩⟩
  · have := compact_le xs
    show (compInts xs).length = xs.length
    unfold compInts
    rw [List.length_append, List.length_replicate]
    omega
  · refine (show Calls P (ρ.f 20) #[.slice none 0 0] w _ from Any.slices_Compact_int_empty L none 0 w).mono ?_
    rintro e w' ⟨rfl, rfl⟩
    exact ⟨_, rfl, rfl, Go.RowKit.Below.refl _ _⟩
  · have hx' : (cells.toList.drop off).take xs.length = xs.map (Value.int .i64) := by
      rw [← encL_map, ← hx, Nat.mul_one]
    have key := Any.slices_Compact_int L blk off cap xs w (holds_ints hb hx') (by omega) hcap
    refine (show Calls P (ρ.f 20) #[.slice (some ⟨blk, off, none⟩) xs.length cap] w _ from key).mono ?_
    rintro e w' ⟨rfl, n, rfl⟩
    refine ⟨_, rfl, rfl, ?_⟩
    have hc := compact_le xs
    have h1 := row_put (d := (compInts xs).toArray) (n := xs.length) (by simp [compInts]; omega) hb (row_le hx') n #[]
    have e : ∀ W : World, grow W #[] = W := fun W => by unfold grow; rw [Array.append_empty]
    rw [e] at h1
    exact h1
end Go.Eng
end
section
/- slices.Sort and slices.Compact of this program's ints. -/
namespace Go.Proofs
open Go.Shelf Go.RowKit Go.Lib Go.Sort
shelf_lay Lays.n189 Nm 189 at Tryd as RUSort.lay189
shelf_lay Lays2.n20 Nm2 20 at Tryd as RUSort.lay20
end Go.Proofs
namespace Go.Eng.RU
open Go.Proofs Go.Eng Go.Shelf Go.RowKit Go.Lib Go.Sort
def srt : List Int → List Int := sortInts
def srtD : SortD := sortIntsD
def cmp : List Int → List Int := compInts
def cmpLen : List Int → Nat := compLen
def cmpD : SortD := compIntsD
theorem srt_ok : SortOk Tryd.prog 54 srtD := by
  have e6 : ∀ args w, (callFunc 54 args).run Tryd.prog w = .ok (.enter 54 args) w := enters_of Tryd.func54 (by kernel_rfl) rfl
  have e : RUSort.lay189_ren.f 189 = 54 := rfl
  have h := sortInts_ok RUSort.lay189 (by rw [e]; exact e6)
  rw [e] at h
  exact h
theorem cmp_ok : SortOk Tryd.prog 55 cmpD := by
  have e6 : ∀ args w, (callFunc 55 args).run Tryd.prog w = .ok (.enter 55 args) w := enters_of Tryd.func55 (by kernel_rfl) rfl
  have e : RUSort.lay20_ren.f 20 = 55 := rfl
  have h := compInts_ok RUSort.lay20 (by rw [e]; exact e6)
  rw [e] at h
  exact h
end Go.Eng.RU
end
section
/- The tables of this program, and that they are right. -/
namespace Go.Eng.RU
open Go.Proofs Go.Eng
set_option maxRecDepth 100000

@[reducible] def CerrorAddressString : TC := (.st .str (.st1 (.int .u64)))
@[reducible] def CboundsError : TC := (.st (.int .i64) (.st (.int .i64) (.st .bool (.st1 (.int .u8)))))
@[reducible] def CFlags : TC := (.st .bool (.st .bool (.st .bool (.st .bool (.st1 .bool)))))
@[reducible] def COperand : TC := (.st (.int .u8) (.st (.int .i64) (.st (.int .i64) (.st (.int .i64) (.st (.int .i64) (.st (.int .i64) (.st .bool (.st1 (.int .i64)))))))))
abbrev DOperand : Type := (Int × (Int × (Int × (Int × (Int × (Int × (Bool × Int)))))))
@[reducible] def CFacts : TC := (.st (.slice (.int .i64)) (.st (.slice (.int .i64)) (.st (.slice (.int .i64)) (.st (.int .u8) (.st (.int .u8) (.st (.int .i64) (.st (.int .i64) (.st1 .bool))))))))
abbrev DFacts : Type := ((List Int) × ((List Int) × ((List Int) × (Int × (Int × (Int × (Int × Bool)))))))
@[reducible] def Crow : TC := (.st (.int .i64) (.st .str (.st .str (.st (.int .u8) (.st (.slice (.int .u8)) (.st (.int .i64) (.st (.int .i64) (.st1 (.int .i64)))))))))
abbrev Drow : Type := (Int × (ByteArray × (ByteArray × (Int × ((List Int) × (Int × (Int × Int)))))))
@[reducible] def CInsn : TC := (.st (.int .u8) (.st (.int .u8) (.st (.int .i64) (.st COperand (.st COperand (.st (.int .u8) (.st1 (.int .i64))))))))
abbrev DInsn : Type := (Int × (Int × (Int × (DOperand × (DOperand × (Int × Int))))))
@[reducible] def Cmaker : TC := (.st CInsn (.st (.int .i64) (.st1 CFacts)))
noncomputable def ty : TypeId → Option ATy
  | 1 => some { desc := Tryd.t1.desc, size := 1, bytes := 8, zero := (.raw .nilFunc), code := none }
  | 2 => some { desc := (.int .i64), size := 1, bytes := 8, zero := (.int .i64 0), code := (some (.int .i64)) }
  | 3 => some { desc := (.int .i64), size := 1, bytes := 8, zero := (.int .i64 0), code := (some (.int .i64)) }
  | 4 => some { desc := .bool, size := 1, bytes := 1, zero := (.bool false), code := (some .bool) }
  | 5 => some { desc := (.int .u8), size := 1, bytes := 1, zero := (.int .u8 0), code := (some (.int .u8)) }
  | 6 => some { desc := (.int .u8), size := 1, bytes := 1, zero := (.int .u8 0), code := (some (.int .u8)) }
  | 7 => some { desc := Tryd.t7.desc, size := 4, bytes := 24, zero := (.agg [1, 1, 1, 1] [(.int .i64 0), (.int .i64 0), (.bool false), (.int .u8 0)]), code := (some CboundsError) }
  | 8 => some { desc := Tryd.t7.desc, size := 4, bytes := 24, zero := (.agg [1, 1, 1, 1] [(.int .i64 0), (.int .i64 0), (.bool false), (.int .u8 0)]), code := (some CboundsError) }
  | 9 => some { desc := .string, size := 1, bytes := 16, zero := (.str ByteArray.empty), code := (some .str) }
  | 10 => some { desc := .string, size := 1, bytes := 16, zero := (.str ByteArray.empty), code := (some .str) }
  | 11 => some { desc := .string, size := 1, bytes := 16, zero := (.str ByteArray.empty), code := (some .str) }
  | 12 => some { desc := (.int .u64), size := 1, bytes := 8, zero := (.int .u64 0), code := (some (.int .u64)) }
  | 13 => some { desc := Tryd.t13.desc, size := 2, bytes := 24, zero := (.agg [1, 1] [(.str ByteArray.empty), (.int .u64 0)]), code := (some CerrorAddressString) }
  | 14 => some { desc := Tryd.t13.desc, size := 2, bytes := 24, zero := (.agg [1, 1] [(.str ByteArray.empty), (.int .u64 0)]), code := (some CerrorAddressString) }
  | 15 => some { desc := (.pointer 113), size := 1, bytes := 8, zero := (.raw (.pointer none)), code := none }
  | 16 => some { desc := (.pointer 116), size := 1, bytes := 8, zero := (.raw (.pointer none)), code := none }
  | 17 => some { desc := (.pointer 125), size := 1, bytes := 8, zero := (.raw (.pointer none)), code := none }
  | 18 => some { desc := Tryd.t18.desc, size := 1, bytes := 8, zero := (.agg [1] [(.raw (.pointer none))]), code := none }
  | 19 => some { desc := Tryd.t18.desc, size := 1, bytes := 8, zero := (.agg [1] [(.raw (.pointer none))]), code := none }
  | 20 => some { desc := Tryd.t20.desc, size := 1, bytes := 16, zero := (.raw .nilIface), code := none }
  | 21 => some { desc := (.int .i32), size := 1, bytes := 4, zero := (.int .i32 0), code := (some (.int .i32)) }
  | 22 => some { desc := Tryd.t22.desc, size := 8, bytes := 64, zero := (.agg [1, 1, 1, 1, 1, 1, 1, 1] [(.int .u8 0), (.int .i64 0), (.int .i64 0), (.int .i64 0), (.int .i64 0), (.int .i64 0), (.bool false), (.int .i64 0)]), code := (some COperand) }
  | 23 => some { desc := Tryd.t22.desc, size := 8, bytes := 64, zero := (.agg [1, 1, 1, 1, 1, 1, 1, 1] [(.int .u8 0), (.int .i64 0), (.int .i64 0), (.int .i64 0), (.int .i64 0), (.int .i64 0), (.bool false), (.int .i64 0)]), code := (some COperand) }
  | 24 => some { desc := Tryd.t24.desc, size := 21, bytes := 160, zero := (.agg [1, 1, 1, 8, 8, 1, 1] [(.int .u8 0), (.int .u8 0), (.int .i64 0), (.agg [1, 1, 1, 1, 1, 1, 1, 1] [(.int .u8 0), (.int .i64 0), (.int .i64 0), (.int .i64 0), (.int .i64 0), (.int .i64 0), (.bool false), (.int .i64 0)]), (.agg [1, 1, 1, 1, 1, 1, 1, 1] [(.int .u8 0), (.int .i64 0), (.int .i64 0), (.int .i64 0), (.int .i64 0), (.int .i64 0), (.bool false), (.int .i64 0)]), (.int .u8 0), (.int .i64 0)]), code := (some CInsn) }
  | 25 => some { desc := Tryd.t24.desc, size := 21, bytes := 160, zero := (.agg [1, 1, 1, 8, 8, 1, 1] [(.int .u8 0), (.int .u8 0), (.int .i64 0), (.agg [1, 1, 1, 1, 1, 1, 1, 1] [(.int .u8 0), (.int .i64 0), (.int .i64 0), (.int .i64 0), (.int .i64 0), (.int .i64 0), (.bool false), (.int .i64 0)]), (.agg [1, 1, 1, 1, 1, 1, 1, 1] [(.int .u8 0), (.int .i64 0), (.int .i64 0), (.int .i64 0), (.int .i64 0), (.int .i64 0), (.bool false), (.int .i64 0)]), (.int .u8 0), (.int .i64 0)]), code := (some CInsn) }
  | 26 => some { desc := Tryd.t26.desc, size := 1, bytes := 8, zero := (.raw .nilFunc), code := none }
  | 27 => some { desc := Tryd.t27.desc, size := 1, bytes := 8, zero := (.raw .nilFunc), code := none }
  | 28 => some { desc := (.slice 3), size := 1, bytes := 24, zero := (.raw (.slice none 0 0)), code := (some (.slice (.int .i64))) }
  | 29 => some { desc := Tryd.t29.desc, size := 8, bytes := 104, zero := (.agg [1, 1, 1, 1, 1, 1, 1, 1] [(.raw (.slice none 0 0)), (.raw (.slice none 0 0)), (.raw (.slice none 0 0)), (.int .u8 0), (.int .u8 0), (.int .i64 0), (.int .i64 0), (.bool false)]), code := (some CFacts) }
  | 30 => some { desc := Tryd.t29.desc, size := 8, bytes := 104, zero := (.agg [1, 1, 1, 1, 1, 1, 1, 1] [(.raw (.slice none 0 0)), (.raw (.slice none 0 0)), (.raw (.slice none 0 0)), (.int .u8 0), (.int .u8 0), (.int .i64 0), (.int .i64 0), (.bool false)]), code := (some CFacts) }
  | 31 => some { desc := Tryd.t31.desc, size := 1, bytes := 8, zero := (.raw .nilFunc), code := none }
  | 32 => some { desc := Tryd.t32.desc, size := 1, bytes := 8, zero := (.raw .nilFunc), code := none }
  | 33 => some { desc := Tryd.t33.desc, size := 5, bytes := 5, zero := (.agg [1, 1, 1, 1, 1] [(.bool false), (.bool false), (.bool false), (.bool false), (.bool false)]), code := (some CFlags) }
  | 34 => some { desc := Tryd.t33.desc, size := 5, bytes := 5, zero := (.agg [1, 1, 1, 1, 1] [(.bool false), (.bool false), (.bool false), (.bool false), (.bool false)]), code := (some CFlags) }
  | 35 => some { desc := Tryd.t35.desc, size := 1, bytes := 8, zero := (.raw .nilFunc), code := none }
  | 36 => some { desc := (.array 5 4), size := 5, bytes := 5, zero := (.arr 5 .bool (List.replicate 5 false)), code := (some (.arr 5 .bool)) }
  | 37 => some { desc := (.pointer 4), size := 1, bytes := 8, zero := (.raw (.pointer none)), code := none }
  | 38 => some { desc := (.array 5 37), size := 5, bytes := 40, zero := (.agg [1, 1, 1, 1, 1] [(.raw (.pointer none)), (.raw (.pointer none)), (.raw (.pointer none)), (.raw (.pointer none)), (.raw (.pointer none))]), code := none }
  | 39 => some { desc := (.int .u64), size := 1, bytes := 8, zero := (.int .u64 0), code := (some (.int .u64)) }
  | 40 => some { desc := Tryd.t40.desc, size := 1, bytes := 8, zero := (.raw .nilFunc), code := none }
  | 41 => some { desc := (.slice 5), size := 1, bytes := 24, zero := (.raw (.slice none 0 0)), code := (some (.slice (.int .u8))) }
  | 42 => some { desc := Tryd.t42.desc, size := 1, bytes := 8, zero := (.raw .nilFunc), code := none }
  | 43 => some { desc := Tryd.t43.desc, size := 8, bytes := 96, zero := (.agg [1, 1, 1, 1, 1, 1, 1, 1] [(.int .i64 0), (.str ByteArray.empty), (.str ByteArray.empty), (.int .u8 0), (.raw (.slice none 0 0)), (.int .i64 0), (.int .i64 0), (.int .i64 0)]), code := (some Crow) }
  | 44 => some { desc := Tryd.t43.desc, size := 8, bytes := 96, zero := (.agg [1, 1, 1, 1, 1, 1, 1, 1] [(.int .i64 0), (.str ByteArray.empty), (.str ByteArray.empty), (.int .u8 0), (.raw (.slice none 0 0)), (.int .i64 0), (.int .i64 0), (.int .i64 0)]), code := (some Crow) }
  | 46 => some { desc := Tryd.t46.desc, size := 1, bytes := 8, zero := (.raw .nilFunc), code := none }
  | 47 => some { desc := Tryd.t47.desc, size := 1, bytes := 8, zero := (.raw .nilFunc), code := none }
  | 48 => some { desc := (.slice 50), size := 1, bytes := 24, zero := (.raw (.slice none 0 0)), code := (some (.slice (.int .u64))) }
  | 49 => some { desc := Tryd.t49.desc, size := 1, bytes := 8, zero := (.raw .nilFunc), code := none }
  | 50 => some { desc := (.int .u64), size := 1, bytes := 8, zero := (.int .u64 0), code := (some (.int .u64)) }
  | 51 => some { desc := (.pointer 53), size := 1, bytes := 8, zero := (.raw (.pointer none)), code := none }
  | 52 => some { desc := Tryd.t52.desc, size := 30, bytes := 272, zero := (.agg [21, 1, 8] [(.agg [1, 1, 1, 8, 8, 1, 1] [(.int .u8 0), (.int .u8 0), (.int .i64 0), (.agg [1, 1, 1, 1, 1, 1, 1, 1] [(.int .u8 0), (.int .i64 0), (.int .i64 0), (.int .i64 0), (.int .i64 0), (.int .i64 0), (.bool false), (.int .i64 0)]), (.agg [1, 1, 1, 1, 1, 1, 1, 1] [(.int .u8 0), (.int .i64 0), (.int .i64 0), (.int .i64 0), (.int .i64 0), (.int .i64 0), (.bool false), (.int .i64 0)]), (.int .u8 0), (.int .i64 0)]), (.int .i64 0), (.agg [1, 1, 1, 1, 1, 1, 1, 1] [(.raw (.slice none 0 0)), (.raw (.slice none 0 0)), (.raw (.slice none 0 0)), (.int .u8 0), (.int .u8 0), (.int .i64 0), (.int .i64 0), (.bool false)])]), code := (some Cmaker) }
  | 53 => some { desc := Tryd.t52.desc, size := 30, bytes := 272, zero := (.agg [21, 1, 8] [(.agg [1, 1, 1, 8, 8, 1, 1] [(.int .u8 0), (.int .u8 0), (.int .i64 0), (.agg [1, 1, 1, 1, 1, 1, 1, 1] [(.int .u8 0), (.int .i64 0), (.int .i64 0), (.int .i64 0), (.int .i64 0), (.int .i64 0), (.bool false), (.int .i64 0)]), (.agg [1, 1, 1, 1, 1, 1, 1, 1] [(.int .u8 0), (.int .i64 0), (.int .i64 0), (.int .i64 0), (.int .i64 0), (.int .i64 0), (.bool false), (.int .i64 0)]), (.int .u8 0), (.int .i64 0)]), (.int .i64 0), (.agg [1, 1, 1, 1, 1, 1, 1, 1] [(.raw (.slice none 0 0)), (.raw (.slice none 0 0)), (.raw (.slice none 0 0)), (.int .u8 0), (.int .u8 0), (.int .i64 0), (.int .i64 0), (.bool false)])]), code := (some Cmaker) }
  | 54 => some { desc := Tryd.t54.desc, size := 1, bytes := 8, zero := (.raw .nilFunc), code := none }
  | 56 => some { desc := (.map 5 54), size := 1, bytes := 8, zero := (.raw (.map none)), code := none }
  | 57 => some { desc := Tryd.t57.desc, size := 1, bytes := 8, zero := (.raw .nilFunc), code := none }
  | 58 => some { desc := Tryd.t58.desc, size := 1, bytes := 8, zero := (.raw .nilFunc), code := none }
  | 59 => some { desc := Tryd.t59.desc, size := 1, bytes := 8, zero := (.raw .nilFunc), code := none }
  | 60 => some { desc := (.array 4 5), size := 4, bytes := 4, zero := (.arr 4 (.int .u8) (List.replicate 4 (0 : Int))), code := (some (.arr 4 (.int .u8))) }
  | 61 => some { desc := (.array 8 5), size := 8, bytes := 8, zero := (.arr 8 (.int .u8) (List.replicate 8 (0 : Int))), code := (some (.arr 8 (.int .u8))) }
  | 62 => some { desc := (.array 8 4), size := 8, bytes := 8, zero := (.arr 8 .bool (List.replicate 8 false)), code := (some (.arr 8 .bool)) }
  | 63 => some { desc := (.slice 44), size := 1, bytes := 24, zero := (.raw (.slice none 0 0)), code := (some (.slice Crow)) }
  | 64 => some { desc := Tryd.t64.desc, size := 1, bytes := 8, zero := (.raw .nilFunc), code := none }
  | 65 => some { desc := Tryd.t65.desc, size := 1, bytes := 8, zero := (.raw .nilFunc), code := none }
  | 66 => some { desc := Tryd.t66.desc, size := 1, bytes := 8, zero := (.raw .nilFunc), code := none }
  | 67 => some { desc := Tryd.t67.desc, size := 1, bytes := 8, zero := (.raw .nilFunc), code := none }
  | 68 => some { desc := Tryd.t68.desc, size := 1, bytes := 8, zero := (.raw .nilFunc), code := none }
  | 69 => some { desc := Tryd.t69.desc, size := 1, bytes := 8, zero := (.raw .nilFunc), code := none }
  | 70 => some { desc := Tryd.t70.desc, size := 1, bytes := 8, zero := (.raw .nilFunc), code := none }
  | 71 => some { desc := Tryd.t71.desc, size := 1, bytes := 8, zero := (.raw .nilFunc), code := none }
  | 72 => some { desc := Tryd.t72.desc, size := 1, bytes := 8, zero := (.raw .nilFunc), code := none }
  | 73 => some { desc := Tryd.t73.desc, size := 1, bytes := 8, zero := (.raw .nilFunc), code := none }
  | 74 => some { desc := Tryd.t74.desc, size := 1, bytes := 8, zero := (.raw .nilFunc), code := none }
  | 75 => some { desc := Tryd.t75.desc, size := 1, bytes := 8, zero := (.raw .nilFunc), code := none }
  | 76 => some { desc := Tryd.t76.desc, size := 1, bytes := 8, zero := (.raw .nilFunc), code := none }
  | 77 => some { desc := (.slice 23), size := 1, bytes := 24, zero := (.raw (.slice none 0 0)), code := (some (.slice COperand)) }
  | 78 => some { desc := Tryd.t78.desc, size := 1, bytes := 8, zero := (.raw .nilFunc), code := none }
  | 79 => some { desc := (.pointer 28), size := 1, bytes := 8, zero := (.raw (.pointer none)), code := none }
  | 80 => some { desc := (.pointer 3), size := 1, bytes := 8, zero := (.raw (.pointer none)), code := none }
  | 81 => some { desc := Tryd.t81.desc, size := 1, bytes := 8, zero := (.raw .nilFunc), code := none }
  | 82 => some { desc := Tryd.t82.desc, size := 1, bytes := 8, zero := (.raw .nilFunc), code := none }
  | 83 => some { desc := Tryd.t82.desc, size := 1, bytes := 8, zero := (.raw .nilFunc), code := none }
  | 84 => some { desc := Tryd.t84.desc, size := 1, bytes := 8, zero := (.raw .nilFunc), code := none }
  | 85 => some { desc := Tryd.t85.desc, size := 1, bytes := 8, zero := (.raw .nilFunc), code := none }
  | 86 => some { desc := Tryd.t86.desc, size := 1, bytes := 8, zero := (.raw .nilFunc), code := none }
  | 87 => some { desc := Tryd.t87.desc, size := 1, bytes := 8, zero := (.raw .nilFunc), code := none }
  | 88 => some { desc := Tryd.t88.desc, size := 1, bytes := 8, zero := (.raw .nilFunc), code := none }
  | 89 => some { desc := Tryd.t89.desc, size := 1, bytes := 8, zero := (.raw .nilFunc), code := none }
  | 90 => some { desc := Tryd.t90.desc, size := 1, bytes := 8, zero := (.raw .nilFunc), code := none }
  | 91 => some { desc := (.array 2 3), size := 2, bytes := 16, zero := (.arr 2 (.int .i64) (List.replicate 2 (0 : Int))), code := (some (.arr 2 (.int .i64))) }
  | 92 => some { desc := Tryd.t92.desc, size := 1, bytes := 8, zero := (.raw .nilFunc), code := none }
  | 93 => some { desc := (.int .i64), size := 1, bytes := 8, zero := (.int .i64 0), code := (some (.int .i64)) }
  | 95 => some { desc := Tryd.t95.desc, size := 1, bytes := 8, zero := (.raw .nilFunc), code := none }
  | 96 => some { desc := Tryd.t96.desc, size := 1, bytes := 8, zero := (.raw .nilFunc), code := none }
  | 97 => some { desc := Tryd.t97.desc, size := 1, bytes := 8, zero := (.raw .nilFunc), code := none }
  | 99 => some { desc := Tryd.t99.desc, size := 1, bytes := 8, zero := (.raw .nilFunc), code := none }
  | 100 => some { desc := Tryd.t100.desc, size := 1, bytes := 8, zero := (.raw .nilFunc), code := none }
  | 101 => some { desc := (.int .u32), size := 1, bytes := 4, zero := (.int .u32 0), code := (some (.int .u32)) }
  | 102 => some { desc := Tryd.t102.desc, size := 1, bytes := 8, zero := (.raw .nilFunc), code := none }
  | 103 => some { desc := (.int .u64), size := 1, bytes := 8, zero := (.int .u64 0), code := (some (.int .u64)) }
  | 104 => some { desc := Tryd.t104.desc, size := 1, bytes := 8, zero := (.raw .nilFunc), code := none }
  | 105 => some { desc := Tryd.t105.desc, size := 1, bytes := 8, zero := (.raw .nilFunc), code := none }
  | 106 => some { desc := Tryd.t106.desc, size := 1, bytes := 8, zero := (.raw .nilFunc), code := none }
  | 107 => some { desc := Tryd.t107.desc, size := 1, bytes := 8, zero := (.raw .nilFunc), code := none }
  | 108 => some { desc := (.pointer 103), size := 1, bytes := 8, zero := (.raw (.pointer none)), code := none }
  | 110 => some { desc := Tryd.t110.desc, size := 1, bytes := 8, zero := (.raw .nilFunc), code := none }
  | 111 => some { desc := Tryd.t111.desc, size := 1, bytes := 8, zero := (.raw .nilFunc), code := none }
  | 112 => some { desc := Tryd.t112.desc, size := 4, bytes := 40, zero := (.agg [1, 1, 1, 1] [(.raw (.pointer none)), (.raw (.pointer none)), (.raw (.pointer none)), (.str ByteArray.empty)]), code := none }
  | 113 => some { desc := Tryd.t112.desc, size := 4, bytes := 40, zero := (.agg [1, 1, 1, 1] [(.raw (.pointer none)), (.raw (.pointer none)), (.raw (.pointer none)), (.str ByteArray.empty)]), code := none }
  | 114 => some { desc := (.array 0 16), size := 0, bytes := 0, zero := (.agg [] []), code := none }
  | 117 => some { desc := Tryd.t117.desc, size := 1, bytes := 8, zero := (.raw .nilFunc), code := none }
  | 118 => some { desc := (.int .u8), size := 1, bytes := 1, zero := (.int .u8 0), code := (some (.int .u8)) }
  | 119 => some { desc := (.int .u8), size := 1, bytes := 1, zero := (.int .u8 0), code := (some (.int .u8)) }
  | 120 => some { desc := Tryd.t120.desc, size := 1, bytes := 8, zero := (.raw .nilFunc), code := none }
  | 121 => some { desc := (.pointer 5), size := 1, bytes := 8, zero := (.raw (.pointer none)), code := none }
  | 122 => some { desc := (.int .i32), size := 1, bytes := 4, zero := (.int .i32 0), code := (some (.int .i32)) }
  | 123 => some { desc := (.int .i32), size := 1, bytes := 4, zero := (.int .i32 0), code := (some (.int .i32)) }
  | 124 => some { desc := Tryd.t124.desc, size := 11, bytes := 48, zero := (.agg [1, 1, 1, 1, 1, 1, 1, 1, 1, 1, 1] [(.int .u64 0), (.int .u64 0), (.int .u32 0), (.int .u8 0), (.int .u8 0), (.int .u8 0), (.int .u8 0), (.raw .nilFunc), (.raw (.pointer none)), (.int .i32 0), (.int .i32 0)]), code := none }
  | 125 => some { desc := Tryd.t124.desc, size := 11, bytes := 48, zero := (.agg [1, 1, 1, 1, 1, 1, 1, 1, 1, 1, 1] [(.int .u64 0), (.int .u64 0), (.int .u32 0), (.int .u8 0), (.int .u8 0), (.int .u8 0), (.int .u8 0), (.raw .nilFunc), (.raw (.pointer none)), (.int .i32 0), (.int .i32 0)]), code := none }
  | _ => none

theorem ty_ok : ∀ t d, ty t = some d → d.ok Tryd.prog t := by
  intro t d h
  unfold ty at h
  split at h
  · cases h; exact ATy.ok_of (i := Tryd.t1) Tryd.underlying1 Tryd.type1 rfl (by kernel_rfl)
  · cases h; exact ATy.ok_of (i := Tryd.t2) Tryd.underlying2 Tryd.type2 rfl (by kernel_rfl)
  · cases h; exact ATy.ok_of (i := Tryd.t3) Tryd.underlying3 Tryd.type3 rfl (by kernel_rfl)
  · cases h; exact ATy.ok_of (i := Tryd.t4) Tryd.underlying4 Tryd.type4 rfl (by kernel_rfl)
  · cases h; exact ATy.ok_of (i := Tryd.t5) Tryd.underlying5 Tryd.type5 rfl (by kernel_rfl)
  · cases h; exact ATy.ok_of (i := Tryd.t6) Tryd.underlying6 Tryd.type6 rfl (by kernel_rfl)
  · cases h; exact ATy.ok_of (i := Tryd.t7) Tryd.underlying7 Tryd.type7 rfl (by kernel_rfl)
  · cases h; exact ATy.ok_of (i := Tryd.t8) Tryd.underlying8 Tryd.type8 rfl (by kernel_rfl)
  · cases h; exact ATy.ok_of (i := Tryd.t9) Tryd.underlying9 Tryd.type9 rfl (by kernel_rfl)
  · cases h; exact ATy.ok_of (i := Tryd.t10) Tryd.underlying10 Tryd.type10 rfl (by kernel_rfl)
  · cases h; exact ATy.ok_of (i := Tryd.t11) Tryd.underlying11 Tryd.type11 rfl (by kernel_rfl)
  · cases h; exact ATy.ok_of (i := Tryd.t12) Tryd.underlying12 Tryd.type12 rfl (by kernel_rfl)
  · cases h; exact ATy.ok_of (i := Tryd.t13) Tryd.underlying13 Tryd.type13 rfl (by kernel_rfl)
  · cases h; exact ATy.ok_of (i := Tryd.t14) Tryd.underlying14 Tryd.type14 rfl (by kernel_rfl)
  · cases h; exact ATy.ok_of (i := Tryd.t15) Tryd.underlying15 Tryd.type15 rfl (by kernel_rfl)
  · cases h; exact ATy.ok_of (i := Tryd.t16) Tryd.underlying16 Tryd.type16 rfl (by kernel_rfl)
  · cases h; exact ATy.ok_of (i := Tryd.t17) Tryd.underlying17 Tryd.type17 rfl (by kernel_rfl)
  · cases h; exact ATy.ok_of (i := Tryd.t18) Tryd.underlying18 Tryd.type18 rfl (by kernel_rfl)
  · cases h; exact ATy.ok_of (i := Tryd.t19) Tryd.underlying19 Tryd.type19 rfl (by kernel_rfl)
  · cases h; exact ATy.ok_of (i := Tryd.t20) Tryd.underlying20 Tryd.type20 rfl (by kernel_rfl)
  · cases h; exact ATy.ok_of (i := Tryd.t21) Tryd.underlying21 Tryd.type21 rfl (by kernel_rfl)
  · cases h; exact ATy.ok_of (i := Tryd.t22) Tryd.underlying22 Tryd.type22 rfl (by kernel_rfl)
  · cases h; exact ATy.ok_of (i := Tryd.t23) Tryd.underlying23 Tryd.type23 rfl (by kernel_rfl)
  · cases h; exact ATy.ok_of (i := Tryd.t24) Tryd.underlying24 Tryd.type24 rfl (by kernel_rfl)
  · cases h; exact ATy.ok_of (i := Tryd.t25) Tryd.underlying25 Tryd.type25 rfl (by kernel_rfl)
  · cases h; exact ATy.ok_of (i := Tryd.t26) Tryd.underlying26 Tryd.type26 rfl (by kernel_rfl)
  · cases h; exact ATy.ok_of (i := Tryd.t27) Tryd.underlying27 Tryd.type27 rfl (by kernel_rfl)
  · cases h; exact ATy.ok_of (i := Tryd.t28) Tryd.underlying28 Tryd.type28 rfl (by kernel_rfl)
  · cases h; exact ATy.ok_of (i := Tryd.t29) Tryd.underlying29 Tryd.type29 rfl (by kernel_rfl)
  · cases h; exact ATy.ok_of (i := Tryd.t30) Tryd.underlying30 Tryd.type30 rfl (by kernel_rfl)
  · cases h; exact ATy.ok_of (i := Tryd.t31) Tryd.underlying31 Tryd.type31 rfl (by kernel_rfl)
  · cases h; exact ATy.ok_of (i := Tryd.t32) Tryd.underlying32 Tryd.type32 rfl (by kernel_rfl)
  · cases h; exact ATy.ok_of (i := Tryd.t33) Tryd.underlying33 Tryd.type33 rfl (by kernel_rfl)
  · cases h; exact ATy.ok_of (i := Tryd.t34) Tryd.underlying34 Tryd.type34 rfl (by kernel_rfl)
  · cases h; exact ATy.ok_of (i := Tryd.t35) Tryd.underlying35 Tryd.type35 rfl (by kernel_rfl)
  · cases h; exact ATy.ok_of (i := Tryd.t36) Tryd.underlying36 Tryd.type36 rfl (by kernel_rfl)
  · cases h; exact ATy.ok_of (i := Tryd.t37) Tryd.underlying37 Tryd.type37 rfl (by kernel_rfl)
  · cases h; exact ATy.ok_of (i := Tryd.t38) Tryd.underlying38 Tryd.type38 rfl (by kernel_rfl)
  · cases h; exact ATy.ok_of (i := Tryd.t39) Tryd.underlying39 Tryd.type39 rfl (by kernel_rfl)
  · cases h; exact ATy.ok_of (i := Tryd.t40) Tryd.underlying40 Tryd.type40 rfl (by kernel_rfl)
  · cases h; exact ATy.ok_of (i := Tryd.t41) Tryd.underlying41 Tryd.type41 rfl (by kernel_rfl)
  · cases h; exact ATy.ok_of (i := Tryd.t42) Tryd.underlying42 Tryd.type42 rfl (by kernel_rfl)
  · cases h; exact ATy.ok_of (i := Tryd.t43) Tryd.underlying43 Tryd.type43 rfl (by kernel_rfl)
  · cases h; exact ATy.ok_of (i := Tryd.t44) Tryd.underlying44 Tryd.type44 rfl (by kernel_rfl)
  · cases h; exact ATy.ok_of (i := Tryd.t46) Tryd.underlying46 Tryd.type46 rfl (by kernel_rfl)
  · cases h; exact ATy.ok_of (i := Tryd.t47) Tryd.underlying47 Tryd.type47 rfl (by kernel_rfl)
  · cases h; exact ATy.ok_of (i := Tryd.t48) Tryd.underlying48 Tryd.type48 rfl (by kernel_rfl)
  · cases h; exact ATy.ok_of (i := Tryd.t49) Tryd.underlying49 Tryd.type49 rfl (by kernel_rfl)
  · cases h; exact ATy.ok_of (i := Tryd.t50) Tryd.underlying50 Tryd.type50 rfl (by kernel_rfl)
  · cases h; exact ATy.ok_of (i := Tryd.t51) Tryd.underlying51 Tryd.type51 rfl (by kernel_rfl)
  · cases h; exact ATy.ok_of (i := Tryd.t52) Tryd.underlying52 Tryd.type52 rfl (by kernel_rfl)
  · cases h; exact ATy.ok_of (i := Tryd.t53) Tryd.underlying53 Tryd.type53 rfl (by kernel_rfl)
  · cases h; exact ATy.ok_of (i := Tryd.t54) Tryd.underlying54 Tryd.type54 rfl (by kernel_rfl)
  · cases h; exact ATy.ok_of (i := Tryd.t56) Tryd.underlying56 Tryd.type56 rfl (by kernel_rfl)
  · cases h; exact ATy.ok_of (i := Tryd.t57) Tryd.underlying57 Tryd.type57 rfl (by kernel_rfl)
  · cases h; exact ATy.ok_of (i := Tryd.t58) Tryd.underlying58 Tryd.type58 rfl (by kernel_rfl)
  · cases h; exact ATy.ok_of (i := Tryd.t59) Tryd.underlying59 Tryd.type59 rfl (by kernel_rfl)
  · cases h; exact ATy.ok_of (i := Tryd.t60) Tryd.underlying60 Tryd.type60 rfl (by kernel_rfl)
  · cases h; exact ATy.ok_of (i := Tryd.t61) Tryd.underlying61 Tryd.type61 rfl (by kernel_rfl)
  · cases h; exact ATy.ok_of (i := Tryd.t62) Tryd.underlying62 Tryd.type62 rfl (by kernel_rfl)
  · cases h; exact ATy.ok_of (i := Tryd.t63) Tryd.underlying63 Tryd.type63 rfl (by kernel_rfl)
  · cases h; exact ATy.ok_of (i := Tryd.t64) Tryd.underlying64 Tryd.type64 rfl (by kernel_rfl)
  · cases h; exact ATy.ok_of (i := Tryd.t65) Tryd.underlying65 Tryd.type65 rfl (by kernel_rfl)
  · cases h; exact ATy.ok_of (i := Tryd.t66) Tryd.underlying66 Tryd.type66 rfl (by kernel_rfl)
  · cases h; exact ATy.ok_of (i := Tryd.t67) Tryd.underlying67 Tryd.type67 rfl (by kernel_rfl)
  · cases h; exact ATy.ok_of (i := Tryd.t68) Tryd.underlying68 Tryd.type68 rfl (by kernel_rfl)
  · cases h; exact ATy.ok_of (i := Tryd.t69) Tryd.underlying69 Tryd.type69 rfl (by kernel_rfl)
  · cases h; exact ATy.ok_of (i := Tryd.t70) Tryd.underlying70 Tryd.type70 rfl (by kernel_rfl)
  · cases h; exact ATy.ok_of (i := Tryd.t71) Tryd.underlying71 Tryd.type71 rfl (by kernel_rfl)
  · cases h; exact ATy.ok_of (i := Tryd.t72) Tryd.underlying72 Tryd.type72 rfl (by kernel_rfl)
  · cases h; exact ATy.ok_of (i := Tryd.t73) Tryd.underlying73 Tryd.type73 rfl (by kernel_rfl)
  · cases h; exact ATy.ok_of (i := Tryd.t74) Tryd.underlying74 Tryd.type74 rfl (by kernel_rfl)
  · cases h; exact ATy.ok_of (i := Tryd.t75) Tryd.underlying75 Tryd.type75 rfl (by kernel_rfl)
  · cases h; exact ATy.ok_of (i := Tryd.t76) Tryd.underlying76 Tryd.type76 rfl (by kernel_rfl)
  · cases h; exact ATy.ok_of (i := Tryd.t77) Tryd.underlying77 Tryd.type77 rfl (by kernel_rfl)
  · cases h; exact ATy.ok_of (i := Tryd.t78) Tryd.underlying78 Tryd.type78 rfl (by kernel_rfl)
  · cases h; exact ATy.ok_of (i := Tryd.t79) Tryd.underlying79 Tryd.type79 rfl (by kernel_rfl)
  · cases h; exact ATy.ok_of (i := Tryd.t80) Tryd.underlying80 Tryd.type80 rfl (by kernel_rfl)
  · cases h; exact ATy.ok_of (i := Tryd.t81) Tryd.underlying81 Tryd.type81 rfl (by kernel_rfl)
  · cases h; exact ATy.ok_of (i := Tryd.t82) Tryd.underlying82 Tryd.type82 rfl (by kernel_rfl)
  · cases h; exact ATy.ok_of (i := Tryd.t83) Tryd.underlying83 Tryd.type83 rfl (by kernel_rfl)
  · cases h; exact ATy.ok_of (i := Tryd.t84) Tryd.underlying84 Tryd.type84 rfl (by kernel_rfl)
  · cases h; exact ATy.ok_of (i := Tryd.t85) Tryd.underlying85 Tryd.type85 rfl (by kernel_rfl)
  · cases h; exact ATy.ok_of (i := Tryd.t86) Tryd.underlying86 Tryd.type86 rfl (by kernel_rfl)
  · cases h; exact ATy.ok_of (i := Tryd.t87) Tryd.underlying87 Tryd.type87 rfl (by kernel_rfl)
  · cases h; exact ATy.ok_of (i := Tryd.t88) Tryd.underlying88 Tryd.type88 rfl (by kernel_rfl)
  · cases h; exact ATy.ok_of (i := Tryd.t89) Tryd.underlying89 Tryd.type89 rfl (by kernel_rfl)
  · cases h; exact ATy.ok_of (i := Tryd.t90) Tryd.underlying90 Tryd.type90 rfl (by kernel_rfl)
  · cases h; exact ATy.ok_of (i := Tryd.t91) Tryd.underlying91 Tryd.type91 rfl (by kernel_rfl)
  · cases h; exact ATy.ok_of (i := Tryd.t92) Tryd.underlying92 Tryd.type92 rfl (by kernel_rfl)
  · cases h; exact ATy.ok_of (i := Tryd.t93) Tryd.underlying93 Tryd.type93 rfl (by kernel_rfl)
  · cases h; exact ATy.ok_of (i := Tryd.t95) Tryd.underlying95 Tryd.type95 rfl (by kernel_rfl)
  · cases h; exact ATy.ok_of (i := Tryd.t96) Tryd.underlying96 Tryd.type96 rfl (by kernel_rfl)
  · cases h; exact ATy.ok_of (i := Tryd.t97) Tryd.underlying97 Tryd.type97 rfl (by kernel_rfl)
  · cases h; exact ATy.ok_of (i := Tryd.t99) Tryd.underlying99 Tryd.type99 rfl (by kernel_rfl)
  · cases h; exact ATy.ok_of (i := Tryd.t100) Tryd.underlying100 Tryd.type100 rfl (by kernel_rfl)
  · cases h; exact ATy.ok_of (i := Tryd.t101) Tryd.underlying101 Tryd.type101 rfl (by kernel_rfl)
  · cases h; exact ATy.ok_of (i := Tryd.t102) Tryd.underlying102 Tryd.type102 rfl (by kernel_rfl)
  · cases h; exact ATy.ok_of (i := Tryd.t103) Tryd.underlying103 Tryd.type103 rfl (by kernel_rfl)
  · cases h; exact ATy.ok_of (i := Tryd.t104) Tryd.underlying104 Tryd.type104 rfl (by kernel_rfl)
  · cases h; exact ATy.ok_of (i := Tryd.t105) Tryd.underlying105 Tryd.type105 rfl (by kernel_rfl)
  · cases h; exact ATy.ok_of (i := Tryd.t106) Tryd.underlying106 Tryd.type106 rfl (by kernel_rfl)
  · cases h; exact ATy.ok_of (i := Tryd.t107) Tryd.underlying107 Tryd.type107 rfl (by kernel_rfl)
  · cases h; exact ATy.ok_of (i := Tryd.t108) Tryd.underlying108 Tryd.type108 rfl (by kernel_rfl)
  · cases h; exact ATy.ok_of (i := Tryd.t110) Tryd.underlying110 Tryd.type110 rfl (by kernel_rfl)
  · cases h; exact ATy.ok_of (i := Tryd.t111) Tryd.underlying111 Tryd.type111 rfl (by kernel_rfl)
  · cases h; exact ATy.ok_of (i := Tryd.t112) Tryd.underlying112 Tryd.type112 rfl (by kernel_rfl)
  · cases h; exact ATy.ok_of (i := Tryd.t113) Tryd.underlying113 Tryd.type113 rfl (by kernel_rfl)
  · cases h; exact ATy.ok_of (i := Tryd.t114) Tryd.underlying114 Tryd.type114 rfl (by kernel_rfl)
  · cases h; exact ATy.ok_of (i := Tryd.t117) Tryd.underlying117 Tryd.type117 rfl (by kernel_rfl)
  · cases h; exact ATy.ok_of (i := Tryd.t118) Tryd.underlying118 Tryd.type118 rfl (by kernel_rfl)
  · cases h; exact ATy.ok_of (i := Tryd.t119) Tryd.underlying119 Tryd.type119 rfl (by kernel_rfl)
  · cases h; exact ATy.ok_of (i := Tryd.t120) Tryd.underlying120 Tryd.type120 rfl (by kernel_rfl)
  · cases h; exact ATy.ok_of (i := Tryd.t121) Tryd.underlying121 Tryd.type121 rfl (by kernel_rfl)
  · cases h; exact ATy.ok_of (i := Tryd.t122) Tryd.underlying122 Tryd.type122 rfl (by kernel_rfl)
  · cases h; exact ATy.ok_of (i := Tryd.t123) Tryd.underlying123 Tryd.type123 rfl (by kernel_rfl)
  · cases h; exact ATy.ok_of (i := Tryd.t124) Tryd.underlying124 Tryd.type124 rfl (by kernel_rfl)
  · cases h; exact ATy.ok_of (i := Tryd.t125) Tryd.underlying125 Tryd.type125 rfl (by kernel_rfl)
  · cases h

noncomputable def fns : FuncId → Option Func
  | 3 => some Tryd.f3
  | 4 => some Tryd.f4
  | 5 => some Tryd.f5
  | 6 => some Tryd.f6
  | 7 => some Tryd.f7
  | 8 => some Tryd.f8
  | 9 => some Tryd.f9
  | 10 => some Tryd.f10
  | 11 => some Tryd.f11
  | 12 => some Tryd.f12
  | 13 => some Tryd.f13
  | 14 => some Tryd.f14
  | 15 => some Tryd.f15
  | 16 => some Tryd.f16
  | 17 => some Tryd.f17
  | 18 => some Tryd.f18
  | 19 => some Tryd.f19
  | 20 => some Tryd.f20
  | 21 => some Tryd.f21
  | 22 => some Tryd.f22
  | 23 => some Tryd.f23
  | 24 => some Tryd.f24
  | 25 => some Tryd.f25
  | 26 => some Tryd.f26
  | 27 => some Tryd.f27
  | 28 => some Tryd.f28
  | 29 => some Tryd.f29
  | 30 => some Tryd.f30
  | 31 => some Tryd.f31
  | 32 => some Tryd.f32
  | 33 => some Tryd.f33
  | 34 => some Tryd.f34
  | 35 => some Tryd.f35
  | 36 => some Tryd.f36
  | 37 => some Tryd.f37
  | 38 => some Tryd.f38
  | 39 => some Tryd.f39
  | 40 => some Tryd.f40
  | 41 => some Tryd.f41
  | 42 => some Tryd.f42
  | 43 => some Tryd.f43
  | 44 => some Tryd.f44
  | 45 => some Tryd.f45
  | 46 => some Tryd.f46
  | 47 => some Tryd.f47
  | 48 => some Tryd.f48
  | 49 => some Tryd.f49
  | 50 => some Tryd.f50
  | 51 => some Tryd.f51
  | 52 => some Tryd.f52
  | 53 => some Tryd.f53
  | 54 => some Tryd.f54
  | 55 => some Tryd.f55
  | 56 => some Tryd.f56
  | 57 => some Tryd.f57
  | 58 => some Tryd.f58
  | 59 => some Tryd.f59
  | 60 => some Tryd.f60
  | 61 => some Tryd.f61
  | 62 => some Tryd.f62
  | 63 => some Tryd.f63
  | 64 => some Tryd.f64
  | 65 => some Tryd.f65
  | 66 => some Tryd.f66
  | 67 => some Tryd.f67
  | 68 => some Tryd.f68
  | 69 => some Tryd.f69
  | 70 => some Tryd.f70
  | 71 => some Tryd.f71
  | 72 => some Tryd.f72
  | 73 => some Tryd.f73
  | 74 => some Tryd.f74
  | 75 => some Tryd.f75
  | 76 => some Tryd.f76
  | 77 => some Tryd.f77
  | 78 => some Tryd.f78
  | 79 => some Tryd.f79
  | 80 => some Tryd.f80
  | 81 => some Tryd.f81
  | 82 => some Tryd.f82
  | 83 => some Tryd.f83
  | 84 => some Tryd.f84
  | 85 => some Tryd.f85
  | 86 => some Tryd.f86
  | 87 => some Tryd.f87
  | 88 => some Tryd.f88
  | _ => none

theorem fns_ok : ∀ f fn, fns f = some fn → Tryd.prog.funcs[f]? = some fn ∧ (fn.name == "runtime.NumGoroutine") = false := by
  intro f fn h
  unfold fns at h
  split at h
  · cases h; exact ⟨Tryd.func3, by kernel_rfl⟩
  · cases h; exact ⟨Tryd.func4, by kernel_rfl⟩
  · cases h; exact ⟨Tryd.func5, by kernel_rfl⟩
  · cases h; exact ⟨Tryd.func6, by kernel_rfl⟩
  · cases h; exact ⟨Tryd.func7, by kernel_rfl⟩
  · cases h; exact ⟨Tryd.func8, by kernel_rfl⟩
  · cases h; exact ⟨Tryd.func9, by kernel_rfl⟩
  · cases h; exact ⟨Tryd.func10, by kernel_rfl⟩
  · cases h; exact ⟨Tryd.func11, by kernel_rfl⟩
  · cases h; exact ⟨Tryd.func12, by kernel_rfl⟩
  · cases h; exact ⟨Tryd.func13, by kernel_rfl⟩
  · cases h; exact ⟨Tryd.func14, by kernel_rfl⟩
  · cases h; exact ⟨Tryd.func15, by kernel_rfl⟩
  · cases h; exact ⟨Tryd.func16, by kernel_rfl⟩
  · cases h; exact ⟨Tryd.func17, by kernel_rfl⟩
  · cases h; exact ⟨Tryd.func18, by kernel_rfl⟩
  · cases h; exact ⟨Tryd.func19, by kernel_rfl⟩
  · cases h; exact ⟨Tryd.func20, by kernel_rfl⟩
  · cases h; exact ⟨Tryd.func21, by kernel_rfl⟩
  · cases h; exact ⟨Tryd.func22, by kernel_rfl⟩
  · cases h; exact ⟨Tryd.func23, by kernel_rfl⟩
  · cases h; exact ⟨Tryd.func24, by kernel_rfl⟩
  · cases h; exact ⟨Tryd.func25, by kernel_rfl⟩
  · cases h; exact ⟨Tryd.func26, by kernel_rfl⟩
  · cases h; exact ⟨Tryd.func27, by kernel_rfl⟩
  · cases h; exact ⟨Tryd.func28, by kernel_rfl⟩
  · cases h; exact ⟨Tryd.func29, by kernel_rfl⟩
  · cases h; exact ⟨Tryd.func30, by kernel_rfl⟩
  · cases h; exact ⟨Tryd.func31, by kernel_rfl⟩
  · cases h; exact ⟨Tryd.func32, by kernel_rfl⟩
  · cases h; exact ⟨Tryd.func33, by kernel_rfl⟩
  · cases h; exact ⟨Tryd.func34, by kernel_rfl⟩
  · cases h; exact ⟨Tryd.func35, by kernel_rfl⟩
  · cases h; exact ⟨Tryd.func36, by kernel_rfl⟩
  · cases h; exact ⟨Tryd.func37, by kernel_rfl⟩
  · cases h; exact ⟨Tryd.func38, by kernel_rfl⟩
  · cases h; exact ⟨Tryd.func39, by kernel_rfl⟩
  · cases h; exact ⟨Tryd.func40, by kernel_rfl⟩
  · cases h; exact ⟨Tryd.func41, by kernel_rfl⟩
  · cases h; exact ⟨Tryd.func42, by kernel_rfl⟩
  · cases h; exact ⟨Tryd.func43, by kernel_rfl⟩
  · cases h; exact ⟨Tryd.func44, by kernel_rfl⟩
  · cases h; exact ⟨Tryd.func45, by kernel_rfl⟩
  · cases h; exact ⟨Tryd.func46, by kernel_rfl⟩
  · cases h; exact ⟨Tryd.func47, by kernel_rfl⟩
  · cases h; exact ⟨Tryd.func48, by kernel_rfl⟩
  · cases h; exact ⟨Tryd.func49, by kernel_rfl⟩
  · cases h; exact ⟨Tryd.func50, by kernel_rfl⟩
  · cases h; exact ⟨Tryd.func51, by kernel_rfl⟩
  · cases h; exact ⟨Tryd.func52, by kernel_rfl⟩
  · cases h; exact ⟨Tryd.func53, by kernel_rfl⟩
  · cases h; exact ⟨Tryd.func54, by kernel_rfl⟩
  · cases h; exact ⟨Tryd.func55, by kernel_rfl⟩
  · cases h; exact ⟨Tryd.func56, by kernel_rfl⟩
  · cases h; exact ⟨Tryd.func57, by kernel_rfl⟩
  · cases h; exact ⟨Tryd.func58, by kernel_rfl⟩
  · cases h; exact ⟨Tryd.func59, by kernel_rfl⟩
  · cases h; exact ⟨Tryd.func60, by kernel_rfl⟩
  · cases h; exact ⟨Tryd.func61, by kernel_rfl⟩
  · cases h; exact ⟨Tryd.func62, by kernel_rfl⟩
  · cases h; exact ⟨Tryd.func63, by kernel_rfl⟩
  · cases h; exact ⟨Tryd.func64, by kernel_rfl⟩
  · cases h; exact ⟨Tryd.func65, by kernel_rfl⟩
  · cases h; exact ⟨Tryd.func66, by kernel_rfl⟩
  · cases h; exact ⟨Tryd.func67, by kernel_rfl⟩
  · cases h; exact ⟨Tryd.func68, by kernel_rfl⟩
  · cases h; exact ⟨Tryd.func69, by kernel_rfl⟩
  · cases h; exact ⟨Tryd.func70, by kernel_rfl⟩
  · cases h; exact ⟨Tryd.func71, by kernel_rfl⟩
  · cases h; exact ⟨Tryd.func72, by kernel_rfl⟩
  · cases h; exact ⟨Tryd.func73, by kernel_rfl⟩
  · cases h; exact ⟨Tryd.func74, by kernel_rfl⟩
  · cases h; exact ⟨Tryd.func75, by kernel_rfl⟩
  · cases h; exact ⟨Tryd.func76, by kernel_rfl⟩
  · cases h; exact ⟨Tryd.func77, by kernel_rfl⟩
  · cases h; exact ⟨Tryd.func78, by kernel_rfl⟩
  · cases h; exact ⟨Tryd.func79, by kernel_rfl⟩
  · cases h; exact ⟨Tryd.func80, by kernel_rfl⟩
  · cases h; exact ⟨Tryd.func81, by kernel_rfl⟩
  · cases h; exact ⟨Tryd.func82, by kernel_rfl⟩
  · cases h; exact ⟨Tryd.func83, by kernel_rfl⟩
  · cases h; exact ⟨Tryd.func84, by kernel_rfl⟩
  · cases h; exact ⟨Tryd.func85, by kernel_rfl⟩
  · cases h; exact ⟨Tryd.func86, by kernel_rfl⟩
  · cases h; exact ⟨Tryd.func87, by kernel_rfl⟩
  · cases h; exact ⟨Tryd.func88, by kernel_rfl⟩
  · cases h

theorem mixed : Tryd.prog.follows .mixedOrders = true := by kernel_rfl

noncomputable def glob : Nat → Option AV
  | 0 => some (.arr 4 (.int .u8) [26, 27, 28, 29])
  | 1 => some (.arr 8 (.int .u8) [8, 1, 2, 3, 4, 16, 12, 14])
  | _ => none

def sched : FuncId → Nat → Option Sch
  | 7, 2 => some (.one 1 (.one 2 (.one 0 (.one 3 (.one 4 (.one 5 (.one 6 (.one 7 (.one 8 .fin)))))))))
  | _, _ => none
def split : FuncId → Nat → Option (Nat × List Step × Nat)
  | _, _ => none
def tail : FuncId → Nat → Bool
  | 23, 3 => true
  | 24, 3 => true
  | 30, 1 => true
  | 32, 0 => true
  | 39, 0 => true
  | 41, 0 => true
  | 49, 0 => true
  | _, _ => false
def rowf : FuncId → Bool
  | 43 => true
  | _ => false
def frz : FuncId → Nat → Option Nat
  | 7, 6 => some 6
  | _, _ => none
def exact : FuncId → Bool
  | 53 => true
  | _ => false
def apart : FuncId → Bool
  | _ => false
theorem apart_ok : ∀ f, apart f = true → ApartOk Tryd.prog f := by
  intro f h
  unfold apart at h
  split at h
  · cases h
noncomputable def sort : FuncId → Option SortD
  | 54 => some srtD
  | 55 => some cmpD
  | _ => none
theorem sort_ok : ∀ f s, sort f = some s → SortOk Tryd.prog f s := by
  intro f s h
  unfold sort at h
  split at h
  · cases h; exact srt_ok
  · cases h; exact cmp_ok
  · cases h
noncomputable def env (sp : FuncId → Option Spec) (mk : FuncId → Nat → Option (List Nat)) : Env := { P := Tryd.prog, ty := ty, fns := fns, glob := glob, spec := sp, mask := mk, exact := exact, apart := apart, split := split, sched := sched, sort := sort, frz := frz, tail := tail, rows := true, rowf := rowf }
noncomputable abbrev env0 : Env := env (fun _ => none) (fun _ _ => none)
theorem valid (sp : FuncId → Option Spec) (mk : FuncId → Nat → Option (List Nat)) : (env sp mk).Valid := ⟨ty_ok, fns_ok, mixed, apart_ok, sort_ok⟩
end Go.Eng.RU
end
section
/- The two tables that facts' laws lay. -/
namespace Go.Eng.RU
open Go.Proofs Go.Eng Go.RowKit

def tabC : List Int := [8, 1, 2, 3, 4, 16, 12, 14]
def tabE : List Int := [26, 27, 28, 29]

theorem laid_two {W : World} (hL : laidMet Tryd.prog [("sundial/facts.conds", Lib.tabData .u8 tabC), ("sundial/facts.ends", Lib.tabData .u8 tabE)] W) : GlobRep env0 ⟨W, protAll W, []⟩ := by
  have h := Lib.tabIs_of_head (g := 1) (by kernel_rfl) (by kernel_rfl) Tryd.underlying61 Tryd.underlying5 (by kernel_rfl) (by kernel_rfl) hL
  have h' := Lib.tabIs_of_head (g := 0) (by kernel_rfl) (by kernel_rfl) Tryd.underlying60 Tryd.underlying5 (by kernel_rfl) (by kernel_rfl) (laidMet.tail hL)
  have hg : Tryd.prog.globalNamed "sundial/facts.conds" = some 1 := by kernel_rfl
  have hg' : Tryd.prog.globalNamed "sundial/facts.ends" = some 0 := by kernel_rfl
  unfold Lib.TabIs World.var? at h h'
  rw [hg] at h
  rw [hg'] at h'
  simp only [Option.bind_some] at h h'
  intro g v e
  have e : glob g = some v := e
  unfold glob at e
  split at e
  · cases e
    split at h'
    · rename_i cs' t fz hh
      simp only [Option.some.injEq] at h'
      subst h'
      refine ⟨(tabE.map fun z => Value.int .u8 z).toArray, t, fz, tabE.map fun z => Value.int .u8 z, hh, fun ι' => ground_ok ι' _ _ (by kernel_rfl), ?_⟩
      intro j v hj
      simpa using hj
    · cases h'
  · cases e
    split at h
    · rename_i cs' t fz hh
      simp only [Option.some.injEq] at h
      subst h
      refine ⟨(tabC.map fun z => Value.int .u8 z).toArray, t, fz, tabC.map fun z => Value.int .u8 z, hh, fun ι' => ground_ok ι' _ _ (by kernel_rfl), ?_⟩
      intro j v hj
      simpa using hj
    · cases h
  · cases e
end Go.Eng.RU
end
section
/- Functions of this program, written out. -/
namespace Go.Eng.RU
open Go.Proofs Go.Eng
set_option maxRecDepth 100000

/-! ### sundial/sundialref10.alu -/
inductive J67 where
  | h0 (v1 : Int) (v2 : (List Int))
noncomputable def tree67 (_x : Int) : Tr (J67 ⊕ Int) :=
  .need ((0 : Nat) < 8) <|
  .need ((1 : Nat) < 8) <|
  .need ((2 : Nat) < 8) <|
  .need ((3 : Nat) < 8) <|
  .need ((4 : Nat) < 8) <|
  .need ((5 : Nat) < 8) <|
  .need ((6 : Nat) < 8) <|
  .need ((7 : Nat) < 8) <|
  .ret (.inl (.h0 0 [3, 4, 5, 6, 7, 8, 9, 10]))
noncomputable def step67 (x : Int) : J67 → Tr (J67 ⊕ Int)
  | .h0 v1 v2 =>
  .ite (ilt v1 8) (
  .need ((0 : Int) ≤ v1) <|
  .need ((v1 : Int) < 8) <|
  .need (((v1).toNat : Nat) < 8) <|
  .ite (ieq (rdc (.int .u8) v2 (v1).toNat) x) (
  .ret (.inr v1)) (
  .ret (.inl (.h0 (iadd .i64 v1 1) v2)))) (
  .ret (.inr (-1)))
noncomputable def head67 (x : Int) : J67 → Head
  | .h0 v1 v2 =>
  { fr := { id := 67, kind := .top, T := [(.int .u8 x), .any, .any, (.ptr 0 []), (.int .i64 v1)] ++ List.replicate 11 .any, items := [.lp (subc [1, 1, 0, 1, 0, 0] (bodyOf Tryd.f67)), .blk 0, .code (subc [1, 1, 1] (bodyOf Tryd.f67))], D := [], base := 0 },
    stk := [],
    H := [.cell true 61 (.arr 8 (.int .u8) v2)] }
noncomputable def stop67 : FuncId → Nat → Nat → Option Cut
  | 67, 0, 0 => some { tmps := [0, 3, 4], loops := [], dead := [], stk := [] }
  | _, _, _ => none
noncomputable def fn67 (x : Int) : Int := endVal (TC.dflt (.int .i64)) (step67 x) (tree67 x)
def pre67 (x : Int) : Prop := ∃ r, Ends (step67 x) r (tree67 x)
noncomputable def spec67 : Spec := { dom := (.st1 (.int .u8)), cod := (.int .i64), n := 1, pre := pre67, f := fn67 }
noncomputable def need67 : FuncId → Option Spec
  | _ => none
theorem need67_ok : ∀ f sp, need67 f = some sp → SpecOk env0 f sp := by
  intro f sp h
  unfold need67 at h
  split at h
  · cases h
theorem run67 (W : Cfg) (Q : Int → Prop) (x : Int) : run (env need67 (fun _ _ => none)) stop67 (finS spec67 Q) W 100000 (startFr 67 Tryd.f67 (bodyOf Tryd.f67) (argsOf (.st1 (.int .u8)) x)) [] [] = (tree67 x).wp (kont W Q (head67 x)) := by kernel_rfl
theorem run67h0 (W : Cfg) (Q : Int → Prop) (x : Int) (v1 : Int) (v2 : (List Int)) : run (env need67 (fun _ _ => none)) stop67 (finS spec67 Q) W 100000 (head67 x (.h0 v1 v2)).fr.enter (head67 x (.h0 v1 v2)).stk (head67 x (.h0 v1 v2)).H = (step67 x (.h0 v1 v2)).wp (kont W Q (head67 x)) := by kernel_rfl
theorem runs67 (W : Cfg) (Q : Int → Prop) (x : Int) : ∀ j : J67, run (env need67 (fun _ _ => none)) stop67 (finS spec67 Q) W 100000 (head67 x j).fr.enter (head67 x j).stk (head67 x j).H = (step67 x j).wp (kont W Q (head67 x))
  | .h0 v1 v2 => run67h0 W Q x v1 v2
theorem ok67 : SpecOk env0 67 spec67 := SpecOk.env rfl (fun _ _ h => h) (spec_of_trees (E := (env need67 (fun _ _ => none))) (sp := spec67) (valid _ _) (fun f sp h => SpecOk.env rfl (fun _ _ h => h) (need67_ok f sp h)) (fn := Tryd.f67) (c := (bodyOf Tryd.f67)) (by kernel_rfl) (by kernel_rfl) tree67 step67 head67 run67 runs67 (fun _ h => endVal_ends h))

/-! ### sundial/sundialref10.digit -/
noncomputable def tree68 (x : Int) : Tr Int :=
  .ite (ieq x 12) (
  .ret 0) (
  .ite (ieq x 19) (
  .ret 0) (
  .ite (ieq x 13) (
  .ret 1) (
  .ite (ieq x 20) (
  .ret 1) (
  .ite (ieq x 15) (
  .ret 2) (
  .ite (ieq x 14) (
  .ret 3) (
  .ite (ieq x 22) (
  .ret 4) (
  .ite (ieq x 16) (
  .ret 4) (
  .ite (ieq x 17) (
  .ret 5) (
  .ite (ieq x 23) (
  .ret 6) (
  .ite (ieq x 18) (
  .ret 7) (
  .ret (-1))))))))))))
noncomputable def fn68 (x : Int) : Int := (tree68 x).val
def pre68 (x : Int) : Prop := (tree68 x).ok
noncomputable def spec68 : Spec := { dom := (.st1 (.int .u8)), cod := (.int .i64), n := 1, pre := pre68, f := fn68 }
noncomputable def need68 : FuncId → Option Spec
  | _ => none
theorem need68_ok : ∀ f sp, need68 f = some sp → SpecOk env0 f sp := by
  intro f sp h
  unfold need68 at h
  split at h
  · cases h
theorem run68 (W : Cfg) (Q : Int → Prop) (x : Int) : run (env need68 (fun _ _ => none)) (fun _ _ _ => none) (finS spec68 Q) W 100000 (startFr 68 Tryd.f68 (bodyOf Tryd.f68) (argsOf (.st1 (.int .u8)) x)) [] [] = (tree68 x).wp Q := by kernel_rfl
theorem ok68 : SpecOk env0 68 spec68 := SpecOk.env rfl (fun _ _ h => h) (spec_of_tree (E := (env need68 (fun _ _ => none))) (sp := spec68) (valid _ _) (fun f sp h => SpecOk.env rfl (fun _ _ h => h) (need68_ok f sp h)) (fn := Tryd.f68) (c := (bodyOf Tryd.f68)) (by kernel_rfl) (by kernel_rfl) tree68 run68 (fun _ h => Tr.gives_val h))

/-! ### sundial/sundialref10.plain -/
noncomputable def tree57 (x : Int) : Tr (List Drow) :=
  .need (pre67 x) <|
  .need (pre68 x) <|
  .ite (ieq x 1) (
  .need ((0 : Nat) < 1) <|
  .need ((0 : Nat) < 1) <|
  .need ((0 : Nat) < 1) <|
  .need ((0 : Nat) < 1) <|
  .need ((0 : Nat) < 1) <|
  .need ((0 : Nat) < 1) <|
  .need ((0 : Nat) < 1) <|
  .need (((0 : Nat) + 1 : Nat) ≤ 1) <|
  .need (((0 : Nat) + 1 : Nat) ≤ 1) <|
  .need (((0 : Nat) + 1 : Nat) ≤ 1) <|
  .need (((0 : Nat) + 1 : Nat) ≤ 1) <|
  .need (((0 : Nat) + 1 : Nat) ≤ 1) <|
  .need (((0 : Nat) + 1 : Nat) ≤ 1) <|
  .need (((0 : Nat) + 1 : Nat) ≤ 1) <|
  .need ((0 : Nat) < 7) <|
  .need ((1 : Nat) < 7) <|
  .need ((2 : Nat) < 7) <|
  .need ((3 : Nat) < 7) <|
  .need ((4 : Nat) < 7) <|
  .need ((5 : Nat) < 7) <|
  .need ((6 : Nat) < 7) <|
  .need (((0 : Nat) + 7 : Nat) ≤ 7) <|
  let y0 : (Int × Int) := (1, 0)
  let y1 : (Int × (Int × Int)) := ((-1), y0)
  let y2 : (Int × (Int × Int)) := ((-1), (2, 0))
  let y3 : (Int × Int) := (1, 1)
  let y4 : (Int × Int) := (1, 4)
  let y5 : (Int × (Int × Int)) := (0, y4)
  .ret [(1, ((ByteArray.mk #[114, 109]), ((ByteArray.mk #[114]), (0, ([136], y1))))), (1, ((ByteArray.mk #[114]), ((ByteArray.mk #[109]), (0, ([138], y2))))), (1, ((ByteArray.mk #[114, 109]), ((ByteArray.mk #[105, 56]), (0, ([198], (0, y3)))))), (4, ((ByteArray.mk #[114, 109]), ((ByteArray.mk #[114]), (0, ([137], y1))))), (4, ((ByteArray.mk #[114]), ((ByteArray.mk #[109]), (0, ([139], y2))))), (4, ((ByteArray.mk #[114, 109]), ((ByteArray.mk #[105, 51, 50]), (0, ([199], y5))))), (8, ((ByteArray.mk #[114]), ((ByteArray.mk #[105, 54, 52]), (0, ([184], (0, (3, 8)))))))]) (
  .ite (ieq x 2) (
  .need ((0 : Nat) < 1) <|
  .need (((0 : Nat) + 1 : Nat) ≤ 1) <|
  .need ((0 : Nat) < 1) <|
  .need (((0 : Nat) + 1 : Nat) ≤ 1) <|
  let y6 : (Int × (Int × Int)) := ((-1), (2, 0))
  .ret [(4, ((ByteArray.mk #[114]), ((ByteArray.mk #[109]), (0, ([141], y6)))))]) (
  .ite (ieq x 3) (
  .need ((0 : Nat) < 1) <|
  .need ((0 : Nat) < 1) <|
  .need ((0 : Nat) < 1) <|
  .need ((0 : Nat) < 1) <|
  .need (((0 : Nat) + 1 : Nat) ≤ 1) <|
  .need (((0 : Nat) + 1 : Nat) ≤ 1) <|
  .need (((0 : Nat) + 1 : Nat) ≤ 1) <|
  .need (((0 : Nat) + 1 : Nat) ≤ 1) <|
  .need ((0 : Nat) < 4) <|
  .need ((1 : Nat) < 4) <|
  .need ((2 : Nat) < 4) <|
  .need ((3 : Nat) < 4) <|
  .need (((0 : Nat) + 4 : Nat) ≤ 4) <|
  let y7 : Int := (iconv .u8 (imax (fn67 x) 0))
  let y8 : Int := (imul .u8 8 y7)
  let y9 : (Int × Int) := (1, 0)
  let y10 : (Int × (Int × Int)) := ((-1), y9)
  let y11 : (Int × (Int × Int)) := ((-1), (2, 0))
  let y12 : Int := (iconv .i64 y7)
  let y13 : (Int × Int) := (1, 1)
  let y14 : (Int × Int) := (1, 4)
  let y15 : (List Drow) := [(4, ((ByteArray.mk #[114, 109]), ((ByteArray.mk #[114]), (0, ([(iadd .u8 y8 1)], y10))))), (4, ((ByteArray.mk #[114]), ((ByteArray.mk #[109]), (0, ([(iadd .u8 y8 3)], y11))))), (4, ((ByteArray.mk #[114, 109]), ((ByteArray.mk #[105, 56]), (0, ([131], (y12, y13)))))), (4, ((ByteArray.mk #[114, 109]), ((ByteArray.mk #[105, 51, 50]), (0, ([129], (y12, y14))))))]
  .ret y15) (
  .ite (ieq x 4) (
  .need ((0 : Nat) < 1) <|
  .need ((0 : Nat) < 1) <|
  .need ((0 : Nat) < 1) <|
  .need ((0 : Nat) < 1) <|
  .need (((0 : Nat) + 1 : Nat) ≤ 1) <|
  .need (((0 : Nat) + 1 : Nat) ≤ 1) <|
  .need (((0 : Nat) + 1 : Nat) ≤ 1) <|
  .need (((0 : Nat) + 1 : Nat) ≤ 1) <|
  .need ((0 : Nat) < 4) <|
  .need ((1 : Nat) < 4) <|
  .need ((2 : Nat) < 4) <|
  .need ((3 : Nat) < 4) <|
  .need (((0 : Nat) + 4 : Nat) ≤ 4) <|
  let y16 : Int := (iconv .u8 (imax (fn67 x) 0))
  let y17 : Int := (imul .u8 8 y16)
  let y18 : (Int × Int) := (1, 0)
  let y19 : (Int × (Int × Int)) := ((-1), y18)
  let y20 : (Int × (Int × Int)) := ((-1), (2, 0))
  let y21 : Int := (iconv .i64 y16)
  let y22 : (Int × Int) := (1, 1)
  let y23 : (Int × Int) := (1, 4)
  let y24 : (List Drow) := [(4, ((ByteArray.mk #[114, 109]), ((ByteArray.mk #[114]), (0, ([(iadd .u8 y17 1)], y19))))), (4, ((ByteArray.mk #[114]), ((ByteArray.mk #[109]), (0, ([(iadd .u8 y17 3)], y20))))), (4, ((ByteArray.mk #[114, 109]), ((ByteArray.mk #[105, 56]), (0, ([131], (y21, y22)))))), (4, ((ByteArray.mk #[114, 109]), ((ByteArray.mk #[105, 51, 50]), (0, ([129], (y21, y23))))))]
  .ret y24) (
  .ite (ieq x 5) (
  .need ((0 : Nat) < 1) <|
  .need ((0 : Nat) < 1) <|
  .need ((0 : Nat) < 1) <|
  .need ((0 : Nat) < 1) <|
  .need (((0 : Nat) + 1 : Nat) ≤ 1) <|
  .need (((0 : Nat) + 1 : Nat) ≤ 1) <|
  .need (((0 : Nat) + 1 : Nat) ≤ 1) <|
  .need (((0 : Nat) + 1 : Nat) ≤ 1) <|
  .need ((0 : Nat) < 4) <|
  .need ((1 : Nat) < 4) <|
  .need ((2 : Nat) < 4) <|
  .need ((3 : Nat) < 4) <|
  .need (((0 : Nat) + 4 : Nat) ≤ 4) <|
  let y25 : Int := (iconv .u8 (imax (fn67 x) 0))
  let y26 : Int := (imul .u8 8 y25)
  let y27 : (Int × Int) := (1, 0)
  let y28 : (Int × (Int × Int)) := ((-1), y27)
  let y29 : (Int × (Int × Int)) := ((-1), (2, 0))
  let y30 : Int := (iconv .i64 y25)
  let y31 : (Int × Int) := (1, 1)
  let y32 : (Int × Int) := (1, 4)
  let y33 : (List Drow) := [(4, ((ByteArray.mk #[114, 109]), ((ByteArray.mk #[114]), (0, ([(iadd .u8 y26 1)], y28))))), (4, ((ByteArray.mk #[114]), ((ByteArray.mk #[109]), (0, ([(iadd .u8 y26 3)], y29))))), (4, ((ByteArray.mk #[114, 109]), ((ByteArray.mk #[105, 56]), (0, ([131], (y30, y31)))))), (4, ((ByteArray.mk #[114, 109]), ((ByteArray.mk #[105, 51, 50]), (0, ([129], (y30, y32))))))]
  .ret y33) (
  .ite (ieq x 6) (
  .need ((0 : Nat) < 1) <|
  .need ((0 : Nat) < 1) <|
  .need ((0 : Nat) < 1) <|
  .need ((0 : Nat) < 1) <|
  .need (((0 : Nat) + 1 : Nat) ≤ 1) <|
  .need (((0 : Nat) + 1 : Nat) ≤ 1) <|
  .need (((0 : Nat) + 1 : Nat) ≤ 1) <|
  .need (((0 : Nat) + 1 : Nat) ≤ 1) <|
  .need ((0 : Nat) < 4) <|
  .need ((1 : Nat) < 4) <|
  .need ((2 : Nat) < 4) <|
  .need ((3 : Nat) < 4) <|
  .need (((0 : Nat) + 4 : Nat) ≤ 4) <|
  let y34 : Int := (iconv .u8 (imax (fn67 x) 0))
  let y35 : Int := (imul .u8 8 y34)
  let y36 : (Int × Int) := (1, 0)
  let y37 : (Int × (Int × Int)) := ((-1), y36)
  let y38 : (Int × (Int × Int)) := ((-1), (2, 0))
  let y39 : Int := (iconv .i64 y34)
  let y40 : (Int × Int) := (1, 1)
  let y41 : (Int × Int) := (1, 4)
  let y42 : (List Drow) := [(4, ((ByteArray.mk #[114, 109]), ((ByteArray.mk #[114]), (0, ([(iadd .u8 y35 1)], y37))))), (4, ((ByteArray.mk #[114]), ((ByteArray.mk #[109]), (0, ([(iadd .u8 y35 3)], y38))))), (4, ((ByteArray.mk #[114, 109]), ((ByteArray.mk #[105, 56]), (0, ([131], (y39, y40)))))), (4, ((ByteArray.mk #[114, 109]), ((ByteArray.mk #[105, 51, 50]), (0, ([129], (y39, y41))))))]
  .ret y42) (
  .ite (ieq x 7) (
  .need ((0 : Nat) < 1) <|
  .need ((0 : Nat) < 1) <|
  .need ((0 : Nat) < 1) <|
  .need ((0 : Nat) < 1) <|
  .need (((0 : Nat) + 1 : Nat) ≤ 1) <|
  .need (((0 : Nat) + 1 : Nat) ≤ 1) <|
  .need (((0 : Nat) + 1 : Nat) ≤ 1) <|
  .need (((0 : Nat) + 1 : Nat) ≤ 1) <|
  .need ((0 : Nat) < 4) <|
  .need ((1 : Nat) < 4) <|
  .need ((2 : Nat) < 4) <|
  .need ((3 : Nat) < 4) <|
  .need (((0 : Nat) + 4 : Nat) ≤ 4) <|
  let y43 : Int := (iconv .u8 (imax (fn67 x) 0))
  let y44 : Int := (imul .u8 8 y43)
  let y45 : (Int × Int) := (1, 0)
  let y46 : (Int × (Int × Int)) := ((-1), y45)
  let y47 : (Int × (Int × Int)) := ((-1), (2, 0))
  let y48 : Int := (iconv .i64 y43)
  let y49 : (Int × Int) := (1, 1)
  let y50 : (Int × Int) := (1, 4)
  let y51 : (List Drow) := [(4, ((ByteArray.mk #[114, 109]), ((ByteArray.mk #[114]), (0, ([(iadd .u8 y44 1)], y46))))), (4, ((ByteArray.mk #[114]), ((ByteArray.mk #[109]), (0, ([(iadd .u8 y44 3)], y47))))), (4, ((ByteArray.mk #[114, 109]), ((ByteArray.mk #[105, 56]), (0, ([131], (y48, y49)))))), (4, ((ByteArray.mk #[114, 109]), ((ByteArray.mk #[105, 51, 50]), (0, ([129], (y48, y50))))))]
  .ret y51) (
  .ite (ieq x 8) (
  .need ((0 : Nat) < 1) <|
  .need ((0 : Nat) < 1) <|
  .need ((0 : Nat) < 1) <|
  .need ((0 : Nat) < 1) <|
  .need (((0 : Nat) + 1 : Nat) ≤ 1) <|
  .need (((0 : Nat) + 1 : Nat) ≤ 1) <|
  .need (((0 : Nat) + 1 : Nat) ≤ 1) <|
  .need (((0 : Nat) + 1 : Nat) ≤ 1) <|
  .need ((0 : Nat) < 4) <|
  .need ((1 : Nat) < 4) <|
  .need ((2 : Nat) < 4) <|
  .need ((3 : Nat) < 4) <|
  .need (((0 : Nat) + 4 : Nat) ≤ 4) <|
  let y52 : Int := (iconv .u8 (imax (fn67 x) 0))
  let y53 : Int := (imul .u8 8 y52)
  let y54 : (Int × Int) := (1, 0)
  let y55 : (Int × (Int × Int)) := ((-1), y54)
  let y56 : (Int × (Int × Int)) := ((-1), (2, 0))
  let y57 : Int := (iconv .i64 y52)
  let y58 : (Int × Int) := (1, 1)
  let y59 : (Int × Int) := (1, 4)
  let y60 : (List Drow) := [(4, ((ByteArray.mk #[114, 109]), ((ByteArray.mk #[114]), (0, ([(iadd .u8 y53 1)], y55))))), (4, ((ByteArray.mk #[114]), ((ByteArray.mk #[109]), (0, ([(iadd .u8 y53 3)], y56))))), (4, ((ByteArray.mk #[114, 109]), ((ByteArray.mk #[105, 56]), (0, ([131], (y57, y58)))))), (4, ((ByteArray.mk #[114, 109]), ((ByteArray.mk #[105, 51, 50]), (0, ([129], (y57, y59))))))]
  .ret y60) (
  .ite (ieq x 9) (
  .need ((0 : Nat) < 1) <|
  .need ((0 : Nat) < 1) <|
  .need ((0 : Nat) < 1) <|
  .need ((0 : Nat) < 1) <|
  .need (((0 : Nat) + 1 : Nat) ≤ 1) <|
  .need (((0 : Nat) + 1 : Nat) ≤ 1) <|
  .need (((0 : Nat) + 1 : Nat) ≤ 1) <|
  .need (((0 : Nat) + 1 : Nat) ≤ 1) <|
  .need ((0 : Nat) < 4) <|
  .need ((1 : Nat) < 4) <|
  .need ((2 : Nat) < 4) <|
  .need ((3 : Nat) < 4) <|
  .need (((0 : Nat) + 4 : Nat) ≤ 4) <|
  let y61 : Int := (iconv .u8 (imax (fn67 x) 0))
  let y62 : Int := (imul .u8 8 y61)
  let y63 : (Int × Int) := (1, 0)
  let y64 : (Int × (Int × Int)) := ((-1), y63)
  let y65 : (Int × (Int × Int)) := ((-1), (2, 0))
  let y66 : Int := (iconv .i64 y61)
  let y67 : (Int × Int) := (1, 1)
  let y68 : (Int × Int) := (1, 4)
  let y69 : (List Drow) := [(4, ((ByteArray.mk #[114, 109]), ((ByteArray.mk #[114]), (0, ([(iadd .u8 y62 1)], y64))))), (4, ((ByteArray.mk #[114]), ((ByteArray.mk #[109]), (0, ([(iadd .u8 y62 3)], y65))))), (4, ((ByteArray.mk #[114, 109]), ((ByteArray.mk #[105, 56]), (0, ([131], (y66, y67)))))), (4, ((ByteArray.mk #[114, 109]), ((ByteArray.mk #[105, 51, 50]), (0, ([129], (y66, y68))))))]
  .ret y69) (
  .ite (ieq x 10) (
  .need ((0 : Nat) < 1) <|
  .need ((0 : Nat) < 1) <|
  .need ((0 : Nat) < 1) <|
  .need ((0 : Nat) < 1) <|
  .need (((0 : Nat) + 1 : Nat) ≤ 1) <|
  .need (((0 : Nat) + 1 : Nat) ≤ 1) <|
  .need (((0 : Nat) + 1 : Nat) ≤ 1) <|
  .need (((0 : Nat) + 1 : Nat) ≤ 1) <|
  .need ((0 : Nat) < 4) <|
  .need ((1 : Nat) < 4) <|
  .need ((2 : Nat) < 4) <|
  .need ((3 : Nat) < 4) <|
  .need (((0 : Nat) + 4 : Nat) ≤ 4) <|
  let y70 : Int := (iconv .u8 (imax (fn67 x) 0))
  let y71 : Int := (imul .u8 8 y70)
  let y72 : (Int × Int) := (1, 0)
  let y73 : (Int × (Int × Int)) := ((-1), y72)
  let y74 : (Int × (Int × Int)) := ((-1), (2, 0))
  let y75 : Int := (iconv .i64 y70)
  let y76 : (Int × Int) := (1, 1)
  let y77 : (Int × Int) := (1, 4)
  let y78 : (List Drow) := [(4, ((ByteArray.mk #[114, 109]), ((ByteArray.mk #[114]), (0, ([(iadd .u8 y71 1)], y73))))), (4, ((ByteArray.mk #[114]), ((ByteArray.mk #[109]), (0, ([(iadd .u8 y71 3)], y74))))), (4, ((ByteArray.mk #[114, 109]), ((ByteArray.mk #[105, 56]), (0, ([131], (y75, y76)))))), (4, ((ByteArray.mk #[114, 109]), ((ByteArray.mk #[105, 51, 50]), (0, ([129], (y75, y77))))))]
  .ret y78) (
  .ite (ieq x 11) (
  .need ((0 : Nat) < 1) <|
  .need ((0 : Nat) < 1) <|
  .need (((0 : Nat) + 1 : Nat) ≤ 1) <|
  .need (((0 : Nat) + 1 : Nat) ≤ 1) <|
  .need ((0 : Nat) < 2) <|
  .need ((1 : Nat) < 2) <|
  .need (((0 : Nat) + 2 : Nat) ≤ 2) <|
  let y79 : (Int × Int) := (1, 0)
  let y80 : (Int × (Int × Int)) := ((-1), y79)
  let y81 : (Int × Int) := (1, 4)
  let y82 : (Int × (Int × Int)) := (0, y81)
  .ret [(4, ((ByteArray.mk #[114, 109]), ((ByteArray.mk #[114]), (0, ([133], y80))))), (4, ((ByteArray.mk #[114, 109]), ((ByteArray.mk #[105, 51, 50]), (0, ([247], y82)))))]) (
  .ite (ieq x 12) (
  .need ((0 : Nat) < 1) <|
  .need (((0 : Nat) + 1 : Nat) ≤ 1) <|
  .need ((0 : Nat) < 1) <|
  .need (((0 : Nat) + 1 : Nat) ≤ 1) <|
  let y83 : (Int × Int) := (1, 0)
  let y84 : (Int × (Int × Int)) := ((fn68 x), y83)
  let y85 : (List Drow) := [(4, ((ByteArray.mk #[114, 109]), ((ByteArray.mk #[45]), (0, ([255], y84)))))]
  .ret y85) (
  .ite (ieq x 13) (
  .need ((0 : Nat) < 1) <|
  .need (((0 : Nat) + 1 : Nat) ≤ 1) <|
  .need ((0 : Nat) < 1) <|
  .need (((0 : Nat) + 1 : Nat) ≤ 1) <|
  let y86 : (Int × Int) := (1, 0)
  let y87 : (Int × (Int × Int)) := ((fn68 x), y86)
  let y88 : (List Drow) := [(4, ((ByteArray.mk #[114, 109]), ((ByteArray.mk #[45]), (0, ([255], y87)))))]
  .ret y88) (
  .ite (ieq x 15) (
  .need ((0 : Nat) < 1) <|
  .need (((0 : Nat) + 1 : Nat) ≤ 1) <|
  .need ((0 : Nat) < 1) <|
  .need (((0 : Nat) + 1 : Nat) ≤ 1) <|
  let y89 : (Int × Int) := (1, 0)
  let y90 : (Int × (Int × Int)) := ((fn68 x), y89)
  let y91 : (List Drow) := [(4, ((ByteArray.mk #[114, 109]), ((ByteArray.mk #[45]), (0, ([247], y90)))))]
  .ret y91) (
  .ite (ieq x 14) (
  .need ((0 : Nat) < 1) <|
  .need (((0 : Nat) + 1 : Nat) ≤ 1) <|
  .need ((0 : Nat) < 1) <|
  .need (((0 : Nat) + 1 : Nat) ≤ 1) <|
  let y92 : (Int × Int) := (1, 0)
  let y93 : (Int × (Int × Int)) := ((fn68 x), y92)
  let y94 : (List Drow) := [(4, ((ByteArray.mk #[114, 109]), ((ByteArray.mk #[45]), (0, ([247], y93)))))]
  .ret y94) (
  .ite (ieq x 22) (
  .need ((0 : Nat) < 1) <|
  .need (((0 : Nat) + 1 : Nat) ≤ 1) <|
  .need ((0 : Nat) < 1) <|
  .need (((0 : Nat) + 1 : Nat) ≤ 1) <|
  let y95 : (Int × Int) := (1, 0)
  let y96 : (Int × (Int × Int)) := ((fn68 x), y95)
  let y97 : (List Drow) := [(4, ((ByteArray.mk #[114, 109]), ((ByteArray.mk #[45]), (0, ([247], y96)))))]
  .ret y97) (
  .ite (ieq x 23) (
  .need ((0 : Nat) < 1) <|
  .need (((0 : Nat) + 1 : Nat) ≤ 1) <|
  .need ((0 : Nat) < 1) <|
  .need (((0 : Nat) + 1 : Nat) ≤ 1) <|
  let y98 : (Int × Int) := (1, 0)
  let y99 : (Int × (Int × Int)) := ((fn68 x), y98)
  let y100 : (List Drow) := [(4, ((ByteArray.mk #[114, 109]), ((ByteArray.mk #[45]), (0, ([247], y99)))))]
  .ret y100) (
  .ite (ieq x 19) (
  .need ((0 : Nat) < 1) <|
  .need ((0 : Nat) < 1) <|
  .need (((0 : Nat) + 1 : Nat) ≤ 1) <|
  .need (((0 : Nat) + 1 : Nat) ≤ 1) <|
  .need ((0 : Nat) < 2) <|
  .need ((1 : Nat) < 2) <|
  .need (((0 : Nat) + 2 : Nat) ≤ 2) <|
  let y101 : (Int × Int) := (1, 1)
  let y102 : (Int × Int) := (1, 0)
  let y103 : (Int × (Int × Int)) := ((fn68 x), y102)
  let y104 : (List Drow) := [(4, ((ByteArray.mk #[114, 109]), ((ByteArray.mk #[117, 56]), (0, ([193], ((fn68 x), y101)))))), (4, ((ByteArray.mk #[114, 109]), ((ByteArray.mk #[99, 108]), (0, ([211], y103)))))]
  .ret y104) (
  .ite (ieq x 20) (
  .need ((0 : Nat) < 1) <|
  .need ((0 : Nat) < 1) <|
  .need (((0 : Nat) + 1 : Nat) ≤ 1) <|
  .need (((0 : Nat) + 1 : Nat) ≤ 1) <|
  .need ((0 : Nat) < 2) <|
  .need ((1 : Nat) < 2) <|
  .need (((0 : Nat) + 2 : Nat) ≤ 2) <|
  let y105 : (Int × Int) := (1, 1)
  let y106 : (Int × Int) := (1, 0)
  let y107 : (Int × (Int × Int)) := ((fn68 x), y106)
  let y108 : (List Drow) := [(4, ((ByteArray.mk #[114, 109]), ((ByteArray.mk #[117, 56]), (0, ([193], ((fn68 x), y105)))))), (4, ((ByteArray.mk #[114, 109]), ((ByteArray.mk #[99, 108]), (0, ([211], y107)))))]
  .ret y108) (
  .ite (ieq x 16) (
  .need ((0 : Nat) < 1) <|
  .need ((0 : Nat) < 1) <|
  .need (((0 : Nat) + 1 : Nat) ≤ 1) <|
  .need (((0 : Nat) + 1 : Nat) ≤ 1) <|
  .need ((0 : Nat) < 2) <|
  .need ((1 : Nat) < 2) <|
  .need (((0 : Nat) + 2 : Nat) ≤ 2) <|
  let y109 : (Int × Int) := (1, 1)
  let y110 : (Int × Int) := (1, 0)
  let y111 : (Int × (Int × Int)) := ((fn68 x), y110)
  let y112 : (List Drow) := [(4, ((ByteArray.mk #[114, 109]), ((ByteArray.mk #[117, 56]), (0, ([193], ((fn68 x), y109)))))), (4, ((ByteArray.mk #[114, 109]), ((ByteArray.mk #[99, 108]), (0, ([211], y111)))))]
  .ret y112) (
  .ite (ieq x 17) (
  .need ((0 : Nat) < 1) <|
  .need ((0 : Nat) < 1) <|
  .need (((0 : Nat) + 1 : Nat) ≤ 1) <|
  .need (((0 : Nat) + 1 : Nat) ≤ 1) <|
  .need ((0 : Nat) < 2) <|
  .need ((1 : Nat) < 2) <|
  .need (((0 : Nat) + 2 : Nat) ≤ 2) <|
  let y113 : (Int × Int) := (1, 1)
  let y114 : (Int × Int) := (1, 0)
  let y115 : (Int × (Int × Int)) := ((fn68 x), y114)
  let y116 : (List Drow) := [(4, ((ByteArray.mk #[114, 109]), ((ByteArray.mk #[117, 56]), (0, ([193], ((fn68 x), y113)))))), (4, ((ByteArray.mk #[114, 109]), ((ByteArray.mk #[99, 108]), (0, ([211], y115)))))]
  .ret y116) (
  .ite (ieq x 18) (
  .need ((0 : Nat) < 1) <|
  .need ((0 : Nat) < 1) <|
  .need (((0 : Nat) + 1 : Nat) ≤ 1) <|
  .need (((0 : Nat) + 1 : Nat) ≤ 1) <|
  .need ((0 : Nat) < 2) <|
  .need ((1 : Nat) < 2) <|
  .need (((0 : Nat) + 2 : Nat) ≤ 2) <|
  let y117 : (Int × Int) := (1, 1)
  let y118 : (Int × Int) := (1, 0)
  let y119 : (Int × (Int × Int)) := ((fn68 x), y118)
  let y120 : (List Drow) := [(4, ((ByteArray.mk #[114, 109]), ((ByteArray.mk #[117, 56]), (0, ([193], ((fn68 x), y117)))))), (4, ((ByteArray.mk #[114, 109]), ((ByteArray.mk #[99, 108]), (0, ([211], y119)))))]
  .ret y120) (
  .ite (ieq x 21) (
  .need ((0 : Nat) < 2) <|
  .need ((1 : Nat) < 2) <|
  .need (((0 : Nat) + 2 : Nat) ≤ 2) <|
  .need ((0 : Nat) < 1) <|
  .need (((0 : Nat) + 1 : Nat) ≤ 1) <|
  let y121 : (Int × (Int × Int)) := ((-1), (2, 0))
  .ret [(4, ((ByteArray.mk #[114]), ((ByteArray.mk #[114, 109]), (0, ([15, 175], y121)))))]) (
  .ret ([] : List Drow))))))))))))))))))))))))
noncomputable def fn57 (x : Int) : (List Drow) := (tree57 x).val
def pre57 (x : Int) : Prop := (tree57 x).ok
noncomputable def spec57 : Spec := { dom := (.st1 (.int .u8)), cod := (.slice Crow), n := 1, pre := pre57, f := fn57 }
noncomputable def need57 : FuncId → Option Spec
  | 67 => some spec67
  | 68 => some spec68
  | _ => none
theorem need57_ok : ∀ f sp, need57 f = some sp → SpecOk env0 f sp := by
  intro f sp h
  unfold need57 at h
  split at h
  · cases h; exact ok67
  · cases h; exact ok68
  · cases h
theorem run57 (W : Cfg) (Q : (List Drow) → Prop) (x : Int) : run (env need57 (fun _ _ => none)) (fun _ _ _ => none) (finS spec57 Q) W 100000 (startFr 57 Tryd.f57 (bodyOf Tryd.f57) (argsOf (.st1 (.int .u8)) x)) [] [] = (tree57 x).wp Q := by kernel_rfl
theorem ok57 : SpecOk env0 57 spec57 := SpecOk.env rfl (fun _ _ h => h) (spec_of_tree (E := (env need57 (fun _ _ => none))) (sp := spec57) (valid _ _) (fun f sp h => SpecOk.env rfl (fun _ _ h => h) (need57_ok f sp h)) (fn := Tryd.f57) (c := (bodyOf Tryd.f57)) (by kernel_rfl) (by kernel_rfl) tree57 run57 (fun _ h => Tr.gives_val h))

/-! ### sundial/sundialref10.rows -/
noncomputable def tree18 (x : (Int × Int)) : Tr (List Drow) :=
  .need ((16 : Int) ≠ 0) <|
  .ite (ieq x.1 24) (
  .need ((0 : Nat) < 1) <|
  .need (((0 : Nat) + 1 : Nat) ≤ 1) <|
  .need ((0 : Nat) < 1) <|
  .need (((0 : Nat) + 1 : Nat) ≤ 1) <|
  let y0 : (Int × (Int × Int)) := (0, (3, 0))
  .ret [(16, ((ByteArray.mk #[114]), ((ByteArray.mk #[45]), (0, ([80], y0)))))]) (
  .ite (ieq x.1 25) (
  .need ((0 : Nat) < 1) <|
  .need (((0 : Nat) + 1 : Nat) ≤ 1) <|
  .need ((0 : Nat) < 1) <|
  .need (((0 : Nat) + 1 : Nat) ≤ 1) <|
  let y1 : (Int × (Int × Int)) := (0, (3, 0))
  .ret [(16, ((ByteArray.mk #[114]), ((ByteArray.mk #[45]), (0, ([88], y1)))))]) (
  .ite (ieq x.1 26) (
  .need ((0 : Nat) < 1) <|
  .need (((0 : Nat) + 1 : Nat) ≤ 1) <|
  .need ((0 : Nat) < 1) <|
  .need (((0 : Nat) + 1 : Nat) ≤ 1) <|
  let y2 : (Int × (Int × Int)) := (0, (0, 4))
  .ret [(16, ((ByteArray.mk #[45]), ((ByteArray.mk #[105, 51, 50]), (0, ([232], y2)))))]) (
  .ite (ieq x.1 28) (
  .need ((0 : Nat) < 1) <|
  .need ((0 : Nat) < 1) <|
  .need (((0 : Nat) + 1 : Nat) ≤ 1) <|
  .need (((0 : Nat) + 1 : Nat) ≤ 1) <|
  .need ((0 : Nat) < 2) <|
  .need ((1 : Nat) < 2) <|
  .need (((0 : Nat) + 2 : Nat) ≤ 2) <|
  let y3 : (Int × (Int × Int)) := (0, (0, 4))
  let y4 : (Int × Int) := (1, 0)
  .ret [(16, ((ByteArray.mk #[45]), ((ByteArray.mk #[105, 51, 50]), (0, ([233], y3))))), (16, ((ByteArray.mk #[114, 109]), ((ByteArray.mk #[45]), (0, ([255], (4, y4))))))]) (
  .ite (ieq x.1 29) (
  .need ((0 : Nat) < 2) <|
  .need ((1 : Nat) < 2) <|
  .need (((0 : Nat) + 2 : Nat) ≤ 2) <|
  .need ((0 : Nat) < 1) <|
  .need (((0 : Nat) + 1 : Nat) ≤ 1) <|
  let y5 : Int := (irem .u8 x.2 16)
  let y6 : (Int × (Int × Int)) := (0, (0, 4))
  .ret [(16, ((ByteArray.mk #[45]), ((ByteArray.mk #[105, 51, 50]), (0, ([15, (iadd .u8 128 y5)], y6)))))]) (
  .ite (ieq x.1 27) (
  .need ((0 : Nat) < 1) <|
  .need (((0 : Nat) + 1 : Nat) ≤ 1) <|
  .need ((0 : Nat) < 1) <|
  .need (((0 : Nat) + 1 : Nat) ≤ 1) <|
  let y7 : (Int × (Int × Int)) := (0, (0, 0))
  .ret [(16, ((ByteArray.mk #[45]), ((ByteArray.mk #[45]), (0, ([195], y7)))))]) (
  .ite (ieq x.1 34) (
  .need ((0 : Nat) < 1) <|
  .need (((0 : Nat) + 1 : Nat) ≤ 1) <|
  .need ((0 : Nat) < 1) <|
  .need (((0 : Nat) + 1 : Nat) ≤ 1) <|
  let y8 : (Int × (Int × Int)) := (0, (0, 0))
  .ret [(16, ((ByteArray.mk #[45]), ((ByteArray.mk #[45]), (0, ([144], y8)))))]) (
  .ite (ieq x.1 30) (
  .need ((0 : Nat) < 2) <|
  .need ((1 : Nat) < 2) <|
  .need (((0 : Nat) + 2 : Nat) ≤ 2) <|
  .need ((0 : Nat) < 1) <|
  .need (((0 : Nat) + 1 : Nat) ≤ 1) <|
  let y9 : Int := (irem .u8 x.2 16)
  let y10 : (Int × (Int × Int)) := ((-1), (2, 0))
  .ret [(4, ((ByteArray.mk #[114]), ((ByteArray.mk #[114, 109]), (0, ([15, (iadd .u8 64 y9)], y10)))))]) (
  .ite (ieq x.1 31) (
  .need ((0 : Nat) < 2) <|
  .need ((1 : Nat) < 2) <|
  .need (((0 : Nat) + 2 : Nat) ≤ 2) <|
  .need ((0 : Nat) < 1) <|
  .need (((0 : Nat) + 1 : Nat) ≤ 1) <|
  let y11 : Int := (irem .u8 x.2 16)
  let y12 : (Int × Int) := (1, 0)
  .ret [(1, ((ByteArray.mk #[114, 109]), ((ByteArray.mk #[45]), (0, ([15, (iadd .u8 144 y11)], (0, y12))))))]) (
  .ite (ieq x.1 32) (
  .need ((0 : Nat) < 2) <|
  .need ((1 : Nat) < 2) <|
  .need (((0 : Nat) + 2 : Nat) ≤ 2) <|
  .need ((0 : Nat) < 1) <|
  .need (((0 : Nat) + 1 : Nat) ≤ 1) <|
  let y13 : (Int × (Int × Int)) := ((-1), (2, 0))
  .ret [(4, ((ByteArray.mk #[114]), ((ByteArray.mk #[114, 109]), (0, ([15, 182], y13)))))]) (
  .ite (ieq x.1 33) (
  .need ((0 : Nat) < 2) <|
  .need ((1 : Nat) < 2) <|
  .need (((0 : Nat) + 2 : Nat) ≤ 2) <|
  .need ((0 : Nat) < 1) <|
  .need (((0 : Nat) + 1 : Nat) ≤ 1) <|
  let y14 : (Int × (Int × Int)) := ((-1), (2, 0))
  .ret [(4, ((ByteArray.mk #[114]), ((ByteArray.mk #[114, 109]), (0, ([15, 190], y14)))))]) (
  .ite (ieq x.1 35) (
  .need ((0 : Nat) < 2) <|
  .need ((1 : Nat) < 2) <|
  .need ((0 : Nat) < 2) <|
  .need ((1 : Nat) < 2) <|
  .need (((0 : Nat) + 2 : Nat) ≤ 2) <|
  .need (((0 : Nat) + 2 : Nat) ≤ 2) <|
  .need ((0 : Nat) < 2) <|
  .need ((1 : Nat) < 2) <|
  .need (((0 : Nat) + 2 : Nat) ≤ 2) <|
  let y15 : (Int × (Int × Int)) := ((-1), (2, 0))
  let y16 : (Int × Int) := (1, 0)
  .ret [(32, ((ByteArray.mk #[120]), ((ByteArray.mk #[120, 109]), (243, ([15, 111], y15))))), (32, ((ByteArray.mk #[109]), ((ByteArray.mk #[120]), (243, ([15, 127], ((-1), y16))))))]) (
  .ite (ieq x.1 36) (
  .need ((0 : Nat) < 2) <|
  .need ((1 : Nat) < 2) <|
  .need (((0 : Nat) + 2 : Nat) ≤ 2) <|
  .need ((0 : Nat) < 1) <|
  .need (((0 : Nat) + 1 : Nat) ≤ 1) <|
  let y17 : (Int × (Int × Int)) := ((-1), (2, 0))
  .ret [(32, ((ByteArray.mk #[120]), ((ByteArray.mk #[120, 109]), (102, ([15, 239], y17)))))]) (
  .ite (ieq x.1 37) (
  .need ((0 : Nat) < 3) <|
  .need ((1 : Nat) < 3) <|
  .need ((2 : Nat) < 3) <|
  .need (((0 : Nat) + 3 : Nat) ≤ 3) <|
  .need ((0 : Nat) < 1) <|
  .need (((0 : Nat) + 1 : Nat) ≤ 1) <|
  let y18 : (Int × (Int × Int)) := ((-1), (2, 0))
  .ret [(32, ((ByteArray.mk #[120]), ((ByteArray.mk #[120, 109]), (102, ([15, 56, 220], y18)))))]) (
  .ite (ieq x.1 38) (
  .need ((0 : Nat) < 3) <|
  .need ((1 : Nat) < 3) <|
  .need ((2 : Nat) < 3) <|
  .need (((0 : Nat) + 3 : Nat) ≤ 3) <|
  .need ((0 : Nat) < 1) <|
  .need (((0 : Nat) + 1 : Nat) ≤ 1) <|
  let y19 : (Int × (Int × Int)) := ((-1), (2, 0))
  .ret [(32, ((ByteArray.mk #[120]), ((ByteArray.mk #[120, 109]), (102, ([15, 56, 221], y19)))))]) (
  .ite (ieq x.1 39) (
  .need ((0 : Nat) < 3) <|
  .need ((1 : Nat) < 3) <|
  .need ((2 : Nat) < 3) <|
  .need (((0 : Nat) + 3 : Nat) ≤ 3) <|
  .need ((0 : Nat) < 1) <|
  .need (((0 : Nat) + 1 : Nat) ≤ 1) <|
  .ret [(32, ((ByteArray.mk #[120]), ((ByteArray.mk #[120, 109]), (102, ([15, 58, 68], ((-1), (2, 1)))))))]) (
  .need (pre57 x.1) <|
  .ret (fn57 x.1)))))))))))))))))
noncomputable def fn18 (x : (Int × Int)) : (List Drow) := (tree18 x).val
def pre18 (x : (Int × Int)) : Prop := (tree18 x).ok
noncomputable def spec18 : Spec := { dom := (.st (.int .u8) (.st1 (.int .u8))), cod := (.slice Crow), n := 1, pre := pre18, f := fn18 }
noncomputable def need18 : FuncId → Option Spec
  | 57 => some spec57
  | _ => none
theorem need18_ok : ∀ f sp, need18 f = some sp → SpecOk env0 f sp := by
  intro f sp h
  unfold need18 at h
  split at h
  · cases h; exact ok57
  · cases h
theorem run18 (W : Cfg) (Q : (List Drow) → Prop) (x : (Int × Int)) : run (env need18 (fun _ _ => none)) (fun _ _ _ => none) (finS spec18 Q) W 100000 (startFr 18 Tryd.f18 (bodyOf Tryd.f18) (argsOf (.st (.int .u8) (.st1 (.int .u8))) x)) [] [] = (tree18 x).wp Q := by kernel_rfl
theorem ok18 : SpecOk env0 18 spec18 := SpecOk.env rfl (fun _ _ h => h) (spec_of_tree (E := (env need18 (fun _ _ => none))) (sp := spec18) (valid _ _) (fun f sp h => SpecOk.env rfl (fun _ _ h => h) (need18_ok f sp h)) (fn := Tryd.f18) (c := (bodyOf Tryd.f18)) (by kernel_rfl) (by kernel_rfl) tree18 run18 (fun _ h => Tr.gives_val h))

/-! ### sundial/sundialref10.fits -/
noncomputable def tree19 (x : (Int × Int)) : Tr Bool :=
  .ite (ieq x.2 4) (
  .ite ((ieq x.1 4) == false) (
  let y0 : Bool := (ieq x.1 8)
  .ret y0) (
  .ret true)) (
  .ite (ieq x.2 16) (
  let y1 : Bool := (ieq x.1 8)
  .ret y1) (
  .ite (ieq x.2 32) (
  .ret (ieq x.1 16)) (
  .ret (ieq x.1 x.2))))
noncomputable def fn19 (x : (Int × Int)) : Bool := (tree19 x).val
def pre19 (x : (Int × Int)) : Prop := (tree19 x).ok
noncomputable def spec19 : Spec := { dom := (.st (.int .i64) (.st1 (.int .i64))), cod := .bool, n := 1, pre := pre19, f := fn19 }
noncomputable def need19 : FuncId → Option Spec
  | _ => none
theorem need19_ok : ∀ f sp, need19 f = some sp → SpecOk env0 f sp := by
  intro f sp h
  unfold need19 at h
  split at h
  · cases h
theorem run19 (W : Cfg) (Q : Bool → Prop) (x : (Int × Int)) : run (env need19 (fun _ _ => none)) (fun _ _ _ => none) (finS spec19 Q) W 100000 (startFr 19 Tryd.f19 (bodyOf Tryd.f19) (argsOf (.st (.int .i64) (.st1 (.int .i64))) x)) [] [] = (tree19 x).wp Q := by kernel_rfl
theorem ok19 : SpecOk env0 19 spec19 := SpecOk.env rfl (fun _ _ h => h) (spec_of_tree (E := (env need19 (fun _ _ => none))) (sp := spec19) (valid _ _) (fun f sp h => SpecOk.env rfl (fun _ _ h => h) (need19_ok f sp h)) (fn := Tryd.f19) (c := (bodyOf Tryd.f19)) (by kernel_rfl) (by kernel_rfl) tree19 run19 (fun _ h => Tr.gives_val h))

/-! ### sundial/sundialref08.Reg -/
noncomputable def tree13 (x : Int) : Tr DOperand :=
  .ret (1, (x, ((-1), ((-1), (0, (0, (false, 0)))))))
noncomputable def fn13 (x : Int) : DOperand := (tree13 x).val
def pre13 (x : Int) : Prop := (tree13 x).ok
noncomputable def spec13 : Spec := { dom := (.st1 (.int .i64)), cod := COperand, n := 1, pre := pre13, f := fn13 }
noncomputable def need13 : FuncId → Option Spec
  | _ => none
theorem need13_ok : ∀ f sp, need13 f = some sp → SpecOk env0 f sp := by
  intro f sp h
  unfold need13 at h
  split at h
  · cases h
theorem run13 (W : Cfg) (Q : DOperand → Prop) (x : Int) : run (env need13 (fun _ _ => none)) (fun _ _ _ => none) (finS spec13 Q) W 100000 (startFr 13 Tryd.f13 (bodyOf Tryd.f13) (argsOf (.st1 (.int .i64)) x)) [] [] = (tree13 x).wp Q := by kernel_rfl
theorem ok13 : SpecOk env0 13 spec13 := SpecOk.env rfl (fun _ _ h => h) (spec_of_tree (E := (env need13 (fun _ _ => none))) (sp := spec13) (valid _ _) (fun f sp h => SpecOk.env rfl (fun _ _ h => h) (need13_ok f sp h)) (fn := Tryd.f13) (c := (bodyOf Tryd.f13)) (by kernel_rfl) (by kernel_rfl) tree13 run13 (fun _ h => Tr.gives_val h))

/-! ### sundial/sundialref08.Right -/
noncomputable def tree58 (x : DOperand) : Tr Bool :=
  .ite (ieq x.1 1) (
  let y0 : Int := x.2.1
  .need (pre13 y0) <|
  .ite ((eqD COperand x (fn13 y0)) == true) (
  .ite ((ile 0 y0) == true) (
  .ret (ilt y0 16)) (
  .ret false)) (
  .ret false)) (
  .ite ((ine x.1 2) == false) (
  let y1 : Int := x.2.1
  .ite ((ine y1 0) == false) (
  let y2 : (Int × (Int × (Int × (Int × (Bool × Int))))) := x.2.2
  let y3 : (Int × (Int × (Int × (Bool × Int)))) := y2.2
  let y4 : (Int × (Int × (Bool × Int))) := y3.2
  let y5 : (Int × (Bool × Int)) := y4.2
  let y6 : (Bool × Int) := y5.2
  .ite ((ine y6.2 0) == false) (
  let y7 : Int := y5.1
  .ite ((ilt y7 (-2147483648)) == false) (
  .ite (ile 2147483648 y7) (
  .ret false) (
  .ite y6.1 (
  let y8 : Int := y2.1
  .ite ((ieq y8 (-1)) == true) (
  let y9 : Int := y3.1
  .ite ((ieq y9 (-1)) == true) (
  let y10 : Int := y4.1
  let y11 : Bool := (ieq y10 1)
  .ret y11) (
  .ret false)) (
  .ret false)) (
  let y12 : Int := y2.1
  .ite ((ilt y12 (-1)) == false) (
  .ite ((ilt 15 y12) == false) (
  let y13 : Int := y3.1
  .ite ((ilt y13 (-1)) == false) (
  .ite ((ilt 15 y13) == false) (
  .ite (ieq y13 4) (
  .ret false) (
  .ite (ilt y13 0) (
  let y14 : Int := y4.1
  let y15 : Bool := (ieq y14 1)
  .ret y15) (
  let y16 : Int := y4.1
  let y17 : Bool := (ieq y16 1)
  .ite (y17 == false) (
  .ite ((ieq y16 2) == false) (
  .ite ((ieq y16 4) == false) (
  .ret (ieq y16 8)) (
  .ret true)) (
  .ret true)) (
  .ret true)))) (
  .ret false)) (
  .ret false)) (
  .ret false)) (
  .ret false)))) (
  .ret false)) (
  .ret false)) (
  .ret false)) (
  .ret false))
noncomputable def fn58 (x : DOperand) : Bool := (tree58 x).val
def pre58 (x : DOperand) : Prop := (tree58 x).ok
noncomputable def spec58 : Spec := { dom := (.st1 COperand), cod := .bool, n := 1, pre := pre58, f := fn58 }
noncomputable def need58 : FuncId → Option Spec
  | 13 => some spec13
  | _ => none
theorem need58_ok : ∀ f sp, need58 f = some sp → SpecOk env0 f sp := by
  intro f sp h
  unfold need58 at h
  split at h
  · cases h; exact ok13
  · cases h
theorem run58 (W : Cfg) (Q : Bool → Prop) (x : DOperand) : run (env need58 (fun _ _ => none)) (fun _ _ _ => none) (finS spec58 Q) W 100000 (startFr 58 Tryd.f58 (bodyOf Tryd.f58) (argsOf (.st1 COperand) x)) [] [] = (tree58 x).wp Q := by kernel_rfl
theorem ok58 : SpecOk env0 58 spec58 := SpecOk.env rfl (fun _ _ h => h) (spec_of_tree (E := (env need58 (fun _ _ => none))) (sp := spec58) (valid _ _) (fun f sp h => SpecOk.env rfl (fun _ _ h => h) (need58_ok f sp h)) (fn := Tryd.f58) (c := (bodyOf Tryd.f58)) (by kernel_rfl) (by kernel_rfl) tree58 run58 (fun _ h => Tr.gives_val h))

/-! ### sundial/sundialref10.Imm -/
noncomputable def tree59 (x : Int) : Tr DOperand :=
  .ret (3, (0, ((-1), ((-1), (0, (0, (false, x)))))))
noncomputable def fn59 (x : Int) : DOperand := (tree59 x).val
def pre59 (x : Int) : Prop := (tree59 x).ok
noncomputable def spec59 : Spec := { dom := (.st1 (.int .i64)), cod := COperand, n := 1, pre := pre59, f := fn59 }
noncomputable def need59 : FuncId → Option Spec
  | _ => none
theorem need59_ok : ∀ f sp, need59 f = some sp → SpecOk env0 f sp := by
  intro f sp h
  unfold need59 at h
  split at h
  · cases h
theorem run59 (W : Cfg) (Q : DOperand → Prop) (x : Int) : run (env need59 (fun _ _ => none)) (fun _ _ _ => none) (finS spec59 Q) W 100000 (startFr 59 Tryd.f59 (bodyOf Tryd.f59) (argsOf (.st1 (.int .i64)) x)) [] [] = (tree59 x).wp Q := by kernel_rfl
theorem ok59 : SpecOk env0 59 spec59 := SpecOk.env rfl (fun _ _ h => h) (spec_of_tree (E := (env need59 (fun _ _ => none))) (sp := spec59) (valid _ _) (fun f sp h => SpecOk.env rfl (fun _ _ h => h) (need59_ok f sp h)) (fn := Tryd.f59) (c := (bodyOf Tryd.f59)) (by kernel_rfl) (by kernel_rfl) tree59 run59 (fun _ h => Tr.gives_val h))

/-! ### sundial/sundialref10.Vec -/
noncomputable def tree60 (x : Int) : Tr DOperand :=
  .need ((16 : Int) ≠ 0) <|
  .need ((16 : Int) ≠ 0) <|
  .ret (1, ((iadd .i64 (irem .i64 (iadd .i64 (irem .i64 x 16) 16) 16) 16), ((-1), ((-1), (0, (0, (false, 0)))))))
noncomputable def fn60 (x : Int) : DOperand := (tree60 x).val
def pre60 (x : Int) : Prop := (tree60 x).ok
noncomputable def spec60 : Spec := { dom := (.st1 (.int .i64)), cod := COperand, n := 1, pre := pre60, f := fn60 }
noncomputable def need60 : FuncId → Option Spec
  | _ => none
theorem need60_ok : ∀ f sp, need60 f = some sp → SpecOk env0 f sp := by
  intro f sp h
  unfold need60 at h
  split at h
  · cases h
theorem run60 (W : Cfg) (Q : DOperand → Prop) (x : Int) : run (env need60 (fun _ _ => none)) (fun _ _ _ => none) (finS spec60 Q) W 100000 (startFr 60 Tryd.f60 (bodyOf Tryd.f60) (argsOf (.st1 (.int .i64)) x)) [] [] = (tree60 x).wp Q := by kernel_rfl
theorem ok60 : SpecOk env0 60 spec60 := SpecOk.env rfl (fun _ _ h => h) (spec_of_tree (E := (env need60 (fun _ _ => none))) (sp := spec60) (valid _ _) (fun f sp h => SpecOk.env rfl (fun _ _ h => h) (need60_ok f sp h)) (fn := Tryd.f60) (c := (bodyOf Tryd.f60)) (by kernel_rfl) (by kernel_rfl) tree60 run60 (fun _ h => Tr.gives_val h))

end Go.Eng.RU
end
section
/- Functions of this program, written out. -/
namespace Go.Eng.RU
open Go.Proofs Go.Eng
set_option maxRecDepth 100000

/-! ### sundial/sundialref10.is -/
noncomputable def tree20 (x : (DOperand × ByteArray)) : Tr Bool :=
  let y0 : Int := x.1.1
  let y1 : Bool := ((ieq y0 1) == true)
  .ite y1 (
  .need (pre58 x.1) <|
  let y2 : Bool := ((ieq y0 2) == true)
  .ite y2 (
  .need (pre58 x.1) <|
  let y3 : Bool := ((ieq y0 3) == true)
  .ite y3 (
  let y4 : (Int × (Int × (Int × (Int × (Int × (Bool × Int)))))) := x.1.2
  let y5 : Int := y4.2.2.2.2.2.2
  .need (pre59 y5) <|
  .ite y1 (
  let y6 : Int := y4.1
  let y7 : Bool := ((ile 16 y6) == true)
  .ite y7 (
  let y8 : Bool := ((ilt y6 32) == true)
  .ite y8 (
  .need (pre60 y6) <|
  let y9 : Bool := (x.2 == (ByteArray.mk #[114]))
  .ite y9 (
  let y10 : Bool := (fn58 x.1)
  .ret y10) (
  let y11 : Bool := (x.2 == (ByteArray.mk #[109]))
  .ite y11 (
  let y12 : Bool := (fn58 x.1)
  .ret y12) (
  let y13 : Bool := (x.2 == (ByteArray.mk #[114, 109]))
  .ite y13 (
  let y14 : Bool := (fn58 x.1)
  let y15 : Bool := (y14 == false)
  .ite y15 (
  .ret y14) (
  .ret true)) (
  let y16 : Bool := (x.2 == (ByteArray.mk #[105, 56]))
  .ite y16 (
  let y17 : Bool := (eqD COperand x.1 (fn59 y5))
  let y18 : Bool := (y17 == true)
  .ite y18 (
  let y19 : Bool := ((ile (-128) y5) == true)
  .ite y19 (
  let y20 : Bool := (ilt y5 128)
  .ret y20) (
  .ret false)) (
  .ret false)) (
  let y21 : Bool := (x.2 == (ByteArray.mk #[117, 56]))
  .ite y21 (
  let y22 : Bool := (eqD COperand x.1 (fn59 y5))
  let y23 : Bool := (y22 == true)
  .ite y23 (
  let y24 : Bool := ((ile 0 y5) == true)
  .ite y24 (
  let y25 : Bool := (ilt y5 256)
  .ret y25) (
  .ret false)) (
  .ret false)) (
  let y26 : Bool := (x.2 == (ByteArray.mk #[105, 51, 50]))
  .ite y26 (
  let y27 : Bool := (eqD COperand x.1 (fn59 y5))
  let y28 : Bool := (y27 == true)
  .ite y28 (
  let y29 : Bool := ((ile (-2147483648) y5) == true)
  .ite y29 (
  let y30 : Bool := (ilt y5 2147483648)
  .ret y30) (
  .ret false)) (
  .ret false)) (
  let y31 : Bool := (x.2 == (ByteArray.mk #[105, 54, 52]))
  .ite y31 (
  let y32 : Bool := (eqD COperand x.1 (fn59 y5))
  .ret y32) (
  let y33 : Bool := (x.2 == (ByteArray.mk #[120]))
  .ite y33 (
  let y34 : Bool := (eqD COperand x.1 (fn60 y6))
  .ret y34) (
  let y35 : Bool := (x.2 == (ByteArray.mk #[120, 109]))
  .ite y35 (
  let y36 : Bool := (eqD COperand x.1 (fn60 y6))
  let y37 : Bool := (y36 == false)
  .ite y37 (
  let y38 : Bool := (fn58 x.1)
  .ret y38) (
  .ret true)) (
  let y39 : Bool := (x.2 == (ByteArray.mk #[99, 108]))
  .ite y39 (
  let y40 : Bool := (fn58 x.1)
  let y41 : Bool := (y40 == true)
  .ite y41 (
  let y42 : Bool := (ieq y6 1)
  .ret y42) (
  .ret false)) (
  let y43 : Bool := (eqD COperand x.1 (0, (0, (0, (0, (0, (0, (false, 0))))))))
  .ret y43))))))))))) (
  let y44 : Bool := (x.2 == (ByteArray.mk #[114]))
  .ite y44 (
  let y45 : Bool := (fn58 x.1)
  .ret y45) (
  let y46 : Bool := (x.2 == (ByteArray.mk #[109]))
  .ite y46 (
  let y47 : Bool := (fn58 x.1)
  .ret y47) (
  let y48 : Bool := (x.2 == (ByteArray.mk #[114, 109]))
  .ite y48 (
  let y49 : Bool := (fn58 x.1)
  let y50 : Bool := (y49 == false)
  .ite y50 (
  .ret y49) (
  .ret true)) (
  let y51 : Bool := (x.2 == (ByteArray.mk #[105, 56]))
  .ite y51 (
  let y52 : Bool := (eqD COperand x.1 (fn59 y5))
  let y53 : Bool := (y52 == true)
  .ite y53 (
  let y54 : Bool := ((ile (-128) y5) == true)
  .ite y54 (
  let y55 : Bool := (ilt y5 128)
  .ret y55) (
  .ret false)) (
  .ret false)) (
  let y56 : Bool := (x.2 == (ByteArray.mk #[117, 56]))
  .ite y56 (
  let y57 : Bool := (eqD COperand x.1 (fn59 y5))
  let y58 : Bool := (y57 == true)
  .ite y58 (
  let y59 : Bool := ((ile 0 y5) == true)
  .ite y59 (
  let y60 : Bool := (ilt y5 256)
  .ret y60) (
  .ret false)) (
  .ret false)) (
  let y61 : Bool := (x.2 == (ByteArray.mk #[105, 51, 50]))
  .ite y61 (
  let y62 : Bool := (eqD COperand x.1 (fn59 y5))
  let y63 : Bool := (y62 == true)
  .ite y63 (
  let y64 : Bool := ((ile (-2147483648) y5) == true)
  .ite y64 (
  let y65 : Bool := (ilt y5 2147483648)
  .ret y65) (
  .ret false)) (
  .ret false)) (
  let y66 : Bool := (x.2 == (ByteArray.mk #[105, 54, 52]))
  .ite y66 (
  let y67 : Bool := (eqD COperand x.1 (fn59 y5))
  .ret y67) (
  let y68 : Bool := (x.2 == (ByteArray.mk #[120]))
  .ite y68 (
  .ret false) (
  let y69 : Bool := (x.2 == (ByteArray.mk #[120, 109]))
  .ite y69 (
  let y70 : Bool := (fn58 x.1)
  .ret y70) (
  let y71 : Bool := (x.2 == (ByteArray.mk #[99, 108]))
  .ite y71 (
  let y72 : Bool := (fn58 x.1)
  let y73 : Bool := (y72 == true)
  .ite y73 (
  let y74 : Bool := (ieq y6 1)
  .ret y74) (
  .ret false)) (
  let y75 : Bool := (eqD COperand x.1 (0, (0, (0, (0, (0, (0, (false, 0))))))))
  .ret y75)))))))))))) (
  let y76 : Bool := (x.2 == (ByteArray.mk #[114]))
  .ite y76 (
  let y77 : Bool := (fn58 x.1)
  .ret y77) (
  let y78 : Bool := (x.2 == (ByteArray.mk #[109]))
  .ite y78 (
  let y79 : Bool := (fn58 x.1)
  .ret y79) (
  let y80 : Bool := (x.2 == (ByteArray.mk #[114, 109]))
  .ite y80 (
  let y81 : Bool := (fn58 x.1)
  let y82 : Bool := (y81 == false)
  .ite y82 (
  .ret y81) (
  .ret true)) (
  let y83 : Bool := (x.2 == (ByteArray.mk #[105, 56]))
  .ite y83 (
  let y84 : Bool := (eqD COperand x.1 (fn59 y5))
  let y85 : Bool := (y84 == true)
  .ite y85 (
  let y86 : Bool := ((ile (-128) y5) == true)
  .ite y86 (
  let y87 : Bool := (ilt y5 128)
  .ret y87) (
  .ret false)) (
  .ret false)) (
  let y88 : Bool := (x.2 == (ByteArray.mk #[117, 56]))
  .ite y88 (
  let y89 : Bool := (eqD COperand x.1 (fn59 y5))
  let y90 : Bool := (y89 == true)
  .ite y90 (
  let y91 : Bool := ((ile 0 y5) == true)
  .ite y91 (
  let y92 : Bool := (ilt y5 256)
  .ret y92) (
  .ret false)) (
  .ret false)) (
  let y93 : Bool := (x.2 == (ByteArray.mk #[105, 51, 50]))
  .ite y93 (
  let y94 : Bool := (eqD COperand x.1 (fn59 y5))
  let y95 : Bool := (y94 == true)
  .ite y95 (
  let y96 : Bool := ((ile (-2147483648) y5) == true)
  .ite y96 (
  let y97 : Bool := (ilt y5 2147483648)
  .ret y97) (
  .ret false)) (
  .ret false)) (
  let y98 : Bool := (x.2 == (ByteArray.mk #[105, 54, 52]))
  .ite y98 (
  let y99 : Bool := (eqD COperand x.1 (fn59 y5))
  .ret y99) (
  let y100 : Bool := (x.2 == (ByteArray.mk #[120]))
  .ite y100 (
  .ret false) (
  let y101 : Bool := (x.2 == (ByteArray.mk #[120, 109]))
  .ite y101 (
  let y102 : Bool := (fn58 x.1)
  .ret y102) (
  let y103 : Bool := (x.2 == (ByteArray.mk #[99, 108]))
  .ite y103 (
  let y104 : Bool := (fn58 x.1)
  let y105 : Bool := (y104 == true)
  .ite y105 (
  let y106 : Bool := (ieq y6 1)
  .ret y106) (
  .ret false)) (
  let y107 : Bool := (eqD COperand x.1 (0, (0, (0, (0, (0, (0, (false, 0))))))))
  .ret y107)))))))))))) (
  let y108 : Bool := (x.2 == (ByteArray.mk #[114]))
  .ite y108 (
  let y109 : Bool := (fn58 x.1)
  .ret y109) (
  let y110 : Bool := (x.2 == (ByteArray.mk #[109]))
  .ite y110 (
  let y111 : Bool := (fn58 x.1)
  .ret y111) (
  let y112 : Bool := (x.2 == (ByteArray.mk #[114, 109]))
  .ite y112 (
  let y113 : Bool := (fn58 x.1)
  let y114 : Bool := (y113 == false)
  .ite y114 (
  .ret y113) (
  .ret true)) (
  let y115 : Bool := (x.2 == (ByteArray.mk #[105, 56]))
  .ite y115 (
  let y116 : Bool := (eqD COperand x.1 (fn59 y5))
  let y117 : Bool := (y116 == true)
  .ite y117 (
  let y118 : Bool := ((ile (-128) y5) == true)
  .ite y118 (
  let y119 : Bool := (ilt y5 128)
  .ret y119) (
  .ret false)) (
  .ret false)) (
  let y120 : Bool := (x.2 == (ByteArray.mk #[117, 56]))
  .ite y120 (
  let y121 : Bool := (eqD COperand x.1 (fn59 y5))
  let y122 : Bool := (y121 == true)
  .ite y122 (
  let y123 : Bool := ((ile 0 y5) == true)
  .ite y123 (
  let y124 : Bool := (ilt y5 256)
  .ret y124) (
  .ret false)) (
  .ret false)) (
  let y125 : Bool := (x.2 == (ByteArray.mk #[105, 51, 50]))
  .ite y125 (
  let y126 : Bool := (eqD COperand x.1 (fn59 y5))
  let y127 : Bool := (y126 == true)
  .ite y127 (
  let y128 : Bool := ((ile (-2147483648) y5) == true)
  .ite y128 (
  let y129 : Bool := (ilt y5 2147483648)
  .ret y129) (
  .ret false)) (
  .ret false)) (
  let y130 : Bool := (x.2 == (ByteArray.mk #[105, 54, 52]))
  .ite y130 (
  let y131 : Bool := (eqD COperand x.1 (fn59 y5))
  .ret y131) (
  let y132 : Bool := (x.2 == (ByteArray.mk #[120]))
  .ite y132 (
  .ret false) (
  let y133 : Bool := (x.2 == (ByteArray.mk #[120, 109]))
  .ite y133 (
  let y134 : Bool := (fn58 x.1)
  .ret y134) (
  let y135 : Bool := (x.2 == (ByteArray.mk #[99, 108]))
  .ite y135 (
  let y136 : Bool := (fn58 x.1)
  let y137 : Bool := (y136 == true)
  .ite y137 (
  let y138 : Int := y4.1
  let y139 : Bool := (ieq y138 1)
  .ret y139) (
  .ret false)) (
  let y140 : Bool := (eqD COperand x.1 (0, (0, (0, (0, (0, (0, (false, 0))))))))
  .ret y140)))))))))))) (
  .ite y1 (
  let y141 : (Int × (Int × (Int × (Int × (Int × (Bool × Int)))))) := x.1.2
  let y142 : Int := y141.1
  let y143 : Bool := ((ile 16 y142) == true)
  .ite y143 (
  let y144 : Bool := ((ilt y142 32) == true)
  .ite y144 (
  .need (pre60 y142) <|
  let y145 : Bool := (x.2 == (ByteArray.mk #[114]))
  .ite y145 (
  let y146 : Bool := (fn58 x.1)
  .ret y146) (
  let y147 : Bool := (x.2 == (ByteArray.mk #[109]))
  .ite y147 (
  let y148 : Bool := (fn58 x.1)
  .ret y148) (
  let y149 : Bool := (x.2 == (ByteArray.mk #[114, 109]))
  .ite y149 (
  let y150 : Bool := (fn58 x.1)
  let y151 : Bool := (y150 == false)
  .ite y151 (
  .ret y150) (
  .ret true)) (
  let y152 : Bool := (x.2 == (ByteArray.mk #[105, 56]))
  .ite y152 (
  .ret false) (
  let y153 : Bool := (x.2 == (ByteArray.mk #[117, 56]))
  .ite y153 (
  .ret false) (
  let y154 : Bool := (x.2 == (ByteArray.mk #[105, 51, 50]))
  .ite y154 (
  .ret false) (
  let y155 : Bool := (x.2 == (ByteArray.mk #[105, 54, 52]))
  .ite y155 (
  .ret false) (
  let y156 : Bool := (x.2 == (ByteArray.mk #[120]))
  .ite y156 (
  let y157 : Bool := (eqD COperand x.1 (fn60 y142))
  .ret y157) (
  let y158 : Bool := (x.2 == (ByteArray.mk #[120, 109]))
  .ite y158 (
  let y159 : Bool := (eqD COperand x.1 (fn60 y142))
  let y160 : Bool := (y159 == false)
  .ite y160 (
  let y161 : Bool := (fn58 x.1)
  .ret y161) (
  .ret true)) (
  let y162 : Bool := (x.2 == (ByteArray.mk #[99, 108]))
  .ite y162 (
  let y163 : Bool := (fn58 x.1)
  let y164 : Bool := (y163 == true)
  .ite y164 (
  let y165 : Bool := (ieq y142 1)
  .ret y165) (
  .ret false)) (
  let y166 : Bool := (eqD COperand x.1 (0, (0, (0, (0, (0, (0, (false, 0))))))))
  .ret y166))))))))))) (
  let y167 : Bool := (x.2 == (ByteArray.mk #[114]))
  .ite y167 (
  let y168 : Bool := (fn58 x.1)
  .ret y168) (
  let y169 : Bool := (x.2 == (ByteArray.mk #[109]))
  .ite y169 (
  let y170 : Bool := (fn58 x.1)
  .ret y170) (
  let y171 : Bool := (x.2 == (ByteArray.mk #[114, 109]))
  .ite y171 (
  let y172 : Bool := (fn58 x.1)
  let y173 : Bool := (y172 == false)
  .ite y173 (
  .ret y172) (
  .ret true)) (
  let y174 : Bool := (x.2 == (ByteArray.mk #[105, 56]))
  .ite y174 (
  .ret false) (
  let y175 : Bool := (x.2 == (ByteArray.mk #[117, 56]))
  .ite y175 (
  .ret false) (
  let y176 : Bool := (x.2 == (ByteArray.mk #[105, 51, 50]))
  .ite y176 (
  .ret false) (
  let y177 : Bool := (x.2 == (ByteArray.mk #[105, 54, 52]))
  .ite y177 (
  .ret false) (
  let y178 : Bool := (x.2 == (ByteArray.mk #[120]))
  .ite y178 (
  .ret false) (
  let y179 : Bool := (x.2 == (ByteArray.mk #[120, 109]))
  .ite y179 (
  let y180 : Bool := (fn58 x.1)
  .ret y180) (
  let y181 : Bool := (x.2 == (ByteArray.mk #[99, 108]))
  .ite y181 (
  let y182 : Bool := (fn58 x.1)
  let y183 : Bool := (y182 == true)
  .ite y183 (
  let y184 : Bool := (ieq y142 1)
  .ret y184) (
  .ret false)) (
  let y185 : Bool := (eqD COperand x.1 (0, (0, (0, (0, (0, (0, (false, 0))))))))
  .ret y185)))))))))))) (
  let y186 : Bool := (x.2 == (ByteArray.mk #[114]))
  .ite y186 (
  let y187 : Bool := (fn58 x.1)
  .ret y187) (
  let y188 : Bool := (x.2 == (ByteArray.mk #[109]))
  .ite y188 (
  let y189 : Bool := (fn58 x.1)
  .ret y189) (
  let y190 : Bool := (x.2 == (ByteArray.mk #[114, 109]))
  .ite y190 (
  let y191 : Bool := (fn58 x.1)
  let y192 : Bool := (y191 == false)
  .ite y192 (
  .ret y191) (
  .ret true)) (
  let y193 : Bool := (x.2 == (ByteArray.mk #[105, 56]))
  .ite y193 (
  .ret false) (
  let y194 : Bool := (x.2 == (ByteArray.mk #[117, 56]))
  .ite y194 (
  .ret false) (
  let y195 : Bool := (x.2 == (ByteArray.mk #[105, 51, 50]))
  .ite y195 (
  .ret false) (
  let y196 : Bool := (x.2 == (ByteArray.mk #[105, 54, 52]))
  .ite y196 (
  .ret false) (
  let y197 : Bool := (x.2 == (ByteArray.mk #[120]))
  .ite y197 (
  .ret false) (
  let y198 : Bool := (x.2 == (ByteArray.mk #[120, 109]))
  .ite y198 (
  let y199 : Bool := (fn58 x.1)
  .ret y199) (
  let y200 : Bool := (x.2 == (ByteArray.mk #[99, 108]))
  .ite y200 (
  let y201 : Bool := (fn58 x.1)
  let y202 : Bool := (y201 == true)
  .ite y202 (
  let y203 : Bool := (ieq y142 1)
  .ret y203) (
  .ret false)) (
  let y204 : Bool := (eqD COperand x.1 (0, (0, (0, (0, (0, (0, (false, 0))))))))
  .ret y204)))))))))))) (
  let y205 : Bool := (x.2 == (ByteArray.mk #[114]))
  .ite y205 (
  let y206 : Bool := (fn58 x.1)
  .ret y206) (
  let y207 : Bool := (x.2 == (ByteArray.mk #[109]))
  .ite y207 (
  let y208 : Bool := (fn58 x.1)
  .ret y208) (
  let y209 : Bool := (x.2 == (ByteArray.mk #[114, 109]))
  .ite y209 (
  let y210 : Bool := (fn58 x.1)
  let y211 : Bool := (y210 == false)
  .ite y211 (
  .ret y210) (
  .ret true)) (
  let y212 : Bool := (x.2 == (ByteArray.mk #[105, 56]))
  .ite y212 (
  .ret false) (
  let y213 : Bool := (x.2 == (ByteArray.mk #[117, 56]))
  .ite y213 (
  .ret false) (
  let y214 : Bool := (x.2 == (ByteArray.mk #[105, 51, 50]))
  .ite y214 (
  .ret false) (
  let y215 : Bool := (x.2 == (ByteArray.mk #[105, 54, 52]))
  .ite y215 (
  .ret false) (
  let y216 : Bool := (x.2 == (ByteArray.mk #[120]))
  .ite y216 (
  .ret false) (
  let y217 : Bool := (x.2 == (ByteArray.mk #[120, 109]))
  .ite y217 (
  let y218 : Bool := (fn58 x.1)
  .ret y218) (
  let y219 : Bool := (x.2 == (ByteArray.mk #[99, 108]))
  .ite y219 (
  let y220 : Bool := (fn58 x.1)
  let y221 : Bool := (y220 == true)
  .ite y221 (
  let y222 : (Int × (Int × (Int × (Int × (Int × (Bool × Int)))))) := x.1.2
  let y223 : Int := y222.1
  let y224 : Bool := (ieq y223 1)
  .ret y224) (
  .ret false)) (
  let y225 : Bool := (eqD COperand x.1 (0, (0, (0, (0, (0, (0, (false, 0))))))))
  .ret y225))))))))))))) (
  let y226 : Bool := ((ieq y0 3) == true)
  .ite y226 (
  let y227 : (Int × (Int × (Int × (Int × (Int × (Bool × Int)))))) := x.1.2
  let y228 : Int := y227.2.2.2.2.2.2
  .need (pre59 y228) <|
  .ite y1 (
  let y229 : Int := y227.1
  let y230 : Bool := ((ile 16 y229) == true)
  .ite y230 (
  let y231 : Bool := ((ilt y229 32) == true)
  .ite y231 (
  .need (pre60 y229) <|
  let y232 : Bool := (x.2 == (ByteArray.mk #[114]))
  .ite y232 (
  let y233 : Bool := (fn58 x.1)
  .ret y233) (
  let y234 : Bool := (x.2 == (ByteArray.mk #[109]))
  .ite y234 (
  .ret false) (
  let y235 : Bool := (x.2 == (ByteArray.mk #[114, 109]))
  .ite y235 (
  let y236 : Bool := (fn58 x.1)
  let y237 : Bool := (y236 == false)
  .ite y237 (
  .ret false) (
  .ret true)) (
  let y238 : Bool := (x.2 == (ByteArray.mk #[105, 56]))
  .ite y238 (
  let y239 : Bool := (eqD COperand x.1 (fn59 y228))
  let y240 : Bool := (y239 == true)
  .ite y240 (
  let y241 : Bool := ((ile (-128) y228) == true)
  .ite y241 (
  let y242 : Bool := (ilt y228 128)
  .ret y242) (
  .ret false)) (
  .ret false)) (
  let y243 : Bool := (x.2 == (ByteArray.mk #[117, 56]))
  .ite y243 (
  let y244 : Bool := (eqD COperand x.1 (fn59 y228))
  let y245 : Bool := (y244 == true)
  .ite y245 (
  let y246 : Bool := ((ile 0 y228) == true)
  .ite y246 (
  let y247 : Bool := (ilt y228 256)
  .ret y247) (
  .ret false)) (
  .ret false)) (
  let y248 : Bool := (x.2 == (ByteArray.mk #[105, 51, 50]))
  .ite y248 (
  let y249 : Bool := (eqD COperand x.1 (fn59 y228))
  let y250 : Bool := (y249 == true)
  .ite y250 (
  let y251 : Bool := ((ile (-2147483648) y228) == true)
  .ite y251 (
  let y252 : Bool := (ilt y228 2147483648)
  .ret y252) (
  .ret false)) (
  .ret false)) (
  let y253 : Bool := (x.2 == (ByteArray.mk #[105, 54, 52]))
  .ite y253 (
  let y254 : Bool := (eqD COperand x.1 (fn59 y228))
  .ret y254) (
  let y255 : Bool := (x.2 == (ByteArray.mk #[120]))
  .ite y255 (
  let y256 : Bool := (eqD COperand x.1 (fn60 y229))
  .ret y256) (
  let y257 : Bool := (x.2 == (ByteArray.mk #[120, 109]))
  .ite y257 (
  let y258 : Bool := (eqD COperand x.1 (fn60 y229))
  let y259 : Bool := (y258 == false)
  .ite y259 (
  .ret false) (
  .ret true)) (
  let y260 : Bool := (x.2 == (ByteArray.mk #[99, 108]))
  .ite y260 (
  let y261 : Bool := (fn58 x.1)
  let y262 : Bool := (y261 == true)
  .ite y262 (
  let y263 : Bool := (ieq y229 1)
  .ret y263) (
  .ret false)) (
  let y264 : Bool := (eqD COperand x.1 (0, (0, (0, (0, (0, (0, (false, 0))))))))
  .ret y264))))))))))) (
  let y265 : Bool := (x.2 == (ByteArray.mk #[114]))
  .ite y265 (
  let y266 : Bool := (fn58 x.1)
  .ret y266) (
  let y267 : Bool := (x.2 == (ByteArray.mk #[109]))
  .ite y267 (
  .ret false) (
  let y268 : Bool := (x.2 == (ByteArray.mk #[114, 109]))
  .ite y268 (
  let y269 : Bool := (fn58 x.1)
  let y270 : Bool := (y269 == false)
  .ite y270 (
  .ret false) (
  .ret true)) (
  let y271 : Bool := (x.2 == (ByteArray.mk #[105, 56]))
  .ite y271 (
  let y272 : Bool := (eqD COperand x.1 (fn59 y228))
  let y273 : Bool := (y272 == true)
  .ite y273 (
  let y274 : Bool := ((ile (-128) y228) == true)
  .ite y274 (
  let y275 : Bool := (ilt y228 128)
  .ret y275) (
  .ret false)) (
  .ret false)) (
  let y276 : Bool := (x.2 == (ByteArray.mk #[117, 56]))
  .ite y276 (
  let y277 : Bool := (eqD COperand x.1 (fn59 y228))
  let y278 : Bool := (y277 == true)
  .ite y278 (
  let y279 : Bool := ((ile 0 y228) == true)
  .ite y279 (
  let y280 : Bool := (ilt y228 256)
  .ret y280) (
  .ret false)) (
  .ret false)) (
  let y281 : Bool := (x.2 == (ByteArray.mk #[105, 51, 50]))
  .ite y281 (
  let y282 : Bool := (eqD COperand x.1 (fn59 y228))
  let y283 : Bool := (y282 == true)
  .ite y283 (
  let y284 : Bool := ((ile (-2147483648) y228) == true)
  .ite y284 (
  let y285 : Bool := (ilt y228 2147483648)
  .ret y285) (
  .ret false)) (
  .ret false)) (
  let y286 : Bool := (x.2 == (ByteArray.mk #[105, 54, 52]))
  .ite y286 (
  let y287 : Bool := (eqD COperand x.1 (fn59 y228))
  .ret y287) (
  let y288 : Bool := (x.2 == (ByteArray.mk #[120]))
  .ite y288 (
  .ret false) (
  let y289 : Bool := (x.2 == (ByteArray.mk #[120, 109]))
  .ite y289 (
  .ret false) (
  let y290 : Bool := (x.2 == (ByteArray.mk #[99, 108]))
  .ite y290 (
  let y291 : Bool := (fn58 x.1)
  let y292 : Bool := (y291 == true)
  .ite y292 (
  let y293 : Bool := (ieq y229 1)
  .ret y293) (
  .ret false)) (
  let y294 : Bool := (eqD COperand x.1 (0, (0, (0, (0, (0, (0, (false, 0))))))))
  .ret y294)))))))))))) (
  let y295 : Bool := (x.2 == (ByteArray.mk #[114]))
  .ite y295 (
  let y296 : Bool := (fn58 x.1)
  .ret y296) (
  let y297 : Bool := (x.2 == (ByteArray.mk #[109]))
  .ite y297 (
  .ret false) (
  let y298 : Bool := (x.2 == (ByteArray.mk #[114, 109]))
  .ite y298 (
  let y299 : Bool := (fn58 x.1)
  let y300 : Bool := (y299 == false)
  .ite y300 (
  .ret false) (
  .ret true)) (
  let y301 : Bool := (x.2 == (ByteArray.mk #[105, 56]))
  .ite y301 (
  let y302 : Bool := (eqD COperand x.1 (fn59 y228))
  let y303 : Bool := (y302 == true)
  .ite y303 (
  let y304 : Bool := ((ile (-128) y228) == true)
  .ite y304 (
  let y305 : Bool := (ilt y228 128)
  .ret y305) (
  .ret false)) (
  .ret false)) (
  let y306 : Bool := (x.2 == (ByteArray.mk #[117, 56]))
  .ite y306 (
  let y307 : Bool := (eqD COperand x.1 (fn59 y228))
  let y308 : Bool := (y307 == true)
  .ite y308 (
  let y309 : Bool := ((ile 0 y228) == true)
  .ite y309 (
  let y310 : Bool := (ilt y228 256)
  .ret y310) (
  .ret false)) (
  .ret false)) (
  let y311 : Bool := (x.2 == (ByteArray.mk #[105, 51, 50]))
  .ite y311 (
  let y312 : Bool := (eqD COperand x.1 (fn59 y228))
  let y313 : Bool := (y312 == true)
  .ite y313 (
  let y314 : Bool := ((ile (-2147483648) y228) == true)
  .ite y314 (
  let y315 : Bool := (ilt y228 2147483648)
  .ret y315) (
  .ret false)) (
  .ret false)) (
  let y316 : Bool := (x.2 == (ByteArray.mk #[105, 54, 52]))
  .ite y316 (
  let y317 : Bool := (eqD COperand x.1 (fn59 y228))
  .ret y317) (
  let y318 : Bool := (x.2 == (ByteArray.mk #[120]))
  .ite y318 (
  .ret false) (
  let y319 : Bool := (x.2 == (ByteArray.mk #[120, 109]))
  .ite y319 (
  .ret false) (
  let y320 : Bool := (x.2 == (ByteArray.mk #[99, 108]))
  .ite y320 (
  let y321 : Bool := (fn58 x.1)
  let y322 : Bool := (y321 == true)
  .ite y322 (
  let y323 : Bool := (ieq y229 1)
  .ret y323) (
  .ret false)) (
  let y324 : Bool := (eqD COperand x.1 (0, (0, (0, (0, (0, (0, (false, 0))))))))
  .ret y324)))))))))))) (
  let y325 : Bool := (x.2 == (ByteArray.mk #[114]))
  .ite y325 (
  let y326 : Bool := (fn58 x.1)
  .ret y326) (
  let y327 : Bool := (x.2 == (ByteArray.mk #[109]))
  .ite y327 (
  .ret false) (
  let y328 : Bool := (x.2 == (ByteArray.mk #[114, 109]))
  .ite y328 (
  let y329 : Bool := (fn58 x.1)
  let y330 : Bool := (y329 == false)
  .ite y330 (
  .ret false) (
  .ret true)) (
  let y331 : Bool := (x.2 == (ByteArray.mk #[105, 56]))
  .ite y331 (
  let y332 : Bool := (eqD COperand x.1 (fn59 y228))
  let y333 : Bool := (y332 == true)
  .ite y333 (
  let y334 : Bool := ((ile (-128) y228) == true)
  .ite y334 (
  let y335 : Bool := (ilt y228 128)
  .ret y335) (
  .ret false)) (
  .ret false)) (
  let y336 : Bool := (x.2 == (ByteArray.mk #[117, 56]))
  .ite y336 (
  let y337 : Bool := (eqD COperand x.1 (fn59 y228))
  let y338 : Bool := (y337 == true)
  .ite y338 (
  let y339 : Bool := ((ile 0 y228) == true)
  .ite y339 (
  let y340 : Bool := (ilt y228 256)
  .ret y340) (
  .ret false)) (
  .ret false)) (
  let y341 : Bool := (x.2 == (ByteArray.mk #[105, 51, 50]))
  .ite y341 (
  let y342 : Bool := (eqD COperand x.1 (fn59 y228))
  let y343 : Bool := (y342 == true)
  .ite y343 (
  let y344 : Bool := ((ile (-2147483648) y228) == true)
  .ite y344 (
  let y345 : Bool := (ilt y228 2147483648)
  .ret y345) (
  .ret false)) (
  .ret false)) (
  let y346 : Bool := (x.2 == (ByteArray.mk #[105, 54, 52]))
  .ite y346 (
  let y347 : Bool := (eqD COperand x.1 (fn59 y228))
  .ret y347) (
  let y348 : Bool := (x.2 == (ByteArray.mk #[120]))
  .ite y348 (
  .ret false) (
  let y349 : Bool := (x.2 == (ByteArray.mk #[120, 109]))
  .ite y349 (
  .ret false) (
  let y350 : Bool := (x.2 == (ByteArray.mk #[99, 108]))
  .ite y350 (
  let y351 : Bool := (fn58 x.1)
  let y352 : Bool := (y351 == true)
  .ite y352 (
  let y353 : Int := y227.1
  let y354 : Bool := (ieq y353 1)
  .ret y354) (
  .ret false)) (
  let y355 : Bool := (eqD COperand x.1 (0, (0, (0, (0, (0, (0, (false, 0))))))))
  .ret y355)))))))))))) (
  .ite y1 (
  let y356 : (Int × (Int × (Int × (Int × (Int × (Bool × Int)))))) := x.1.2
  let y357 : Int := y356.1
  let y358 : Bool := ((ile 16 y357) == true)
  .ite y358 (
  let y359 : Bool := ((ilt y357 32) == true)
  .ite y359 (
  .need (pre60 y357) <|
  let y360 : Bool := (x.2 == (ByteArray.mk #[114]))
  .ite y360 (
  let y361 : Bool := (fn58 x.1)
  .ret y361) (
  let y362 : Bool := (x.2 == (ByteArray.mk #[109]))
  .ite y362 (
  .ret false) (
  let y363 : Bool := (x.2 == (ByteArray.mk #[114, 109]))
  .ite y363 (
  let y364 : Bool := (fn58 x.1)
  let y365 : Bool := (y364 == false)
  .ite y365 (
  .ret false) (
  .ret true)) (
  let y366 : Bool := (x.2 == (ByteArray.mk #[105, 56]))
  .ite y366 (
  .ret false) (
  let y367 : Bool := (x.2 == (ByteArray.mk #[117, 56]))
  .ite y367 (
  .ret false) (
  let y368 : Bool := (x.2 == (ByteArray.mk #[105, 51, 50]))
  .ite y368 (
  .ret false) (
  let y369 : Bool := (x.2 == (ByteArray.mk #[105, 54, 52]))
  .ite y369 (
  .ret false) (
  let y370 : Bool := (x.2 == (ByteArray.mk #[120]))
  .ite y370 (
  let y371 : Bool := (eqD COperand x.1 (fn60 y357))
  .ret y371) (
  let y372 : Bool := (x.2 == (ByteArray.mk #[120, 109]))
  .ite y372 (
  let y373 : Bool := (eqD COperand x.1 (fn60 y357))
  let y374 : Bool := (y373 == false)
  .ite y374 (
  .ret false) (
  .ret true)) (
  let y375 : Bool := (x.2 == (ByteArray.mk #[99, 108]))
  .ite y375 (
  let y376 : Bool := (fn58 x.1)
  let y377 : Bool := (y376 == true)
  .ite y377 (
  let y378 : Bool := (ieq y357 1)
  .ret y378) (
  .ret false)) (
  let y379 : Bool := (eqD COperand x.1 (0, (0, (0, (0, (0, (0, (false, 0))))))))
  .ret y379))))))))))) (
  let y380 : Bool := (x.2 == (ByteArray.mk #[114]))
  .ite y380 (
  let y381 : Bool := (fn58 x.1)
  .ret y381) (
  let y382 : Bool := (x.2 == (ByteArray.mk #[109]))
  .ite y382 (
  .ret false) (
  let y383 : Bool := (x.2 == (ByteArray.mk #[114, 109]))
  .ite y383 (
  let y384 : Bool := (fn58 x.1)
  let y385 : Bool := (y384 == false)
  .ite y385 (
  .ret false) (
  .ret true)) (
  let y386 : Bool := (x.2 == (ByteArray.mk #[105, 56]))
  .ite y386 (
  .ret false) (
  let y387 : Bool := (x.2 == (ByteArray.mk #[117, 56]))
  .ite y387 (
  .ret false) (
  let y388 : Bool := (x.2 == (ByteArray.mk #[105, 51, 50]))
  .ite y388 (
  .ret false) (
  let y389 : Bool := (x.2 == (ByteArray.mk #[105, 54, 52]))
  .ite y389 (
  .ret false) (
  let y390 : Bool := (x.2 == (ByteArray.mk #[120]))
  .ite y390 (
  .ret false) (
  let y391 : Bool := (x.2 == (ByteArray.mk #[120, 109]))
  .ite y391 (
  .ret false) (
  let y392 : Bool := (x.2 == (ByteArray.mk #[99, 108]))
  .ite y392 (
  let y393 : Bool := (fn58 x.1)
  let y394 : Bool := (y393 == true)
  .ite y394 (
  let y395 : Bool := (ieq y357 1)
  .ret y395) (
  .ret false)) (
  let y396 : Bool := (eqD COperand x.1 (0, (0, (0, (0, (0, (0, (false, 0))))))))
  .ret y396)))))))))))) (
  let y397 : Bool := (x.2 == (ByteArray.mk #[114]))
  .ite y397 (
  let y398 : Bool := (fn58 x.1)
  .ret y398) (
  let y399 : Bool := (x.2 == (ByteArray.mk #[109]))
  .ite y399 (
  .ret false) (
  let y400 : Bool := (x.2 == (ByteArray.mk #[114, 109]))
  .ite y400 (
  let y401 : Bool := (fn58 x.1)
  let y402 : Bool := (y401 == false)
  .ite y402 (
  .ret false) (
  .ret true)) (
  let y403 : Bool := (x.2 == (ByteArray.mk #[105, 56]))
  .ite y403 (
  .ret false) (
  let y404 : Bool := (x.2 == (ByteArray.mk #[117, 56]))
  .ite y404 (
  .ret false) (
  let y405 : Bool := (x.2 == (ByteArray.mk #[105, 51, 50]))
  .ite y405 (
  .ret false) (
  let y406 : Bool := (x.2 == (ByteArray.mk #[105, 54, 52]))
  .ite y406 (
  .ret false) (
  let y407 : Bool := (x.2 == (ByteArray.mk #[120]))
  .ite y407 (
  .ret false) (
  let y408 : Bool := (x.2 == (ByteArray.mk #[120, 109]))
  .ite y408 (
  .ret false) (
  let y409 : Bool := (x.2 == (ByteArray.mk #[99, 108]))
  .ite y409 (
  let y410 : Bool := (fn58 x.1)
  let y411 : Bool := (y410 == true)
  .ite y411 (
  let y412 : Bool := (ieq y357 1)
  .ret y412) (
  .ret false)) (
  let y413 : Bool := (eqD COperand x.1 (0, (0, (0, (0, (0, (0, (false, 0))))))))
  .ret y413)))))))))))) (
  let y414 : Bool := (x.2 == (ByteArray.mk #[114]))
  .ite y414 (
  let y415 : Bool := (fn58 x.1)
  .ret y415) (
  let y416 : Bool := (x.2 == (ByteArray.mk #[109]))
  .ite y416 (
  .ret false) (
  let y417 : Bool := (x.2 == (ByteArray.mk #[114, 109]))
  .ite y417 (
  let y418 : Bool := (fn58 x.1)
  let y419 : Bool := (y418 == false)
  .ite y419 (
  .ret false) (
  .ret true)) (
  let y420 : Bool := (x.2 == (ByteArray.mk #[105, 56]))
  .ite y420 (
  .ret false) (
  let y421 : Bool := (x.2 == (ByteArray.mk #[117, 56]))
  .ite y421 (
  .ret false) (
  let y422 : Bool := (x.2 == (ByteArray.mk #[105, 51, 50]))
  .ite y422 (
  .ret false) (
  let y423 : Bool := (x.2 == (ByteArray.mk #[105, 54, 52]))
  .ite y423 (
  .ret false) (
  let y424 : Bool := (x.2 == (ByteArray.mk #[120]))
  .ite y424 (
  .ret false) (
  let y425 : Bool := (x.2 == (ByteArray.mk #[120, 109]))
  .ite y425 (
  .ret false) (
  let y426 : Bool := (x.2 == (ByteArray.mk #[99, 108]))
  .ite y426 (
  let y427 : Bool := (fn58 x.1)
  let y428 : Bool := (y427 == true)
  .ite y428 (
  let y429 : (Int × (Int × (Int × (Int × (Int × (Bool × Int)))))) := x.1.2
  let y430 : Int := y429.1
  let y431 : Bool := (ieq y430 1)
  .ret y431) (
  .ret false)) (
  let y432 : Bool := (eqD COperand x.1 (0, (0, (0, (0, (0, (0, (false, 0))))))))
  .ret y432)))))))))))))) (
  let y433 : Bool := ((ieq y0 2) == true)
  .ite y433 (
  .need (pre58 x.1) <|
  let y434 : Bool := ((ieq y0 3) == true)
  .ite y434 (
  let y435 : (Int × (Int × (Int × (Int × (Int × (Bool × Int)))))) := x.1.2
  let y436 : Int := y435.2.2.2.2.2.2
  .need (pre59 y436) <|
  .ite y1 (
  let y437 : Int := y435.1
  let y438 : Bool := ((ile 16 y437) == true)
  .ite y438 (
  let y439 : Bool := ((ilt y437 32) == true)
  .ite y439 (
  .need (pre60 y437) <|
  let y440 : Bool := (x.2 == (ByteArray.mk #[114]))
  .ite y440 (
  .ret false) (
  let y441 : Bool := (x.2 == (ByteArray.mk #[109]))
  .ite y441 (
  let y442 : Bool := (fn58 x.1)
  .ret y442) (
  let y443 : Bool := (x.2 == (ByteArray.mk #[114, 109]))
  .ite y443 (
  let y444 : Bool := (fn58 x.1)
  .ret y444) (
  let y445 : Bool := (x.2 == (ByteArray.mk #[105, 56]))
  .ite y445 (
  let y446 : Bool := (eqD COperand x.1 (fn59 y436))
  let y447 : Bool := (y446 == true)
  .ite y447 (
  let y448 : Bool := ((ile (-128) y436) == true)
  .ite y448 (
  let y449 : Bool := (ilt y436 128)
  .ret y449) (
  .ret false)) (
  .ret false)) (
  let y450 : Bool := (x.2 == (ByteArray.mk #[117, 56]))
  .ite y450 (
  let y451 : Bool := (eqD COperand x.1 (fn59 y436))
  let y452 : Bool := (y451 == true)
  .ite y452 (
  let y453 : Bool := ((ile 0 y436) == true)
  .ite y453 (
  let y454 : Bool := (ilt y436 256)
  .ret y454) (
  .ret false)) (
  .ret false)) (
  let y455 : Bool := (x.2 == (ByteArray.mk #[105, 51, 50]))
  .ite y455 (
  let y456 : Bool := (eqD COperand x.1 (fn59 y436))
  let y457 : Bool := (y456 == true)
  .ite y457 (
  let y458 : Bool := ((ile (-2147483648) y436) == true)
  .ite y458 (
  let y459 : Bool := (ilt y436 2147483648)
  .ret y459) (
  .ret false)) (
  .ret false)) (
  let y460 : Bool := (x.2 == (ByteArray.mk #[105, 54, 52]))
  .ite y460 (
  let y461 : Bool := (eqD COperand x.1 (fn59 y436))
  .ret y461) (
  let y462 : Bool := (x.2 == (ByteArray.mk #[120]))
  .ite y462 (
  let y463 : Bool := (eqD COperand x.1 (fn60 y437))
  .ret y463) (
  let y464 : Bool := (x.2 == (ByteArray.mk #[120, 109]))
  .ite y464 (
  let y465 : Bool := (eqD COperand x.1 (fn60 y437))
  let y466 : Bool := (y465 == false)
  .ite y466 (
  let y467 : Bool := (fn58 x.1)
  .ret y467) (
  .ret true)) (
  let y468 : Bool := (x.2 == (ByteArray.mk #[99, 108]))
  .ite y468 (
  .ret false) (
  let y469 : Bool := (eqD COperand x.1 (0, (0, (0, (0, (0, (0, (false, 0))))))))
  .ret y469))))))))))) (
  let y470 : Bool := (x.2 == (ByteArray.mk #[114]))
  .ite y470 (
  .ret false) (
  let y471 : Bool := (x.2 == (ByteArray.mk #[109]))
  .ite y471 (
  let y472 : Bool := (fn58 x.1)
  .ret y472) (
  let y473 : Bool := (x.2 == (ByteArray.mk #[114, 109]))
  .ite y473 (
  let y474 : Bool := (fn58 x.1)
  .ret y474) (
  let y475 : Bool := (x.2 == (ByteArray.mk #[105, 56]))
  .ite y475 (
  let y476 : Bool := (eqD COperand x.1 (fn59 y436))
  let y477 : Bool := (y476 == true)
  .ite y477 (
  let y478 : Bool := ((ile (-128) y436) == true)
  .ite y478 (
  let y479 : Bool := (ilt y436 128)
  .ret y479) (
  .ret false)) (
  .ret false)) (
  let y480 : Bool := (x.2 == (ByteArray.mk #[117, 56]))
  .ite y480 (
  let y481 : Bool := (eqD COperand x.1 (fn59 y436))
  let y482 : Bool := (y481 == true)
  .ite y482 (
  let y483 : Bool := ((ile 0 y436) == true)
  .ite y483 (
  let y484 : Bool := (ilt y436 256)
  .ret y484) (
  .ret false)) (
  .ret false)) (
  let y485 : Bool := (x.2 == (ByteArray.mk #[105, 51, 50]))
  .ite y485 (
  let y486 : Bool := (eqD COperand x.1 (fn59 y436))
  let y487 : Bool := (y486 == true)
  .ite y487 (
  let y488 : Bool := ((ile (-2147483648) y436) == true)
  .ite y488 (
  let y489 : Bool := (ilt y436 2147483648)
  .ret y489) (
  .ret false)) (
  .ret false)) (
  let y490 : Bool := (x.2 == (ByteArray.mk #[105, 54, 52]))
  .ite y490 (
  let y491 : Bool := (eqD COperand x.1 (fn59 y436))
  .ret y491) (
  let y492 : Bool := (x.2 == (ByteArray.mk #[120]))
  .ite y492 (
  .ret false) (
  let y493 : Bool := (x.2 == (ByteArray.mk #[120, 109]))
  .ite y493 (
  let y494 : Bool := (fn58 x.1)
  .ret y494) (
  let y495 : Bool := (x.2 == (ByteArray.mk #[99, 108]))
  .ite y495 (
  .ret false) (
  let y496 : Bool := (eqD COperand x.1 (0, (0, (0, (0, (0, (0, (false, 0))))))))
  .ret y496)))))))))))) (
  let y497 : Bool := (x.2 == (ByteArray.mk #[114]))
  .ite y497 (
  .ret false) (
  let y498 : Bool := (x.2 == (ByteArray.mk #[109]))
  .ite y498 (
  let y499 : Bool := (fn58 x.1)
  .ret y499) (
  let y500 : Bool := (x.2 == (ByteArray.mk #[114, 109]))
  .ite y500 (
  let y501 : Bool := (fn58 x.1)
  .ret y501) (
  let y502 : Bool := (x.2 == (ByteArray.mk #[105, 56]))
  .ite y502 (
  let y503 : Bool := (eqD COperand x.1 (fn59 y436))
  let y504 : Bool := (y503 == true)
  .ite y504 (
  let y505 : Bool := ((ile (-128) y436) == true)
  .ite y505 (
  let y506 : Bool := (ilt y436 128)
  .ret y506) (
  .ret false)) (
  .ret false)) (
  let y507 : Bool := (x.2 == (ByteArray.mk #[117, 56]))
  .ite y507 (
  let y508 : Bool := (eqD COperand x.1 (fn59 y436))
  let y509 : Bool := (y508 == true)
  .ite y509 (
  let y510 : Bool := ((ile 0 y436) == true)
  .ite y510 (
  let y511 : Bool := (ilt y436 256)
  .ret y511) (
  .ret false)) (
  .ret false)) (
  let y512 : Bool := (x.2 == (ByteArray.mk #[105, 51, 50]))
  .ite y512 (
  let y513 : Bool := (eqD COperand x.1 (fn59 y436))
  let y514 : Bool := (y513 == true)
  .ite y514 (
  let y515 : Bool := ((ile (-2147483648) y436) == true)
  .ite y515 (
  let y516 : Bool := (ilt y436 2147483648)
  .ret y516) (
  .ret false)) (
  .ret false)) (
  let y517 : Bool := (x.2 == (ByteArray.mk #[105, 54, 52]))
  .ite y517 (
  let y518 : Bool := (eqD COperand x.1 (fn59 y436))
  .ret y518) (
  let y519 : Bool := (x.2 == (ByteArray.mk #[120]))
  .ite y519 (
  .ret false) (
  let y520 : Bool := (x.2 == (ByteArray.mk #[120, 109]))
  .ite y520 (
  let y521 : Bool := (fn58 x.1)
  .ret y521) (
  let y522 : Bool := (x.2 == (ByteArray.mk #[99, 108]))
  .ite y522 (
  .ret false) (
  let y523 : Bool := (eqD COperand x.1 (0, (0, (0, (0, (0, (0, (false, 0))))))))
  .ret y523)))))))))))) (
  let y524 : Bool := (x.2 == (ByteArray.mk #[114]))
  .ite y524 (
  .ret false) (
  let y525 : Bool := (x.2 == (ByteArray.mk #[109]))
  .ite y525 (
  let y526 : Bool := (fn58 x.1)
  .ret y526) (
  let y527 : Bool := (x.2 == (ByteArray.mk #[114, 109]))
  .ite y527 (
  let y528 : Bool := (fn58 x.1)
  .ret y528) (
  let y529 : Bool := (x.2 == (ByteArray.mk #[105, 56]))
  .ite y529 (
  let y530 : Bool := (eqD COperand x.1 (fn59 y436))
  let y531 : Bool := (y530 == true)
  .ite y531 (
  let y532 : Bool := ((ile (-128) y436) == true)
  .ite y532 (
  let y533 : Bool := (ilt y436 128)
  .ret y533) (
  .ret false)) (
  .ret false)) (
  let y534 : Bool := (x.2 == (ByteArray.mk #[117, 56]))
  .ite y534 (
  let y535 : Bool := (eqD COperand x.1 (fn59 y436))
  let y536 : Bool := (y535 == true)
  .ite y536 (
  let y537 : Bool := ((ile 0 y436) == true)
  .ite y537 (
  let y538 : Bool := (ilt y436 256)
  .ret y538) (
  .ret false)) (
  .ret false)) (
  let y539 : Bool := (x.2 == (ByteArray.mk #[105, 51, 50]))
  .ite y539 (
  let y540 : Bool := (eqD COperand x.1 (fn59 y436))
  let y541 : Bool := (y540 == true)
  .ite y541 (
  let y542 : Bool := ((ile (-2147483648) y436) == true)
  .ite y542 (
  let y543 : Bool := (ilt y436 2147483648)
  .ret y543) (
  .ret false)) (
  .ret false)) (
  let y544 : Bool := (x.2 == (ByteArray.mk #[105, 54, 52]))
  .ite y544 (
  let y545 : Bool := (eqD COperand x.1 (fn59 y436))
  .ret y545) (
  let y546 : Bool := (x.2 == (ByteArray.mk #[120]))
  .ite y546 (
  .ret false) (
  let y547 : Bool := (x.2 == (ByteArray.mk #[120, 109]))
  .ite y547 (
  let y548 : Bool := (fn58 x.1)
  .ret y548) (
  let y549 : Bool := (x.2 == (ByteArray.mk #[99, 108]))
  .ite y549 (
  .ret false) (
  let y550 : Bool := (eqD COperand x.1 (0, (0, (0, (0, (0, (0, (false, 0))))))))
  .ret y550)))))))))))) (
  .ite y1 (
  let y551 : (Int × (Int × (Int × (Int × (Int × (Bool × Int)))))) := x.1.2
  let y552 : Int := y551.1
  let y553 : Bool := ((ile 16 y552) == true)
  .ite y553 (
  let y554 : Bool := ((ilt y552 32) == true)
  .ite y554 (
  .need (pre60 y552) <|
  let y555 : Bool := (x.2 == (ByteArray.mk #[114]))
  .ite y555 (
  .ret false) (
  let y556 : Bool := (x.2 == (ByteArray.mk #[109]))
  .ite y556 (
  let y557 : Bool := (fn58 x.1)
  .ret y557) (
  let y558 : Bool := (x.2 == (ByteArray.mk #[114, 109]))
  .ite y558 (
  let y559 : Bool := (fn58 x.1)
  .ret y559) (
  let y560 : Bool := (x.2 == (ByteArray.mk #[105, 56]))
  .ite y560 (
  .ret false) (
  let y561 : Bool := (x.2 == (ByteArray.mk #[117, 56]))
  .ite y561 (
  .ret false) (
  let y562 : Bool := (x.2 == (ByteArray.mk #[105, 51, 50]))
  .ite y562 (
  .ret false) (
  let y563 : Bool := (x.2 == (ByteArray.mk #[105, 54, 52]))
  .ite y563 (
  .ret false) (
  let y564 : Bool := (x.2 == (ByteArray.mk #[120]))
  .ite y564 (
  let y565 : Bool := (eqD COperand x.1 (fn60 y552))
  .ret y565) (
  let y566 : Bool := (x.2 == (ByteArray.mk #[120, 109]))
  .ite y566 (
  let y567 : Bool := (eqD COperand x.1 (fn60 y552))
  let y568 : Bool := (y567 == false)
  .ite y568 (
  let y569 : Bool := (fn58 x.1)
  .ret y569) (
  .ret true)) (
  let y570 : Bool := (x.2 == (ByteArray.mk #[99, 108]))
  .ite y570 (
  .ret false) (
  let y571 : Bool := (eqD COperand x.1 (0, (0, (0, (0, (0, (0, (false, 0))))))))
  .ret y571))))))))))) (
  let y572 : Bool := (x.2 == (ByteArray.mk #[114]))
  .ite y572 (
  .ret false) (
  let y573 : Bool := (x.2 == (ByteArray.mk #[109]))
  .ite y573 (
  let y574 : Bool := (fn58 x.1)
  .ret y574) (
  let y575 : Bool := (x.2 == (ByteArray.mk #[114, 109]))
  .ite y575 (
  let y576 : Bool := (fn58 x.1)
  .ret y576) (
  let y577 : Bool := (x.2 == (ByteArray.mk #[105, 56]))
  .ite y577 (
  .ret false) (
  let y578 : Bool := (x.2 == (ByteArray.mk #[117, 56]))
  .ite y578 (
  .ret false) (
  let y579 : Bool := (x.2 == (ByteArray.mk #[105, 51, 50]))
  .ite y579 (
  .ret false) (
  let y580 : Bool := (x.2 == (ByteArray.mk #[105, 54, 52]))
  .ite y580 (
  .ret false) (
  let y581 : Bool := (x.2 == (ByteArray.mk #[120]))
  .ite y581 (
  .ret false) (
  let y582 : Bool := (x.2 == (ByteArray.mk #[120, 109]))
  .ite y582 (
  let y583 : Bool := (fn58 x.1)
  .ret y583) (
  let y584 : Bool := (x.2 == (ByteArray.mk #[99, 108]))
  .ite y584 (
  .ret false) (
  let y585 : Bool := (eqD COperand x.1 (0, (0, (0, (0, (0, (0, (false, 0))))))))
  .ret y585)))))))))))) (
  let y586 : Bool := (x.2 == (ByteArray.mk #[114]))
  .ite y586 (
  .ret false) (
  let y587 : Bool := (x.2 == (ByteArray.mk #[109]))
  .ite y587 (
  let y588 : Bool := (fn58 x.1)
  .ret y588) (
  let y589 : Bool := (x.2 == (ByteArray.mk #[114, 109]))
  .ite y589 (
  let y590 : Bool := (fn58 x.1)
  .ret y590) (
  let y591 : Bool := (x.2 == (ByteArray.mk #[105, 56]))
  .ite y591 (
  .ret false) (
  let y592 : Bool := (x.2 == (ByteArray.mk #[117, 56]))
  .ite y592 (
  .ret false) (
  let y593 : Bool := (x.2 == (ByteArray.mk #[105, 51, 50]))
  .ite y593 (
  .ret false) (
  let y594 : Bool := (x.2 == (ByteArray.mk #[105, 54, 52]))
  .ite y594 (
  .ret false) (
  let y595 : Bool := (x.2 == (ByteArray.mk #[120]))
  .ite y595 (
  .ret false) (
  let y596 : Bool := (x.2 == (ByteArray.mk #[120, 109]))
  .ite y596 (
  let y597 : Bool := (fn58 x.1)
  .ret y597) (
  let y598 : Bool := (x.2 == (ByteArray.mk #[99, 108]))
  .ite y598 (
  .ret false) (
  let y599 : Bool := (eqD COperand x.1 (0, (0, (0, (0, (0, (0, (false, 0))))))))
  .ret y599)))))))))))) (
  let y600 : Bool := (x.2 == (ByteArray.mk #[114]))
  .ite y600 (
  .ret false) (
  let y601 : Bool := (x.2 == (ByteArray.mk #[109]))
  .ite y601 (
  let y602 : Bool := (fn58 x.1)
  .ret y602) (
  let y603 : Bool := (x.2 == (ByteArray.mk #[114, 109]))
  .ite y603 (
  let y604 : Bool := (fn58 x.1)
  .ret y604) (
  let y605 : Bool := (x.2 == (ByteArray.mk #[105, 56]))
  .ite y605 (
  .ret false) (
  let y606 : Bool := (x.2 == (ByteArray.mk #[117, 56]))
  .ite y606 (
  .ret false) (
  let y607 : Bool := (x.2 == (ByteArray.mk #[105, 51, 50]))
  .ite y607 (
  .ret false) (
  let y608 : Bool := (x.2 == (ByteArray.mk #[105, 54, 52]))
  .ite y608 (
  .ret false) (
  let y609 : Bool := (x.2 == (ByteArray.mk #[120]))
  .ite y609 (
  .ret false) (
  let y610 : Bool := (x.2 == (ByteArray.mk #[120, 109]))
  .ite y610 (
  let y611 : Bool := (fn58 x.1)
  .ret y611) (
  let y612 : Bool := (x.2 == (ByteArray.mk #[99, 108]))
  .ite y612 (
  .ret false) (
  let y613 : Bool := (eqD COperand x.1 (0, (0, (0, (0, (0, (0, (false, 0))))))))
  .ret y613))))))))))))) (
  let y614 : Bool := ((ieq y0 3) == true)
  .ite y614 (
  let y615 : (Int × (Int × (Int × (Int × (Int × (Bool × Int)))))) := x.1.2
  let y616 : Int := y615.2.2.2.2.2.2
  .need (pre59 y616) <|
  .ite y1 (
  let y617 : Int := y615.1
  let y618 : Bool := ((ile 16 y617) == true)
  .ite y618 (
  let y619 : Bool := ((ilt y617 32) == true)
  .ite y619 (
  .need (pre60 y617) <|
  let y620 : Bool := (x.2 == (ByteArray.mk #[114]))
  .ite y620 (
  .ret false) (
  let y621 : Bool := (x.2 == (ByteArray.mk #[109]))
  .ite y621 (
  .ret false) (
  let y622 : Bool := (x.2 == (ByteArray.mk #[114, 109]))
  .ite y622 (
  .ret false) (
  let y623 : Bool := (x.2 == (ByteArray.mk #[105, 56]))
  .ite y623 (
  let y624 : Bool := (eqD COperand x.1 (fn59 y616))
  let y625 : Bool := (y624 == true)
  .ite y625 (
  let y626 : Bool := ((ile (-128) y616) == true)
  .ite y626 (
  let y627 : Bool := (ilt y616 128)
  .ret y627) (
  .ret false)) (
  .ret false)) (
  let y628 : Bool := (x.2 == (ByteArray.mk #[117, 56]))
  .ite y628 (
  let y629 : Bool := (eqD COperand x.1 (fn59 y616))
  let y630 : Bool := (y629 == true)
  .ite y630 (
  let y631 : Bool := ((ile 0 y616) == true)
  .ite y631 (
  let y632 : Bool := (ilt y616 256)
  .ret y632) (
  .ret false)) (
  .ret false)) (
  let y633 : Bool := (x.2 == (ByteArray.mk #[105, 51, 50]))
  .ite y633 (
  let y634 : Bool := (eqD COperand x.1 (fn59 y616))
  let y635 : Bool := (y634 == true)
  .ite y635 (
  let y636 : Bool := ((ile (-2147483648) y616) == true)
  .ite y636 (
  let y637 : Bool := (ilt y616 2147483648)
  .ret y637) (
  .ret false)) (
  .ret false)) (
  let y638 : Bool := (x.2 == (ByteArray.mk #[105, 54, 52]))
  .ite y638 (
  let y639 : Bool := (eqD COperand x.1 (fn59 y616))
  .ret y639) (
  let y640 : Bool := (x.2 == (ByteArray.mk #[120]))
  .ite y640 (
  let y641 : Bool := (eqD COperand x.1 (fn60 y617))
  .ret y641) (
  let y642 : Bool := (x.2 == (ByteArray.mk #[120, 109]))
  .ite y642 (
  let y643 : Bool := (eqD COperand x.1 (fn60 y617))
  let y644 : Bool := (y643 == false)
  .ite y644 (
  .ret false) (
  .ret true)) (
  let y645 : Bool := (x.2 == (ByteArray.mk #[99, 108]))
  .ite y645 (
  .ret false) (
  let y646 : Bool := (eqD COperand x.1 (0, (0, (0, (0, (0, (0, (false, 0))))))))
  .ret y646))))))))))) (
  let y647 : Bool := (x.2 == (ByteArray.mk #[114]))
  .ite y647 (
  .ret false) (
  let y648 : Bool := (x.2 == (ByteArray.mk #[109]))
  .ite y648 (
  .ret false) (
  let y649 : Bool := (x.2 == (ByteArray.mk #[114, 109]))
  .ite y649 (
  .ret false) (
  let y650 : Bool := (x.2 == (ByteArray.mk #[105, 56]))
  .ite y650 (
  let y651 : Bool := (eqD COperand x.1 (fn59 y616))
  let y652 : Bool := (y651 == true)
  .ite y652 (
  let y653 : Bool := ((ile (-128) y616) == true)
  .ite y653 (
  let y654 : Bool := (ilt y616 128)
  .ret y654) (
  .ret false)) (
  .ret false)) (
  let y655 : Bool := (x.2 == (ByteArray.mk #[117, 56]))
  .ite y655 (
  let y656 : Bool := (eqD COperand x.1 (fn59 y616))
  let y657 : Bool := (y656 == true)
  .ite y657 (
  let y658 : Bool := ((ile 0 y616) == true)
  .ite y658 (
  let y659 : Bool := (ilt y616 256)
  .ret y659) (
  .ret false)) (
  .ret false)) (
  let y660 : Bool := (x.2 == (ByteArray.mk #[105, 51, 50]))
  .ite y660 (
  let y661 : Bool := (eqD COperand x.1 (fn59 y616))
  let y662 : Bool := (y661 == true)
  .ite y662 (
  let y663 : Bool := ((ile (-2147483648) y616) == true)
  .ite y663 (
  let y664 : Bool := (ilt y616 2147483648)
  .ret y664) (
  .ret false)) (
  .ret false)) (
  let y665 : Bool := (x.2 == (ByteArray.mk #[105, 54, 52]))
  .ite y665 (
  let y666 : Bool := (eqD COperand x.1 (fn59 y616))
  .ret y666) (
  let y667 : Bool := (x.2 == (ByteArray.mk #[120]))
  .ite y667 (
  .ret false) (
  let y668 : Bool := (x.2 == (ByteArray.mk #[120, 109]))
  .ite y668 (
  .ret false) (
  let y669 : Bool := (x.2 == (ByteArray.mk #[99, 108]))
  .ite y669 (
  .ret false) (
  let y670 : Bool := (eqD COperand x.1 (0, (0, (0, (0, (0, (0, (false, 0))))))))
  .ret y670)))))))))))) (
  let y671 : Bool := (x.2 == (ByteArray.mk #[114]))
  .ite y671 (
  .ret false) (
  let y672 : Bool := (x.2 == (ByteArray.mk #[109]))
  .ite y672 (
  .ret false) (
  let y673 : Bool := (x.2 == (ByteArray.mk #[114, 109]))
  .ite y673 (
  .ret false) (
  let y674 : Bool := (x.2 == (ByteArray.mk #[105, 56]))
  .ite y674 (
  let y675 : Bool := (eqD COperand x.1 (fn59 y616))
  let y676 : Bool := (y675 == true)
  .ite y676 (
  let y677 : Bool := ((ile (-128) y616) == true)
  .ite y677 (
  let y678 : Bool := (ilt y616 128)
  .ret y678) (
  .ret false)) (
  .ret false)) (
  let y679 : Bool := (x.2 == (ByteArray.mk #[117, 56]))
  .ite y679 (
  let y680 : Bool := (eqD COperand x.1 (fn59 y616))
  let y681 : Bool := (y680 == true)
  .ite y681 (
  let y682 : Bool := ((ile 0 y616) == true)
  .ite y682 (
  let y683 : Bool := (ilt y616 256)
  .ret y683) (
  .ret false)) (
  .ret false)) (
  let y684 : Bool := (x.2 == (ByteArray.mk #[105, 51, 50]))
  .ite y684 (
  let y685 : Bool := (eqD COperand x.1 (fn59 y616))
  let y686 : Bool := (y685 == true)
  .ite y686 (
  let y687 : Bool := ((ile (-2147483648) y616) == true)
  .ite y687 (
  let y688 : Bool := (ilt y616 2147483648)
  .ret y688) (
  .ret false)) (
  .ret false)) (
  let y689 : Bool := (x.2 == (ByteArray.mk #[105, 54, 52]))
  .ite y689 (
  let y690 : Bool := (eqD COperand x.1 (fn59 y616))
  .ret y690) (
  let y691 : Bool := (x.2 == (ByteArray.mk #[120]))
  .ite y691 (
  .ret false) (
  let y692 : Bool := (x.2 == (ByteArray.mk #[120, 109]))
  .ite y692 (
  .ret false) (
  let y693 : Bool := (x.2 == (ByteArray.mk #[99, 108]))
  .ite y693 (
  .ret false) (
  let y694 : Bool := (eqD COperand x.1 (0, (0, (0, (0, (0, (0, (false, 0))))))))
  .ret y694)))))))))))) (
  let y695 : Bool := (x.2 == (ByteArray.mk #[114]))
  .ite y695 (
  .ret false) (
  let y696 : Bool := (x.2 == (ByteArray.mk #[109]))
  .ite y696 (
  .ret false) (
  let y697 : Bool := (x.2 == (ByteArray.mk #[114, 109]))
  .ite y697 (
  .ret false) (
  let y698 : Bool := (x.2 == (ByteArray.mk #[105, 56]))
  .ite y698 (
  let y699 : Bool := (eqD COperand x.1 (fn59 y616))
  let y700 : Bool := (y699 == true)
  .ite y700 (
  let y701 : Bool := ((ile (-128) y616) == true)
  .ite y701 (
  let y702 : Bool := (ilt y616 128)
  .ret y702) (
  .ret false)) (
  .ret false)) (
  let y703 : Bool := (x.2 == (ByteArray.mk #[117, 56]))
  .ite y703 (
  let y704 : Bool := (eqD COperand x.1 (fn59 y616))
  let y705 : Bool := (y704 == true)
  .ite y705 (
  let y706 : Bool := ((ile 0 y616) == true)
  .ite y706 (
  let y707 : Bool := (ilt y616 256)
  .ret y707) (
  .ret false)) (
  .ret false)) (
  let y708 : Bool := (x.2 == (ByteArray.mk #[105, 51, 50]))
  .ite y708 (
  let y709 : Bool := (eqD COperand x.1 (fn59 y616))
  let y710 : Bool := (y709 == true)
  .ite y710 (
  let y711 : Bool := ((ile (-2147483648) y616) == true)
  .ite y711 (
  let y712 : Bool := (ilt y616 2147483648)
  .ret y712) (
  .ret false)) (
  .ret false)) (
  let y713 : Bool := (x.2 == (ByteArray.mk #[105, 54, 52]))
  .ite y713 (
  let y714 : Bool := (eqD COperand x.1 (fn59 y616))
  .ret y714) (
  let y715 : Bool := (x.2 == (ByteArray.mk #[120]))
  .ite y715 (
  .ret false) (
  let y716 : Bool := (x.2 == (ByteArray.mk #[120, 109]))
  .ite y716 (
  .ret false) (
  let y717 : Bool := (x.2 == (ByteArray.mk #[99, 108]))
  .ite y717 (
  .ret false) (
  let y718 : Bool := (eqD COperand x.1 (0, (0, (0, (0, (0, (0, (false, 0))))))))
  .ret y718)))))))))))) (
  .ite y1 (
  let y719 : (Int × (Int × (Int × (Int × (Int × (Bool × Int)))))) := x.1.2
  let y720 : Int := y719.1
  let y721 : Bool := ((ile 16 y720) == true)
  .ite y721 (
  let y722 : Bool := ((ilt y720 32) == true)
  .ite y722 (
  .need (pre60 y720) <|
  let y723 : Bool := (x.2 == (ByteArray.mk #[114]))
  .ite y723 (
  .ret false) (
  let y724 : Bool := (x.2 == (ByteArray.mk #[109]))
  .ite y724 (
  .ret false) (
  let y725 : Bool := (x.2 == (ByteArray.mk #[114, 109]))
  .ite y725 (
  .ret false) (
  let y726 : Bool := (x.2 == (ByteArray.mk #[105, 56]))
  .ite y726 (
  .ret false) (
  let y727 : Bool := (x.2 == (ByteArray.mk #[117, 56]))
  .ite y727 (
  .ret false) (
  let y728 : Bool := (x.2 == (ByteArray.mk #[105, 51, 50]))
  .ite y728 (
  .ret false) (
  let y729 : Bool := (x.2 == (ByteArray.mk #[105, 54, 52]))
  .ite y729 (
  .ret false) (
  let y730 : Bool := (x.2 == (ByteArray.mk #[120]))
  .ite y730 (
  let y731 : Bool := (eqD COperand x.1 (fn60 y720))
  .ret y731) (
  let y732 : Bool := (x.2 == (ByteArray.mk #[120, 109]))
  .ite y732 (
  let y733 : Bool := (eqD COperand x.1 (fn60 y720))
  let y734 : Bool := (y733 == false)
  .ite y734 (
  .ret false) (
  .ret true)) (
  let y735 : Bool := (x.2 == (ByteArray.mk #[99, 108]))
  .ite y735 (
  .ret false) (
  let y736 : Bool := (eqD COperand x.1 (0, (0, (0, (0, (0, (0, (false, 0))))))))
  .ret y736))))))))))) (
  let y737 : Bool := (x.2 == (ByteArray.mk #[114]))
  .ite y737 (
  .ret false) (
  let y738 : Bool := (x.2 == (ByteArray.mk #[109]))
  .ite y738 (
  .ret false) (
  let y739 : Bool := (x.2 == (ByteArray.mk #[114, 109]))
  .ite y739 (
  .ret false) (
  let y740 : Bool := (x.2 == (ByteArray.mk #[105, 56]))
  .ite y740 (
  .ret false) (
  let y741 : Bool := (x.2 == (ByteArray.mk #[117, 56]))
  .ite y741 (
  .ret false) (
  let y742 : Bool := (x.2 == (ByteArray.mk #[105, 51, 50]))
  .ite y742 (
  .ret false) (
  let y743 : Bool := (x.2 == (ByteArray.mk #[105, 54, 52]))
  .ite y743 (
  .ret false) (
  let y744 : Bool := (x.2 == (ByteArray.mk #[120]))
  .ite y744 (
  .ret false) (
  let y745 : Bool := (x.2 == (ByteArray.mk #[120, 109]))
  .ite y745 (
  .ret false) (
  let y746 : Bool := (x.2 == (ByteArray.mk #[99, 108]))
  .ite y746 (
  .ret false) (
  let y747 : Bool := (eqD COperand x.1 (0, (0, (0, (0, (0, (0, (false, 0))))))))
  .ret y747)))))))))))) (
  let y748 : Bool := (x.2 == (ByteArray.mk #[114]))
  .ite y748 (
  .ret false) (
  let y749 : Bool := (x.2 == (ByteArray.mk #[109]))
  .ite y749 (
  .ret false) (
  let y750 : Bool := (x.2 == (ByteArray.mk #[114, 109]))
  .ite y750 (
  .ret false) (
  let y751 : Bool := (x.2 == (ByteArray.mk #[105, 56]))
  .ite y751 (
  .ret false) (
  let y752 : Bool := (x.2 == (ByteArray.mk #[117, 56]))
  .ite y752 (
  .ret false) (
  let y753 : Bool := (x.2 == (ByteArray.mk #[105, 51, 50]))
  .ite y753 (
  .ret false) (
  let y754 : Bool := (x.2 == (ByteArray.mk #[105, 54, 52]))
  .ite y754 (
  .ret false) (
  let y755 : Bool := (x.2 == (ByteArray.mk #[120]))
  .ite y755 (
  .ret false) (
  let y756 : Bool := (x.2 == (ByteArray.mk #[120, 109]))
  .ite y756 (
  .ret false) (
  let y757 : Bool := (x.2 == (ByteArray.mk #[99, 108]))
  .ite y757 (
  .ret false) (
  let y758 : Bool := (eqD COperand x.1 (0, (0, (0, (0, (0, (0, (false, 0))))))))
  .ret y758)))))))))))) (
  let y759 : Bool := (x.2 == (ByteArray.mk #[114]))
  .ite y759 (
  .ret false) (
  let y760 : Bool := (x.2 == (ByteArray.mk #[109]))
  .ite y760 (
  .ret false) (
  let y761 : Bool := (x.2 == (ByteArray.mk #[114, 109]))
  .ite y761 (
  .ret false) (
  let y762 : Bool := (x.2 == (ByteArray.mk #[105, 56]))
  .ite y762 (
  .ret false) (
  let y763 : Bool := (x.2 == (ByteArray.mk #[117, 56]))
  .ite y763 (
  .ret false) (
  let y764 : Bool := (x.2 == (ByteArray.mk #[105, 51, 50]))
  .ite y764 (
  .ret false) (
  let y765 : Bool := (x.2 == (ByteArray.mk #[105, 54, 52]))
  .ite y765 (
  .ret false) (
  let y766 : Bool := (x.2 == (ByteArray.mk #[120]))
  .ite y766 (
  .ret false) (
  let y767 : Bool := (x.2 == (ByteArray.mk #[120, 109]))
  .ite y767 (
  .ret false) (
  let y768 : Bool := (x.2 == (ByteArray.mk #[99, 108]))
  .ite y768 (
  .ret false) (
  let y769 : Bool := (eqD COperand x.1 (0, (0, (0, (0, (0, (0, (false, 0))))))))
  .ret y769))))))))))))))
noncomputable def fn20 (x : (DOperand × ByteArray)) : Bool := (tree20 x).val
def pre20 (x : (DOperand × ByteArray)) : Prop := (tree20 x).ok
noncomputable def spec20 : Spec := { dom := (.st COperand (.st1 .str)), cod := .bool, n := 1, pre := pre20, f := fn20 }
noncomputable def need20 : FuncId → Option Spec
  | 58 => some spec58
  | 59 => some spec59
  | 60 => some spec60
  | _ => none
theorem need20_ok : ∀ f sp, need20 f = some sp → SpecOk env0 f sp := by
  intro f sp h
  unfold need20 at h
  split at h
  · cases h; exact ok58
  · cases h; exact ok59
  · cases h; exact ok60
  · cases h
theorem run20 (W : Cfg) (Q : Bool → Prop) (x : (DOperand × ByteArray)) : run (env need20 (fun _ _ => none)) (fun _ _ _ => none) (finS spec20 Q) W 100000 (startFr 20 Tryd.f20 (bodyOf Tryd.f20) (argsOf (.st COperand (.st1 .str)) x)) [] [] = (tree20 x).wp Q := by kernel_rfl
theorem ok20 : SpecOk env0 20 spec20 := SpecOk.env rfl (fun _ _ h => h) (spec_of_tree (E := (env need20 (fun _ _ => none))) (sp := spec20) (valid _ _) (fun f sp h => SpecOk.env rfl (fun _ _ h => h) (need20_ok f sp h)) (fn := Tryd.f20) (c := (bodyOf Tryd.f20)) (by kernel_rfl) (by kernel_rfl) tree20 run20 (fun _ h => Tr.gives_val h))

end Go.Eng.RU
end
section
/- Functions of this program, written out. -/
namespace Go.Eng.RU
open Go.Proofs Go.Eng
set_option maxRecDepth 100000

/-! ### sundial/sundialref10.find -/
inductive J12 where
  | h0 (v0 : (List Drow)) (v1 : Int)
noncomputable def tree12 (x : DInsn) : Tr (J12 ⊕ (Drow × Bool)) :=
  .ite ((ieq x.1 29) == false) (
  .ite ((ieq x.1 30) == false) (
  let y0 : Int := x.2.1
  let y1 : Bool := ((ilt 15 y0) == false)
  .ite y1 (
  .ite ((!(ieq x.1 31)) == true) (
  .ite ((ine y0 0) == false) (
  let y2 : Bool := ((ine x.1 39) == true)
  .ite y2 (
  let y3 : Bool := (ine x.2.2.2.2.2.1 0)
  .ite y3 (
  let y4 : ((Int × (ByteArray × (ByteArray × (Int × ((List Int) × (Int × (Int × Int))))))) × Bool) := ((0, (ByteArray.empty, (ByteArray.empty, (0, (([] : List Int), (0, (0, 0))))))), false)
  .ret (.inr y4)) (
  let y5 : (Int × Int) := (x.1, y0)
  .need (pre18 y5) <|
  let y6 : (List Drow) := (fn18 y5)
  .ret (.inl (.h0 y6 0)))) (
  let y7 : (Int × Int) := (x.1, y0)
  .need (pre18 y7) <|
  let y8 : (List Drow) := (fn18 y7)
  .ret (.inl (.h0 y8 0)))) (
  let y9 : ((Int × (ByteArray × (ByteArray × (Int × ((List Int) × (Int × (Int × Int))))))) × Bool) := ((0, (ByteArray.empty, (ByteArray.empty, (0, (([] : List Int), (0, (0, 0))))))), false)
  .ret (.inr y9))) (
  let y10 : Bool := ((ine x.1 39) == true)
  .ite y10 (
  let y11 : Bool := (ine x.2.2.2.2.2.1 0)
  .ite y11 (
  let y12 : ((Int × (ByteArray × (ByteArray × (Int × ((List Int) × (Int × (Int × Int))))))) × Bool) := ((0, (ByteArray.empty, (ByteArray.empty, (0, (([] : List Int), (0, (0, 0))))))), false)
  .ret (.inr y12)) (
  let y13 : (Int × Int) := (x.1, y0)
  .need (pre18 y13) <|
  let y14 : (List Drow) := (fn18 y13)
  .ret (.inl (.h0 y14 0)))) (
  let y15 : (Int × Int) := (x.1, y0)
  .need (pre18 y15) <|
  let y16 : (List Drow) := (fn18 y15)
  .ret (.inl (.h0 y16 0))))) (
  let y17 : ((Int × (ByteArray × (ByteArray × (Int × ((List Int) × (Int × (Int × Int))))))) × Bool) := ((0, (ByteArray.empty, (ByteArray.empty, (0, (([] : List Int), (0, (0, 0))))))), false)
  .ret (.inr y17))) (
  let y18 : Int := x.2.1
  let y19 : Bool := ((ilt 15 y18) == false)
  .ite y19 (
  let y20 : Bool := ((ine x.1 39) == true)
  .ite y20 (
  let y21 : Bool := (ine x.2.2.2.2.2.1 0)
  .ite y21 (
  let y22 : ((Int × (ByteArray × (ByteArray × (Int × ((List Int) × (Int × (Int × Int))))))) × Bool) := ((0, (ByteArray.empty, (ByteArray.empty, (0, (([] : List Int), (0, (0, 0))))))), false)
  .ret (.inr y22)) (
  let y23 : (Int × Int) := (x.1, y18)
  .need (pre18 y23) <|
  let y24 : (List Drow) := (fn18 y23)
  .ret (.inl (.h0 y24 0)))) (
  let y25 : (Int × Int) := (x.1, y18)
  .need (pre18 y25) <|
  let y26 : (List Drow) := (fn18 y25)
  .ret (.inl (.h0 y26 0)))) (
  let y27 : ((Int × (ByteArray × (ByteArray × (Int × ((List Int) × (Int × (Int × Int))))))) × Bool) := ((0, (ByteArray.empty, (ByteArray.empty, (0, (([] : List Int), (0, (0, 0))))))), false)
  .ret (.inr y27)))) (
  let y28 : Int := x.2.1
  let y29 : Bool := ((ilt 15 y28) == false)
  .ite y29 (
  let y30 : Bool := ((ine x.1 39) == true)
  .ite y30 (
  let y31 : Bool := (ine x.2.2.2.2.2.1 0)
  .ite y31 (
  let y32 : ((Int × (ByteArray × (ByteArray × (Int × ((List Int) × (Int × (Int × Int))))))) × Bool) := ((0, (ByteArray.empty, (ByteArray.empty, (0, (([] : List Int), (0, (0, 0))))))), false)
  .ret (.inr y32)) (
  let y33 : (Int × Int) := (x.1, y28)
  .need (pre18 y33) <|
  let y34 : (List Drow) := (fn18 y33)
  .ret (.inl (.h0 y34 0)))) (
  let y35 : (Int × Int) := (x.1, y28)
  .need (pre18 y35) <|
  let y36 : (List Drow) := (fn18 y35)
  .ret (.inl (.h0 y36 0)))) (
  let y37 : ((Int × (ByteArray × (ByteArray × (Int × ((List Int) × (Int × (Int × Int))))))) × Bool) := ((0, (ByteArray.empty, (ByteArray.empty, (0, (([] : List Int), (0, (0, 0))))))), false)
  .ret (.inr y37)))
noncomputable def step12 (x : DInsn) : J12 → Tr (J12 ⊕ (Drow × Bool))
  | .h0 v0 v1 =>
  .ite (ilt v1 (v0.length : Int)) (
  .need ((0 : Int) ≤ v1) <|
  .need (v1 < (v0.length : Int)) <|
  let y0 : (Int × (DOperand × (DOperand × (Int × Int)))) := x.2.2
  let y1 : Drow := (rdc Crow v0 (v1).toNat)
  let y2 : (Int × Int) := (y0.1, y1.1)
  .need (pre19 y2) <|
  .ite ((fn19 y2) == true) (
  .need ((0 : Int) ≤ v1) <|
  .need (v1 < (v0.length : Int)) <|
  let y3 : (DOperand × (DOperand × (Int × Int))) := y0.2
  let y4 : (ByteArray × (ByteArray × (Int × ((List Int) × (Int × (Int × Int)))))) := y1.2
  let y5 : (DOperand × ByteArray) := (y3.1, y4.1)
  .need (pre20 y5) <|
  .ite ((fn20 y5) == true) (
  .need ((0 : Int) ≤ v1) <|
  .need (v1 < (v0.length : Int)) <|
  let y6 : (DOperand × ByteArray) := (y3.2.1, y4.2.1)
  .need (pre20 y6) <|
  .ite (fn20 y6) (
  .need ((0 : Int) ≤ v1) <|
  .need (v1 < (v0.length : Int)) <|
  .ret (.inr (y1, true))) (
  let y7 : Int := (iadd .i64 v1 1)
  .ret (.inl (.h0 v0 y7)))) (
  let y8 : Int := (iadd .i64 v1 1)
  .ret (.inl (.h0 v0 y8)))) (
  let y9 : Int := (iadd .i64 v1 1)
  .ret (.inl (.h0 v0 y9)))) (
  .ret (.inr ((0, (ByteArray.empty, (ByteArray.empty, (0, (([] : List Int), (0, (0, 0))))))), false)))
noncomputable def head12 (x : DInsn) : J12 → Head
  | .h0 v0 v1 =>
  { fr := { id := 12, kind := .top, T := [.any, (.ptr 0 []), (.ptr 1 []), .any, .any, (.fsl Crow v0), (.int .i64 v1)] ++ List.replicate 80 .any, items := [.lp (subc [1, 1, 1, 1, 0, 1, 0, 0] (bodyOf Tryd.f12)), .blk 0, .code (subc [1, 1, 1, 1, 1] (bodyOf Tryd.f12))], D := [], base := 0 },
    stk := [],
    H := [.cell true 25 (.agg [1, 1, 1, 8, 8, 1, 1] [(.int .u8 x.1), (.int .u8 x.2.1), (.int .i64 x.2.2.1), (.agg [1, 1, 1, 1, 1, 1, 1, 1] [(.int .u8 x.2.2.2.1.1), (.int .i64 x.2.2.2.1.2.1), (.int .i64 x.2.2.2.1.2.2.1), (.int .i64 x.2.2.2.1.2.2.2.1), (.int .i64 x.2.2.2.1.2.2.2.2.1), (.int .i64 x.2.2.2.1.2.2.2.2.2.1), (.bool x.2.2.2.1.2.2.2.2.2.2.1), (.int .i64 x.2.2.2.1.2.2.2.2.2.2.2)]), (.agg [1, 1, 1, 1, 1, 1, 1, 1] [(.int .u8 x.2.2.2.2.1.1), (.int .i64 x.2.2.2.2.1.2.1), (.int .i64 x.2.2.2.2.1.2.2.1), (.int .i64 x.2.2.2.2.1.2.2.2.1), (.int .i64 x.2.2.2.2.1.2.2.2.2.1), (.int .i64 x.2.2.2.2.1.2.2.2.2.2.1), (.bool x.2.2.2.2.1.2.2.2.2.2.2.1), (.int .i64 x.2.2.2.2.1.2.2.2.2.2.2.2)]), (.int .u8 x.2.2.2.2.2.1), (.int .i64 x.2.2.2.2.2.2)]), .cell true 44 (.agg [1, 1, 1, 1, 1, 1, 1, 1] [(.int .i64 0), (.str ByteArray.empty), (.str ByteArray.empty), (.int .u8 0), (.raw (.slice none 0 0)), (.int .i64 0), (.int .i64 0), (.int .i64 0)])] }
noncomputable def stop12 : FuncId → Nat → Nat → Option Cut
  | 12, 0, 0 => some { tmps := [1, 2, 5, 6], loops := [], dead := [], stk := [] }
  | _, _, _ => none
noncomputable def fn12 (x : DInsn) : (Drow × Bool) := endVal (TC.dflt (.st Crow (.st1 .bool))) (step12 x) (tree12 x)
def pre12 (x : DInsn) : Prop := ∃ r, Ends (step12 x) r (tree12 x)
noncomputable def spec12 : Spec := { dom := (.st1 CInsn), cod := (.st Crow (.st1 .bool)), n := 2, pre := pre12, f := fn12 }
noncomputable def need12 : FuncId → Option Spec
  | 18 => some spec18
  | 19 => some spec19
  | 20 => some spec20
  | _ => none
theorem need12_ok : ∀ f sp, need12 f = some sp → SpecOk env0 f sp := by
  intro f sp h
  unfold need12 at h
  split at h
  · cases h; exact ok18
  · cases h; exact ok19
  · cases h; exact ok20
  · cases h
theorem run12 (W : Cfg) (Q : (Drow × Bool) → Prop) (x : DInsn) : run (env need12 (fun _ _ => none)) stop12 (finS spec12 Q) W 100000 (startFr 12 Tryd.f12 (bodyOf Tryd.f12) (argsOf (.st1 CInsn) x)) [] [] = (tree12 x).wp (kont W Q (head12 x)) := by kernel_rfl
theorem run12h0 (W : Cfg) (Q : (Drow × Bool) → Prop) (x : DInsn) (v0 : (List Drow)) (v1 : Int) : run (env need12 (fun _ _ => none)) stop12 (finS spec12 Q) W 100000 (head12 x (.h0 v0 v1)).fr.enter (head12 x (.h0 v0 v1)).stk (head12 x (.h0 v0 v1)).H = (step12 x (.h0 v0 v1)).wp (kont W Q (head12 x)) := by kernel_rfl
theorem runs12 (W : Cfg) (Q : (Drow × Bool) → Prop) (x : DInsn) : ∀ j : J12, run (env need12 (fun _ _ => none)) stop12 (finS spec12 Q) W 100000 (head12 x j).fr.enter (head12 x j).stk (head12 x j).H = (step12 x j).wp (kont W Q (head12 x))
  | .h0 v0 v1 => run12h0 W Q x v0 v1
theorem ok12 : SpecOk env0 12 spec12 := SpecOk.env rfl (fun _ _ h => h) (spec_of_trees (E := (env need12 (fun _ _ => none))) (sp := spec12) (valid _ _) (fun f sp h => SpecOk.env rfl (fun _ _ h => h) (need12_ok f sp h)) (fn := Tryd.f12) (c := (bodyOf Tryd.f12)) (by kernel_rfl) (by kernel_rfl) tree12 step12 head12 run12 runs12 (fun _ h => endVal_ends h))

/-! ### sundial/sundialref10.Right -/
noncomputable def tree5 (x : DInsn) : Tr Bool :=
  .need (pre12 x) <|
  .ret (fn12 x).2
noncomputable def fn5 (x : DInsn) : Bool := (tree5 x).val
def pre5 (x : DInsn) : Prop := (tree5 x).ok
noncomputable def spec5 : Spec := { dom := (.st1 CInsn), cod := .bool, n := 1, pre := pre5, f := fn5 }
noncomputable def need5 : FuncId → Option Spec
  | 12 => some spec12
  | _ => none
theorem need5_ok : ∀ f sp, need5 f = some sp → SpecOk env0 f sp := by
  intro f sp h
  unfold need5 at h
  split at h
  · cases h; exact ok12
  · cases h
theorem run5 (W : Cfg) (Q : Bool → Prop) (x : DInsn) : run (env need5 (fun _ _ => none)) (fun _ _ _ => none) (finS spec5 Q) W 100000 (startFr 5 Tryd.f5 (bodyOf Tryd.f5) (argsOf (.st1 CInsn) x)) [] [] = (tree5 x).wp Q := by kernel_rfl
theorem ok5 : SpecOk env0 5 spec5 := SpecOk.env rfl (fun _ _ h => h) (spec_of_tree (E := (env need5 (fun _ _ => none))) (sp := spec5) (valid _ _) (fun f sp h => SpecOk.env rfl (fun _ _ h => h) (need5_ok f sp h)) (fn := Tryd.f5) (c := (bodyOf Tryd.f5)) (by kernel_rfl) (by kernel_rfl) tree5 run5 (fun _ h => Tr.gives_val h))

/-! ### sundial/operand.Uses -/
inductive J28 where
  | h0 (v0 : (List Int)) (v1 : Int)
  | h1 (v0 : (List Int)) (v1 : Int) (v11 : Nat) (v12 : Nat) (v13 : (List Int))
noncomputable def tree28 (x : DOperand) : Tr (J28 ⊕ (List Int)) :=
  .need ((0 : Nat) < 2) <|
  .need ((1 : Nat) < 2) <|
  let y0 : (Int × (Int × (Int × (Int × (Bool × Int))))) := x.2.2
  .ret (.inl (.h0 [y0.1, y0.2.1] 0))
noncomputable def step28 (x : DOperand) : J28 → Tr (J28 ⊕ (List Int))
  | .h0 v0 v1 =>
  .ite (ilt v1 2) (
  .need ((0 : Int) ≤ v1) <|
  .need ((v1 : Int) < 2) <|
  .need (((v1).toNat : Nat) < 2) <|
  .ite ((ieq x.1 2) == true) (
  let y0 : Int := (rdc (.int .i64) v0 (v1).toNat)
  .ite ((ile 0 y0) == true) (
  .need ((0 : Nat) < 1) <|
  .need (((0 : Nat) + 1 : Nat) ≤ 1) <|
  .need (((1 : Nat) * 8 : Nat) ≤ 2 ^ 40) <|
  .need ((1 : Nat) ≤ 2 ^ 40) <|
  let y1 : Int := (iadd .i64 v1 1)
  .ret (.inl (.h1 v0 y1 1 1 [y0]))) (
  let y2 : Int := (iadd .i64 v1 1)
  .ret (.inl (.h0 v0 y2)))) (
  let y3 : Int := (iadd .i64 v1 1)
  .ret (.inl (.h0 v0 y3)))) (
  .ret (.inr ([] : List Int)))
  | .h1 v0 v1 v11 v12 v13 =>
  .ite (ilt v1 2) (
  .need ((0 : Int) ≤ v1) <|
  .need ((v1 : Int) < 2) <|
  .need (((v1).toNat : Nat) < 2) <|
  .ite ((ieq x.1 2) == true) (
  let y0 : Int := (rdc (.int .i64) v0 (v1).toNat)
  .ite ((ile 0 y0) == true) (
  .need ((0 : Nat) < 1) <|
  .need (((0 : Nat) + 1 : Nat) ≤ 1) <|
  .need ((v11 : Nat) = v12) <|
  let y1 : Nat := (v11 + 1)
  .need (((y1 : Nat) * 8 : Nat) ≤ 2 ^ 40) <|
  .need ((y1 : Nat) ≤ 2 ^ 40) <|
  let y2 : Int := (iadd .i64 v1 1)
  .ret (.inl (.h1 v0 y2 y1 y1 (v13 ++ [y0])))) (
  let y3 : Int := (iadd .i64 v1 1)
  .ret (.inl (.h1 v0 y3 v11 v12 v13)))) (
  let y4 : Int := (iadd .i64 v1 1)
  .ret (.inl (.h1 v0 y4 v11 v12 v13)))) (
  .need (((0 : Nat) + v11 : Nat) ≤ v12) <|
  .ret (.inr (v13.take v11)))
noncomputable def head28 (x : DOperand) : J28 → Head
  | .h0 v0 v1 =>
  { fr := { id := 70, kind := (.iter 4), T := [(.yld 4), (.ptr 1 [])] ++ List.replicate 7 .any ++ [(.arr 2 (.int .i64) v0), (.int .i64 v1)] ++ List.replicate 16 .any, items := [.lp (subc [1, 0, 0] (bodyOf Tryd.f70)), .blk 0], D := [], base := 5 },
    stk := [{ id := 69, kind := (.call (some 4)), T := [.any, .any, (.ptr 2 []), .any, (.raw (.slice none 0 0))] ++ List.replicate 8 .any, items := [.fin 4, .blk 0, .code (subc [1, 1] (bodyOf Tryd.f69))], D := [3], base := 2 }, { id := 62, kind := (.call (some 5)), T := List.replicate 4 .any ++ [.undef], items := [.ops (opsOf (subc [1, 0] (bodyOf Tryd.f62))) ((opsOf (subc [1, 0] (bodyOf Tryd.f62))).drop 2), .code (subc [1, 1] (bodyOf Tryd.f62))], D := [], base := 2 }, { id := 28, kind := .top, T := List.replicate 5 .any ++ [.undef], items := [.ops (opsOf (subc [1, 0] (bodyOf Tryd.f28))) ((opsOf (subc [1, 0] (bodyOf Tryd.f28))).drop 3), .code (subc [1, 1] (bodyOf Tryd.f28))], D := [], base := 0 }],
    H := [.dead, .cell true 23 (.agg [1, 1, 1, 1, 1, 1, 1, 1] [(.int .u8 x.1), (.int .i64 x.2.1), (.int .i64 x.2.2.1), (.int .i64 x.2.2.2.1), (.int .i64 x.2.2.2.2.1), (.int .i64 x.2.2.2.2.2.1), (.bool x.2.2.2.2.2.2.1), (.int .i64 x.2.2.2.2.2.2.2)]), .cell true 28 (.raw (.slice none 0 0)), .dfd, .loop .ready none 69 ([.any, .any, (.ptr 2 [])] ++ List.replicate 10 .any) [7] (subc [1, 0, 1, 0, 0] (bodyOf Tryd.f69)) (subc [1, 0, 1, 0, 1] (bodyOf Tryd.f69)) 3] }
  | .h1 v0 v1 v11 v12 v13 =>
  { fr := { id := 70, kind := (.iter 4), T := [(.yld 4), (.ptr 1 [])] ++ List.replicate 7 .any ++ [(.arr 2 (.int .i64) v0), (.int .i64 v1)] ++ List.replicate 16 .any, items := [.lp (subc [1, 0, 0] (bodyOf Tryd.f70)), .blk 0], D := [], base := 5 },
    stk := [{ id := 69, kind := (.call (some 4)), T := [.any, .any, (.ptr 2 []), .any, (.raw (.slice none 0 0))] ++ List.replicate 8 .any, items := [.fin 4, .blk 0, .code (subc [1, 1] (bodyOf Tryd.f69))], D := [3], base := 2 }, { id := 62, kind := (.call (some 5)), T := List.replicate 4 .any ++ [.undef], items := [.ops (opsOf (subc [1, 0] (bodyOf Tryd.f62))) ((opsOf (subc [1, 0] (bodyOf Tryd.f62))).drop 2), .code (subc [1, 1] (bodyOf Tryd.f62))], D := [], base := 2 }, { id := 28, kind := .top, T := List.replicate 5 .any ++ [.undef], items := [.ops (opsOf (subc [1, 0] (bodyOf Tryd.f28))) ((opsOf (subc [1, 0] (bodyOf Tryd.f28))).drop 3), .code (subc [1, 1] (bodyOf Tryd.f28))], D := [], base := 0 }],
    H := [.dead, .cell true 23 (.agg [1, 1, 1, 1, 1, 1, 1, 1] [(.int .u8 x.1), (.int .i64 x.2.1), (.int .i64 x.2.2.1), (.int .i64 x.2.2.2.1), (.int .i64 x.2.2.2.2.1), (.int .i64 x.2.2.2.2.2.1), (.bool x.2.2.2.2.2.2.1), (.int .i64 x.2.2.2.2.2.2.2)]), .cell true 28 (.osl 5 [] 1 0 v11 none), .dfd, .loop .ready none 69 ([.any, .any, (.ptr 2 [])] ++ List.replicate 10 .any) [7] (subc [1, 0, 1, 0, 0] (bodyOf Tryd.f69)) (subc [1, 0, 1, 0, 1] (bodyOf Tryd.f69)) 3, .cell true 3 (.arr v12 (.int .i64) v13)] }
noncomputable def stop28 : FuncId → Nat → Nat → Option Cut
  | 70, 0, 5 => some { tmps := [0, 1, 9, 10], loops := [(4, [2])], dead := [0], stk := [[2, 4], [4], [5]] }
  | _, _, _ => none
noncomputable def fn28 (x : DOperand) : (List Int) := endVal (TC.dflt (.slice (.int .i64))) (step28 x) (tree28 x)
def pre28 (x : DOperand) : Prop := ∃ r, Ends (step28 x) r (tree28 x)
noncomputable def spec28 : Spec := { dom := (.st1 COperand), cod := (.slice (.int .i64)), n := 1, pre := pre28, f := fn28 }
noncomputable def need28 : FuncId → Option Spec
  | _ => none
theorem need28_ok : ∀ f sp, need28 f = some sp → SpecOk env0 f sp := by
  intro f sp h
  unfold need28 at h
  split at h
  · cases h
theorem run28 (W : Cfg) (Q : (List Int) → Prop) (x : DOperand) : run (env need28 (fun _ _ => none)) stop28 (finS spec28 Q) W 100000 (startFr 28 Tryd.f28 (bodyOf Tryd.f28) (argsOf (.st1 COperand) x)) [] [] = (tree28 x).wp (kont W Q (head28 x)) := by kernel_rfl
theorem run28h0 (W : Cfg) (Q : (List Int) → Prop) (x : DOperand) (v0 : (List Int)) (v1 : Int) : run (env need28 (fun _ _ => none)) stop28 (finS spec28 Q) W 100000 (head28 x (.h0 v0 v1)).fr.enter (head28 x (.h0 v0 v1)).stk (head28 x (.h0 v0 v1)).H = (step28 x (.h0 v0 v1)).wp (kont W Q (head28 x)) := by kernel_rfl
theorem run28h1 (W : Cfg) (Q : (List Int) → Prop) (x : DOperand) (v0 : (List Int)) (v1 : Int) (v11 : Nat) (v12 : Nat) (v13 : (List Int)) : run (env need28 (fun _ _ => none)) stop28 (finS spec28 Q) W 100000 (head28 x (.h1 v0 v1 v11 v12 v13)).fr.enter (head28 x (.h1 v0 v1 v11 v12 v13)).stk (head28 x (.h1 v0 v1 v11 v12 v13)).H = (step28 x (.h1 v0 v1 v11 v12 v13)).wp (kont W Q (head28 x)) := by kernel_rfl
theorem runs28 (W : Cfg) (Q : (List Int) → Prop) (x : DOperand) : ∀ j : J28, run (env need28 (fun _ _ => none)) stop28 (finS spec28 Q) W 100000 (head28 x j).fr.enter (head28 x j).stk (head28 x j).H = (step28 x j).wp (kont W Q (head28 x))
  | .h0 v0 v1 => run28h0 W Q x v0 v1
  | .h1 v0 v1 v11 v12 v13 => run28h1 W Q x v0 v1 v11 v12 v13
theorem ok28 : SpecOk env0 28 spec28 := SpecOk.env rfl (fun _ _ h => h) (spec_of_trees (E := (env need28 (fun _ _ => none))) (sp := spec28) (valid _ _) (fun f sp h => SpecOk.env rfl (fun _ _ h => h) (need28_ok f sp h)) (fn := Tryd.f28) (c := (bodyOf Tryd.f28)) (by kernel_rfl) (by kernel_rfl) tree28 step28 head28 run28 runs28 (fun _ h => endVal_ends h))

/-! ### sundial/facts.Nought -/
noncomputable def tree9 (x : DInsn) : Tr Bool :=
  .ite (ieq x.1 9) (
  let y0 : (DOperand × (DOperand × (Int × Int))) := x.2.2.2
  let y1 : DOperand := y0.1
  let y2 : Bool := ((ieq y1.1 1) == true)
  .ite y2 (
  let y3 : DOperand := y0.2.1
  let y4 : Bool := ((ieq y3.1 1) == true)
  .ite y4 (
  let y5 : Bool := (ieq y1.2.1 y3.2.1)
  .ret y5) (
  .ret false)) (
  .ret false)) (
  .ite (ieq x.1 8) (
  let y6 : (DOperand × (DOperand × (Int × Int))) := x.2.2.2
  let y7 : DOperand := y6.1
  let y8 : Bool := ((ieq y7.1 1) == true)
  .ite y8 (
  let y9 : DOperand := y6.2.1
  let y10 : Bool := ((ieq y9.1 1) == true)
  .ite y10 (
  let y11 : Bool := (ieq y7.2.1 y9.2.1)
  .ret y11) (
  .ret false)) (
  .ret false)) (
  .ite (ieq x.1 36) (
  let y12 : (DOperand × (DOperand × (Int × Int))) := x.2.2.2
  let y13 : DOperand := y12.1
  let y14 : Bool := ((ieq y13.1 1) == true)
  .ite y14 (
  let y15 : DOperand := y12.2.1
  let y16 : Bool := ((ieq y15.1 1) == true)
  .ite y16 (
  let y17 : Bool := (ieq y13.2.1 y15.2.1)
  .ret y17) (
  .ret false)) (
  .ret false)) (
  .ret false)))
noncomputable def fn9 (x : DInsn) : Bool := (tree9 x).val
def pre9 (x : DInsn) : Prop := (tree9 x).ok
noncomputable def spec9 : Spec := { dom := (.st1 CInsn), cod := .bool, n := 1, pre := pre9, f := fn9 }
noncomputable def need9 : FuncId → Option Spec
  | _ => none
theorem need9_ok : ∀ f sp, need9 f = some sp → SpecOk env0 f sp := by
  intro f sp h
  unfold need9 at h
  split at h
  · cases h
theorem run9 (W : Cfg) (Q : Bool → Prop) (x : DInsn) : run (env need9 (fun _ _ => none)) (fun _ _ _ => none) (finS spec9 Q) W 100000 (startFr 9 Tryd.f9 (bodyOf Tryd.f9) (argsOf (.st1 CInsn) x)) [] [] = (tree9 x).wp Q := by kernel_rfl
theorem ok9 : SpecOk env0 9 spec9 := SpecOk.env rfl (fun _ _ h => h) (spec_of_tree (E := (env need9 (fun _ _ => none))) (sp := spec9) (valid _ _) (fun f sp h => SpecOk.env rfl (fun _ _ h => h) (need9_ok f sp h)) (fn := Tryd.f9) (c := (bodyOf Tryd.f9)) (by kernel_rfl) (by kernel_rfl) tree9 run9 (fun _ h => Tr.gives_val h))

/-! ### sundial/operand.Reg -/
noncomputable def tree40 (x : Int) : Tr DOperand :=
  .ret (1, (x, ((-1), ((-1), (0, (0, (false, 0)))))))
noncomputable def fn40 (x : Int) : DOperand := (tree40 x).val
def pre40 (x : Int) : Prop := (tree40 x).ok
noncomputable def spec40 : Spec := { dom := (.st1 (.int .i64)), cod := COperand, n := 1, pre := pre40, f := fn40 }
noncomputable def need40 : FuncId → Option Spec
  | _ => none
theorem need40_ok : ∀ f sp, need40 f = some sp → SpecOk env0 f sp := by
  intro f sp h
  unfold need40 at h
  split at h
  · cases h
theorem run40 (W : Cfg) (Q : DOperand → Prop) (x : Int) : run (env need40 (fun _ _ => none)) (fun _ _ _ => none) (finS spec40 Q) W 100000 (startFr 40 Tryd.f40 (bodyOf Tryd.f40) (argsOf (.st1 (.int .i64)) x)) [] [] = (tree40 x).wp Q := by kernel_rfl
theorem ok40 : SpecOk env0 40 spec40 := SpecOk.env rfl (fun _ _ h => h) (spec_of_tree (E := (env need40 (fun _ _ => none))) (sp := spec40) (valid _ _) (fun f sp h => SpecOk.env rfl (fun _ _ h => h) (need40_ok f sp h)) (fn := Tryd.f40) (c := (bodyOf Tryd.f40)) (by kernel_rfl) (by kernel_rfl) tree40 run40 (fun _ h => Tr.gives_val h))

/-! ### sundial/operand.Mem -/
noncomputable def tree64 (x : (Int × Int)) : Tr DOperand :=
  .ret (2, (0, ((imax x.1 (-1)), ((-1), (1, (x.2, (false, 0)))))))
noncomputable def fn64 (x : (Int × Int)) : DOperand := (tree64 x).val
def pre64 (x : (Int × Int)) : Prop := (tree64 x).ok
noncomputable def spec64 : Spec := { dom := (.st (.int .i64) (.st1 (.int .i64))), cod := COperand, n := 1, pre := pre64, f := fn64 }
noncomputable def need64 : FuncId → Option Spec
  | _ => none
theorem need64_ok : ∀ f sp, need64 f = some sp → SpecOk env0 f sp := by
  intro f sp h
  unfold need64 at h
  split at h
  · cases h
theorem run64 (W : Cfg) (Q : DOperand → Prop) (x : (Int × Int)) : run (env need64 (fun _ _ => none)) (fun _ _ _ => none) (finS spec64 Q) W 100000 (startFr 64 Tryd.f64 (bodyOf Tryd.f64) (argsOf (.st (.int .i64) (.st1 (.int .i64))) x)) [] [] = (tree64 x).wp Q := by kernel_rfl
theorem ok64 : SpecOk env0 64 spec64 := SpecOk.env rfl (fun _ _ h => h) (spec_of_tree (E := (env need64 (fun _ _ => none))) (sp := spec64) (valid _ _) (fun f sp h => SpecOk.env rfl (fun _ _ h => h) (need64_ok f sp h)) (fn := Tryd.f64) (c := (bodyOf Tryd.f64)) (by kernel_rfl) (by kernel_rfl) tree64 run64 (fun _ h => Tr.gives_val h))

/-! ### sundial/facts.Cond -/
noncomputable def tree10 (x : Int) : Tr Int :=
  .need ((16 : Int) ≠ 0) <|
  .need ((2 : Int) ≠ 0) <|
  let y0 : Int := (iquo .u8 (irem .u8 x 16) 2)
  .need ((0 : Int) ≤ y0) <|
  .need ((y0 : Int) < 8) <|
  let y1 : Nat := (y0).toNat
  .need ((y1 : Nat) < 8) <|
  .ret (rdc (.int .u8) [8, 1, 2, 3, 4, 16, 12, 14] y1)
noncomputable def fn10 (x : Int) : Int := (tree10 x).val
def pre10 (x : Int) : Prop := (tree10 x).ok
noncomputable def spec10 : Spec := { dom := (.st1 (.int .u8)), cod := (.int .u8), n := 1, pre := pre10, f := fn10 }
noncomputable def need10 : FuncId → Option Spec
  | _ => none
theorem need10_ok : ∀ f sp, need10 f = some sp → SpecOk env0 f sp := by
  intro f sp h
  unfold need10 at h
  split at h
  · cases h
theorem run10 (W : Cfg) (Q : Int → Prop) (x : Int) : run (env need10 (fun _ _ => none)) (fun _ _ _ => none) (finS spec10 Q) W 100000 (startFr 10 Tryd.f10 (bodyOf Tryd.f10) (argsOf (.st1 (.int .u8)) x)) [] [] = (tree10 x).wp Q := by kernel_rfl
theorem ok10 : SpecOk env0 10 spec10 := SpecOk.env rfl (fun _ _ h => h) (spec_of_tree (E := (env need10 (fun _ _ => none))) (sp := spec10) (valid _ _) (fun f sp h => SpecOk.env rfl (fun _ _ h => h) (need10_ok f sp h)) (fn := Tryd.f10) (c := (bodyOf Tryd.f10)) (by kernel_rfl) (by kernel_rfl) tree10 run10 (fun _ h => Tr.gives_val h))

/-! ### sundial/facts.rows -/
noncomputable def tree15 (_x : Unit) : Tr Unit :=
  .need ((0 : Nat) < 1) <|
  .need ((0 : Int) ≤ 0) <|
  .need (0 < (1 : Int)) <|
  .need ((0 : Nat) < 1) <|
  .need ((0 : Nat) < 1) <|
  .need ((0 : Int) ≤ 0) <|
  .need (0 < (1 : Int)) <|
  .need ((0 : Nat) < 1) <|
  .need ((0 : Nat) < 1) <|
  .need ((0 : Int) ≤ 0) <|
  .need (0 < (1 : Int)) <|
  .need ((0 : Nat) < 1) <|
  .need ((0 : Nat) < 6) <|
  .need ((1 : Nat) < 6) <|
  .need ((2 : Nat) < 6) <|
  .need ((3 : Nat) < 6) <|
  .need ((4 : Nat) < 6) <|
  .need ((5 : Nat) < 6) <|
  .need ((0 : Int) ≤ 0) <|
  .need (0 < (6 : Int)) <|
  .need ((0 : Nat) < 6) <|
  .need ((0 : Int) ≤ 1) <|
  .need (1 < (6 : Int)) <|
  .need ((1 : Nat) < 6) <|
  .need ((0 : Int) ≤ 2) <|
  .need (2 < (6 : Int)) <|
  .need ((2 : Nat) < 6) <|
  .need ((0 : Int) ≤ 3) <|
  .need (3 < (6 : Int)) <|
  .need ((3 : Nat) < 6) <|
  .need ((0 : Int) ≤ 4) <|
  .need (4 < (6 : Int)) <|
  .need ((4 : Nat) < 6) <|
  .need ((0 : Int) ≤ 5) <|
  .need (5 < (6 : Int)) <|
  .need ((5 : Nat) < 6) <|
  .need ((0 : Nat) < 2) <|
  .need ((1 : Nat) < 2) <|
  .need ((0 : Int) ≤ 0) <|
  .need (0 < (2 : Int)) <|
  .need ((0 : Nat) < 2) <|
  .need ((0 : Int) ≤ 1) <|
  .need (1 < (2 : Int)) <|
  .need ((1 : Nat) < 2) <|
  .need ((0 : Nat) < 2) <|
  .need ((1 : Nat) < 2) <|
  .need ((0 : Int) ≤ 0) <|
  .need (0 < (2 : Int)) <|
  .need ((0 : Nat) < 2) <|
  .need ((0 : Int) ≤ 1) <|
  .need (1 < (2 : Int)) <|
  .need ((1 : Nat) < 2) <|
  .need ((0 : Nat) < 2) <|
  .need ((1 : Nat) < 2) <|
  .need ((0 : Int) ≤ 0) <|
  .need (0 < (2 : Int)) <|
  .need ((0 : Nat) < 2) <|
  .need ((0 : Int) ≤ 1) <|
  .need (1 < (2 : Int)) <|
  .need ((1 : Nat) < 2) <|
  .need ((0 : Nat) < 1) <|
  .need ((0 : Int) ≤ 0) <|
  .need (0 < (1 : Int)) <|
  .need ((0 : Nat) < 1) <|
  .need ((0 : Nat) < 1) <|
  .need ((0 : Int) ≤ 0) <|
  .need (0 < (1 : Int)) <|
  .need ((0 : Nat) < 1) <|
  .need ((0 : Nat) < 3) <|
  .need ((1 : Nat) < 3) <|
  .need ((2 : Nat) < 3) <|
  .need ((0 : Int) ≤ 0) <|
  .need (0 < (3 : Int)) <|
  .need ((0 : Nat) < 3) <|
  .need ((0 : Int) ≤ 1) <|
  .need (1 < (3 : Int)) <|
  .need ((1 : Nat) < 3) <|
  .need ((0 : Int) ≤ 2) <|
  .need (2 < (3 : Int)) <|
  .need ((2 : Nat) < 3) <|
  .need ((0 : Nat) < 2) <|
  .need ((1 : Nat) < 2) <|
  .need ((0 : Int) ≤ 0) <|
  .need (0 < (2 : Int)) <|
  .need ((0 : Nat) < 2) <|
  .need ((0 : Int) ≤ 1) <|
  .need (1 < (2 : Int)) <|
  .need ((1 : Nat) < 2) <|
  .need ((0 : Nat) < 1) <|
  .need ((0 : Int) ≤ 0) <|
  .need (0 < (1 : Int)) <|
  .need ((0 : Nat) < 1) <|
  .need ((0 : Nat) < 1) <|
  .need ((0 : Int) ≤ 0) <|
  .need (0 < (1 : Int)) <|
  .need ((0 : Nat) < 1) <|
  .need ((0 : Nat) < 1) <|
  .need ((0 : Int) ≤ 0) <|
  .need (0 < (1 : Int)) <|
  .need ((0 : Nat) < 1) <|
  .need ((0 : Nat) < 1) <|
  .need ((0 : Int) ≤ 0) <|
  .need (0 < (1 : Int)) <|
  .need ((0 : Nat) < 1) <|
  .need ((0 : Nat) < 1) <|
  .need ((0 : Int) ≤ 0) <|
  .need (0 < (1 : Int)) <|
  .need ((0 : Nat) < 1) <|
  .need ((0 : Nat) < 1) <|
  .need ((0 : Int) ≤ 0) <|
  .need (0 < (1 : Int)) <|
  .need ((0 : Nat) < 1) <|
  .need ((0 : Nat) < 1) <|
  .need ((0 : Int) ≤ 0) <|
  .need (0 < (1 : Int)) <|
  .need ((0 : Nat) < 1) <|
  .need ((0 : Nat) < 1) <|
  .need ((0 : Int) ≤ 0) <|
  .need (0 < (1 : Int)) <|
  .need ((0 : Nat) < 1) <|
  .need ((0 : Nat) < 1) <|
  .need ((0 : Int) ≤ 0) <|
  .need (0 < (1 : Int)) <|
  .need ((0 : Nat) < 1) <|
  .need ((0 : Nat) < 1) <|
  .need ((0 : Int) ≤ 0) <|
  .need (0 < (1 : Int)) <|
  .need ((0 : Nat) < 1) <|
  .need ((0 : Nat) < 2) <|
  .need ((1 : Nat) < 2) <|
  .need ((0 : Int) ≤ 0) <|
  .need (0 < (2 : Int)) <|
  .need ((0 : Nat) < 2) <|
  .need ((0 : Int) ≤ 1) <|
  .need (1 < (2 : Int)) <|
  .need ((1 : Nat) < 2) <|
  .need ((0 : Nat) < 4) <|
  .need ((1 : Nat) < 4) <|
  .need ((2 : Nat) < 4) <|
  .need ((3 : Nat) < 4) <|
  .need ((0 : Int) ≤ 0) <|
  .need (0 < (4 : Int)) <|
  .need ((0 : Nat) < 4) <|
  .need ((0 : Int) ≤ 1) <|
  .need (1 < (4 : Int)) <|
  .need ((1 : Nat) < 4) <|
  .need ((0 : Int) ≤ 2) <|
  .need (2 < (4 : Int)) <|
  .need ((2 : Nat) < 4) <|
  .need ((0 : Int) ≤ 3) <|
  .need (3 < (4 : Int)) <|
  .need ((3 : Nat) < 4) <|
  .ret ()
noncomputable def fn15 (x : Unit) : Unit := (tree15 x).val
def pre15 (x : Unit) : Prop := (tree15 x).ok
noncomputable def m15 : List (AV × AV) := [((.int .u8 35), (.fn 22 [])), ((.int .u8 1), (.fn 25 [])), ((.int .u8 2), (.fn 27 [])), ((.int .u8 3), (.fn 29 [])), ((.int .u8 4), (.fn 29 [])), ((.int .u8 7), (.fn 29 [])), ((.int .u8 8), (.fn 29 [])), ((.int .u8 9), (.fn 29 [])), ((.int .u8 21), (.fn 29 [])), ((.int .u8 5), (.fn 31 [])), ((.int .u8 6), (.fn 31 [])), ((.int .u8 10), (.fn 32 [])), ((.int .u8 11), (.fn 32 [])), ((.int .u8 12), (.fn 33 [])), ((.int .u8 13), (.fn 33 [])), ((.int .u8 14), (.fn 34 [])), ((.int .u8 15), (.fn 35 [])), ((.int .u8 16), (.fn 36 [])), ((.int .u8 17), (.fn 36 [])), ((.int .u8 18), (.fn 36 [])), ((.int .u8 19), (.fn 38 [])), ((.int .u8 20), (.fn 38 [])), ((.int .u8 22), (.fn 39 [])), ((.int .u8 23), (.fn 41 [])), ((.int .u8 24), (.fn 42 [])), ((.int .u8 25), (.fn 44 [])), ((.int .u8 26), (.fn 45 [])), ((.int .u8 27), (.fn 46 [])), ((.int .u8 28), (.fn 47 [])), ((.int .u8 29), (.fn 48 [])), ((.int .u8 30), (.fn 49 [])), ((.int .u8 31), (.fn 50 [])), ((.int .u8 32), (.fn 51 [])), ((.int .u8 33), (.fn 51 [])), ((.int .u8 36), (.fn 52 [])), ((.int .u8 37), (.fn 52 [])), ((.int .u8 38), (.fn 52 [])), ((.int .u8 39), (.fn 52 []))]
noncomputable def spec15 : Spec := { dom := .unit, cod := .junk, n := 1, pre := pre15, f := fn15, own := some (.mp m15) }
noncomputable def need15 : FuncId → Option Spec
  | _ => none
theorem need15_ok : ∀ f sp, need15 f = some sp → SpecOk env0 f sp := by
  intro f sp h
  unfold need15 at h
  split at h
  · cases h
theorem run15 (W : Cfg) (Q : Unit → Prop) (x : Unit) : run (env need15 (fun _ _ => none)) (fun _ _ _ => none) (finS spec15 Q) W 100000 (startFr 15 Tryd.f15 (bodyOf Tryd.f15) (argsOf .unit x)) [] [] = (tree15 x).wp Q := by kernel_rfl
theorem ok15 : SpecOk env0 15 spec15 := SpecOk.env rfl (fun _ _ h => h) (spec_of_tree (E := (env need15 (fun _ _ => none))) (sp := spec15) (valid _ _) (fun f sp h => SpecOk.env rfl (fun _ _ h => h) (need15_ok f sp h)) (fn := Tryd.f15) (c := (bodyOf Tryd.f15)) (by kernel_rfl) (by kernel_rfl) tree15 run15 (fun _ h => Tr.gives_val h))

/-! ### cmp.isNaN[int] -/
/-! ### cmp.Less[int] -/
/-! ### math/bits.Len32 -/
/-! ### math/bits.Len64 -/
/-! ### math/bits.Len -/
/-! ### slices.nextPowerOfTwo -/
/-! ### sundial/facts.rising -/
noncomputable def tree16 (x : (List Int)) : Tr (List Int) :=
  .ite (ieq (x.length : Int) 0) (
  .both (
  .ret ([] : List Int)) (
  let y0 : Nat := (0 + x.length)
  let y1 : Bool := (ilt ((0 : Nat) : Int) ((y0 : Nat) : Int))
  .ite y1 (
  .need ((0 + 0 : Nat) ≤ 0) <|
  .need (((y0 : Nat) * 8 : Nat) ≤ 2 ^ 40) <|
  .need ((y0 : Nat) ≤ 2 ^ 40) <|
  .all fun j1 =>
  let y2 : Nat := (0 + y0)
  let y3 : Nat := (y0 + j1)
  .need ((y2 : Nat) ≤ y3) <|
  .need ((y0 : Nat) < 1152921504606846976) <|
  .need ((y2 : Nat) ≤ y3) <|
  .need ((y0 : Nat) < 1152921504606846976) <|
  let y4 : (List Int) := ((([] : List Int) ++ x) ++ (List.replicate j1 0))
  let y5 : (List Int) := (spliceL y4 0 (srt (y4.take y0)))
  let y6 : (List Int) := (y5.take y0)
  let y7 : Nat := (cmpLen y6)
  .need (((0 : Nat) + y7 : Nat) ≤ y3) <|
  let y8 : (List Int) := ((spliceL y5 0 (cmp y6)).take y7)
  .ret y8) (
  .need ((0 + 0 + x.length : Nat) ≤ 0) <|
  let y9 : Nat := (0 + y0)
  .need ((y9 : Nat) ≤ 0) <|
  .need ((y0 : Nat) < 1152921504606846976) <|
  .need ((y9 : Nat) ≤ 0) <|
  .need ((y0 : Nat) < 1152921504606846976) <|
  let y10 : (List Int) := (spliceL (List.replicate 0 (0 : Int)) 0 x)
  let y11 : (List Int) := (spliceL y10 0 (srt (y10.take y0)))
  let y12 : (List Int) := (y11.take y0)
  let y13 : Nat := (cmpLen y12)
  .need (((0 : Nat) + y13 : Nat) ≤ 0) <|
  let y14 : (List Int) := ((spliceL y11 0 (cmp y12)).take y13)
  .ret y14))) (
  let y15 : Nat := (0 + x.length)
  let y16 : Bool := (ilt ((0 : Nat) : Int) ((y15 : Nat) : Int))
  .ite y16 (
  .need ((0 + 0 : Nat) ≤ 0) <|
  .need (((y15 : Nat) * 8 : Nat) ≤ 2 ^ 40) <|
  .need ((y15 : Nat) ≤ 2 ^ 40) <|
  .all fun j1 =>
  let y17 : Nat := (0 + y15)
  let y18 : Nat := (y15 + j1)
  .need ((y17 : Nat) ≤ y18) <|
  .need ((y15 : Nat) < 1152921504606846976) <|
  .need ((y17 : Nat) ≤ y18) <|
  .need ((y15 : Nat) < 1152921504606846976) <|
  let y19 : (List Int) := ((([] : List Int) ++ x) ++ (List.replicate j1 0))
  let y20 : (List Int) := (spliceL y19 0 (srt (y19.take y15)))
  let y21 : (List Int) := (y20.take y15)
  let y22 : Nat := (cmpLen y21)
  .need (((0 : Nat) + y22 : Nat) ≤ y18) <|
  let y23 : (List Int) := ((spliceL y20 0 (cmp y21)).take y22)
  .ret y23) (
  .need ((0 + 0 + x.length : Nat) ≤ 0) <|
  let y24 : Nat := (0 + y15)
  .need ((y24 : Nat) ≤ 0) <|
  .need ((y15 : Nat) < 1152921504606846976) <|
  .need ((y24 : Nat) ≤ 0) <|
  .need ((y15 : Nat) < 1152921504606846976) <|
  let y25 : (List Int) := (spliceL (List.replicate 0 (0 : Int)) 0 x)
  let y26 : (List Int) := (spliceL y25 0 (srt (y25.take y15)))
  let y27 : (List Int) := (y26.take y15)
  let y28 : Nat := (cmpLen y27)
  .need (((0 : Nat) + y28 : Nat) ≤ 0) <|
  let y29 : (List Int) := ((spliceL y26 0 (cmp y27)).take y28)
  .ret y29))
noncomputable def fn16 (x : (List Int)) : (List Int) := (tree16 x).val
def pre16 (x : (List Int)) : Prop := (tree16 x).ok
noncomputable def spec16 : Spec := { dom := (.st1 (.slice (.int .i64))), cod := (.slice (.int .i64)), n := 1, pre := pre16, f := fn16 }
noncomputable def need16 : FuncId → Option Spec
  | _ => none
theorem need16_ok : ∀ f sp, need16 f = some sp → SpecOk env0 f sp := by
  intro f sp h
  unfold need16 at h
  split at h
  · cases h
theorem run16 (W : Cfg) (Q : (List Int) → Prop) (x : (List Int)) : run (env need16 (fun _ _ => none)) (fun _ _ _ => none) (finS spec16 Q) W 100000 (startFr 16 Tryd.f16 (bodyOf Tryd.f16) (argsOf (.st1 (.slice (.int .i64))) x)) [] [] = (tree16 x).wp Q := by kernel_rfl
theorem ok16 : SpecOk env0 16 spec16 := SpecOk.env rfl (fun _ _ h => h) (spec_of_tree (E := (env need16 (fun _ _ => none))) (sp := spec16) (valid _ _) (fun f sp h => SpecOk.env rfl (fun _ _ h => h) (need16_ok f sp h)) (fn := Tryd.f16) (c := (bodyOf Tryd.f16)) (by kernel_rfl) (by kernel_rfl) tree16 run16 (fun _ h => Tr.gives_val h))

/-! ### slices.Index[[]uint8,uint8] -/
inductive J56 where
  | h0 (v2 : Int) (v3 : Int)
noncomputable def tree56 (x : ((List Int) × Int)) : Tr (J56 ⊕ Int) :=
  .ret (.inl (.h0 (x.1.length : Int) 0))
noncomputable def step56 (x : ((List Int) × Int)) : J56 → Tr (J56 ⊕ Int)
  | .h0 v2 v3 =>
  .ite (ilt v3 v2) (
  .need ((0 : Int) ≤ v3) <|
  .need (v3 < (x.1.length : Int)) <|
  .ite (ieq x.2 (rdc (.int .u8) x.1 (v3).toNat)) (
  .ret (.inr v3)) (
  .ret (.inl (.h0 v2 (iadd .i64 v3 1))))) (
  .ret (.inr (-1)))
noncomputable def head56 (x : ((List Int) × Int)) : J56 → Head
  | .h0 v2 v3 =>
  { fr := { id := 56, kind := .top, T := [(.fsl (.int .u8) x.1), (.int .u8 x.2)] ++ List.replicate 5 .any ++ [(.int .i64 v2), (.int .i64 v3)] ++ List.replicate 10 .any, items := [.lp (subc [1, 0, 1, 0, 0] (bodyOf Tryd.f56)), .blk 0, .code (subc [1, 1] (bodyOf Tryd.f56))], D := [], base := 0 },
    stk := [],
    H := [] }
noncomputable def stop56 : FuncId → Nat → Nat → Option Cut
  | 56, 0, 0 => some { tmps := [0, 1, 7, 8], loops := [], dead := [], stk := [] }
  | _, _, _ => none
noncomputable def fn56 (x : ((List Int) × Int)) : Int := endVal (TC.dflt (.int .i64)) (step56 x) (tree56 x)
def pre56 (x : ((List Int) × Int)) : Prop := ∃ r, Ends (step56 x) r (tree56 x)
noncomputable def spec56 : Spec := { dom := (.st (.slice (.int .u8)) (.st1 (.int .u8))), cod := (.int .i64), n := 1, pre := pre56, f := fn56 }
noncomputable def need56 : FuncId → Option Spec
  | _ => none
theorem need56_ok : ∀ f sp, need56 f = some sp → SpecOk env0 f sp := by
  intro f sp h
  unfold need56 at h
  split at h
  · cases h
theorem run56 (W : Cfg) (Q : Int → Prop) (x : ((List Int) × Int)) : run (env need56 (fun _ _ => none)) stop56 (finS spec56 Q) W 100000 (startFr 56 Tryd.f56 (bodyOf Tryd.f56) (argsOf (.st (.slice (.int .u8)) (.st1 (.int .u8))) x)) [] [] = (tree56 x).wp (kont W Q (head56 x)) := by kernel_rfl
theorem run56h0 (W : Cfg) (Q : Int → Prop) (x : ((List Int) × Int)) (v2 : Int) (v3 : Int) : run (env need56 (fun _ _ => none)) stop56 (finS spec56 Q) W 100000 (head56 x (.h0 v2 v3)).fr.enter (head56 x (.h0 v2 v3)).stk (head56 x (.h0 v2 v3)).H = (step56 x (.h0 v2 v3)).wp (kont W Q (head56 x)) := by kernel_rfl
theorem runs56 (W : Cfg) (Q : Int → Prop) (x : ((List Int) × Int)) : ∀ j : J56, run (env need56 (fun _ _ => none)) stop56 (finS spec56 Q) W 100000 (head56 x j).fr.enter (head56 x j).stk (head56 x j).H = (step56 x j).wp (kont W Q (head56 x))
  | .h0 v2 v3 => run56h0 W Q x v2 v3
theorem ok56 : SpecOk env0 56 spec56 := SpecOk.env rfl (fun _ _ h => h) (spec_of_trees (E := (env need56 (fun _ _ => none))) (sp := spec56) (valid _ _) (fun f sp h => SpecOk.env rfl (fun _ _ h => h) (need56_ok f sp h)) (fn := Tryd.f56) (c := (bodyOf Tryd.f56)) (by kernel_rfl) (by kernel_rfl) tree56 step56 head56 run56 runs56 (fun _ h => endVal_ends h))

/-! ### slices.Contains[[]uint8,uint8] -/
noncomputable def tree17 (x : ((List Int) × Int)) : Tr Bool :=
  .need (pre56 x) <|
  .ret (ile 0 (fn56 x))
noncomputable def fn17 (x : ((List Int) × Int)) : Bool := (tree17 x).val
def pre17 (x : ((List Int) × Int)) : Prop := (tree17 x).ok
noncomputable def spec17 : Spec := { dom := (.st (.slice (.int .u8)) (.st1 (.int .u8))), cod := .bool, n := 1, pre := pre17, f := fn17 }
noncomputable def need17 : FuncId → Option Spec
  | 56 => some spec56
  | _ => none
theorem need17_ok : ∀ f sp, need17 f = some sp → SpecOk env0 f sp := by
  intro f sp h
  unfold need17 at h
  split at h
  · cases h; exact ok56
  · cases h
theorem run17 (W : Cfg) (Q : Bool → Prop) (x : ((List Int) × Int)) : run (env need17 (fun _ _ => none)) (fun _ _ _ => none) (finS spec17 Q) W 100000 (startFr 17 Tryd.f17 (bodyOf Tryd.f17) (argsOf (.st (.slice (.int .u8)) (.st1 (.int .u8))) x)) [] [] = (tree17 x).wp Q := by kernel_rfl
theorem ok17 : SpecOk env0 17 spec17 := SpecOk.env rfl (fun _ _ h => h) (spec_of_tree (E := (env need17 (fun _ _ => none))) (sp := spec17) (valid _ _) (fun f sp h => SpecOk.env rfl (fun _ _ h => h) (need17_ok f sp h)) (fn := Tryd.f17) (c := (bodyOf Tryd.f17)) (by kernel_rfl) (by kernel_rfl) tree17 run17 (fun _ h => Tr.gives_val h))

end Go.Eng.RU
end
