/- Rows of truths and numbers in memory: made, changed; what other blocks keep; an instruction more behind a list of the call's own. -/
import Derived.Test.YtmpeipdeablkdaaGreatDoorRow
import Derived.Test.YtmpeipdeablkdaaGreatDoorPlainV
import Derived.Test.YtmpeipdeablkdaaGreatDoorApp
import Derived.Test.YtmpeipdeablkdaaGreatDoorVerQ
namespace Go.Proofs.YtmpeipdeablkdaaGreatDoor
open Go.RowKit

namespace Code

/-- a row of truths in memory -/
abbrev BoolsIn (w : World) (b n : Nat) (f : Nat → Bool) : Prop := CellsAt w b 4 n (fun k => .bool (f k))

theorem BoolsIn.congr {w : World} {b n : Nat} {f g : Nat → Bool} (h : BoolsIn w b n f) (he : ∀ k, k < n → f k = g k) : BoolsIn w b n g := CellsAt.congr h (fun j hj => by rw [he j hj])

theorem BoolsIn.set {w : World} {b n : Nat} {f : Nat → Bool} (h : BoolsIn w b n f) (k : Nat) (v : Bool) : BoolsIn (w.setCell ⟨b, k, none⟩ (.bool v)) b n (fun r => if r = k then v else f r) :=
 CellsAt.congr (CellsAt.set h k (.bool v)) (fun j _ => by by_cases e : j = k <;> simp [e])

/-- a row of truths is made -/
theorem bools_made (w : World) (n : Nat) (hl : n ≤ 1000000) : ∃ C, (Instr.makeSlice 50 (.int .i64 ((n : Int) + 1)) (.int .i64 ((n : Int) + 1))).run Tryz.prog w = .ok (.slice (some ⟨w.heap.size, 0, none⟩) (n + 1) (n + 1)) (w.alloc (.cells C 4)) ∧
    C.size = n + 1 ∧ ∀ j, j < n + 1 → C[j]? = some (.bool false) := by
 have hinfo : (Tryz.prog.info? 4).map (fun i => (i.zero, i.size, i.bytes)) = some (some (.bool false), 1, 1) := by kernel_rfl
 obtain ⟨i, hi, hz0, hz1, hz2⟩ := info_parts hinfo
 have hr := run_make (P := Tryz.prog) w 50 4 i _ Tryz.underlying50 hi hz0 .i64 .i64 ((n : Int) + 1) ((n : Int) + 1) (by omega) (by omega) (by rw [hz2]; omega) (by omega)
 rw [show ((n : Int) + 1).toNat = n + 1 by omega, hz1] at hr
 refine ⟨_, hr, by rw [size_madeCells]; omega, fun j hj => ?_⟩
 have hs : (Value.bool false).cells = #[.bool false] := rfl
 rw [hs, madeCells, Array.getElem?_map, Array.getElem?_range, if_pos (by omega)]
 have : j % 1 = 0 := by omega
 simp [this]

/-- what is answered: a row of truths of its own -/
def BoolsOut (n : Nat) (f : Nat → Bool) (w : World) (e : Ending) (w' : World) : Prop := ∃ b, e = .returned (.slice (some ⟨b, 0, none⟩) n n) ∧ w.heap.size ≤ b ∧ BoolsIn w' b n f ∧ Below w.heap.size w w'

theorem infoI3 : (Tryz.prog.info? 3).map (fun i => (i.zero, i.size, i.bytes)) = some (some (.int .i64 0), 1, 8) := by kernel_rfl

/-- a row of numbers is made -/
theorem ints_made (w : World) (n : Nat) (hl : n ≤ 1000000) : ∃ C, (Instr.makeSlice 57 (.int .i64 ((n : Int) + 1)) (.int .i64 ((n : Int) + 1))).run Tryz.prog w = .ok (.slice (some ⟨w.heap.size, 0, none⟩) (n + 1) (n + 1)) (w.alloc (.cells C 3)) ∧
    C.size = n + 1 ∧ ∀ j, j < n + 1 → C[j]? = some (.int .i64 0) := by
 obtain ⟨i, hi, hz0, hz1, hz2⟩ := info_parts infoI3
 have hr := run_make (P := Tryz.prog) w 57 3 i _ Tryz.underlying57 hi hz0 .i64 .i64 ((n : Int) + 1) ((n : Int) + 1) (by omega) (by omega) (by rw [hz2]; omega) (by omega)
 rw [show ((n : Int) + 1).toNat = n + 1 by omega, hz1] at hr
 refine ⟨_, hr, by rw [size_madeCells]; omega, fun j hj => ?_⟩
 have hs : (Value.int .i64 0).cells = #[.int .i64 0] := rfl
 rw [hs, madeCells, Array.getElem?_map, Array.getElem?_range, if_pos (by omega)]
 have : j % 1 = 0 := by omega
 simp [this]

theorem range_grown {w w' : World} {b o g : Nat} {vs : List Value} (h : w.rangeAt b o vs) (hg : w.grownBy w' (some g)) (hb : b < w.heap.size) (hne : b ≠ g) : w'.rangeAt b o vs := by
 intro j v hj
 have := hg.block b hb (fun e => hne (Option.some.inj e))
 rw [← h j v hj]
 simp only [World.cell?, this]

theorem InsAt.grown {w w' : World} {b off g : Nat} {x : B.Ins} (h : InsAt w b off x) (hg : w.grownBy w' (some g)) (hb : b < w.heap.size) (hne : b ≠ g) : InsAt w' b off x := by
 have hc : ∀ o, w'.cell? ⟨b, o, none⟩ = w.cell? ⟨b, o, none⟩ := by
  intro o
  have := hg.block b hb (fun e => hne (Option.some.inj e))
  simp only [World.cell?, this]
 exact ⟨(hc _).trans h.c0, (hc _).trans h.c1, (hc _).trans h.c2, (hc _).trans h.c3, (hc _).trans h.c4⟩

theorem InsAt.other {w : World} {b off : Nat} {x : B.Ins} (h : InsAt w b off x) (a : Addr) (v : Value) (hne : b ≠ a.block) : InsAt (w.setCell a v) b off x := by
 have hc : ∀ o, (w.setCell a v).cell? ⟨b, o, none⟩ = w.cell? ⟨b, o, none⟩ := by
  intro o
  have := Below.heap_setCell w a v b hne
  simp only [World.cell?, this]
 exact ⟨(hc _).trans h.c0, (hc _).trans h.c1, (hc _).trans h.c2, (hc _).trans h.c3, (hc _).trans h.c4⟩

theorem range_other {w : World} {b o : Nat} {vs : List Value} {a : Addr} {v : Value} (h : w.rangeAt b o vs) (hne : b ≠ a.block) : (w.setCell a v).rangeAt b o vs := by
 intro j u hj
 rw [← h j u hj]
 have := Below.heap_setCell w a v b hne
 simp only [World.cell?, this]

theorem cell_of_blk {w w' : World} {b o : Nat} (h : w'.heap[b]? = w.heap[b]?) : w'.cell? ⟨b, o, none⟩ = w.cell? ⟨b, o, none⟩ := by simp only [World.cell?, h]

theorem row_put {r i M : Nat} {T : TypeId} {w : World} {f : Nat → Value} (h : CellsAt w r T M f) (g : Nat → Bool) : CellsAt (w.setCells r (i * 16) (regsF g).toList) r T M (fun j => if j / 16 = i then .bool (g (j % 16)) else f j) := by
 refine CellsAt.congr (CellsAt.setCells (regsF g).toList (i * 16) h) (fun j hj => ?_)
 have hl : (regsF g).toList.length = 16 := rfl
 rw [hl]
 by_cases e : j / 16 = i
 ·have e2 : i * 16 ≤ j ∧ j < i * 16 + 16 := by omega
  have e3 : j - i * 16 = j % 16 := by omega
  rw [if_pos e2, e3, List.getD_eq_getElem?_getD, Array.getElem?_toList, regsF_get g _ (by omega), if_pos e]
  rfl
 ·have e2 : ¬ (i * 16 ≤ j ∧ j < i * 16 + 16) := by omega
  rw [if_neg e2, if_neg e]

/-- an instruction more behind a list of the call's own; what else there is stays as it was -/
theorem app_insG {ops : Array Oper} {rest : List Oper} {o : Oper} {a : Act} {Q : Exit → Act → World → Prop} {w : World} (hgd : o.guard = none) (s x : Operand)
    (ho : o.op = .call { callee := .builtin .append, args := #[s, x], argTypes := #[26, 26] })
    (base : Nat) {ao : Option Addr} {n cap : Nat} {qs : List B.Ins} {c0 c1 c2 c3 c4 : Int} (hs : a.eval s = .slice ao n cap) (hown : OwnP w base ao n cap qs)
    (hx : a.eval x = .slice (some ⟨w.heap.size, 0, none⟩) 1 1) (hbytes : (n + 1) * 40 ≤ 140737488355328) (hbase : base ≤ w.heap.size)
    (h : ∀ ao' cap' w', OwnP w' base ao' (n + 1) cap' (qs ++ [⟨c0, c1, c2, c3, c4⟩]) → (w.alloc (.cells #[.int .i64 c0, .int .i64 c1, .int .i64 c2, .int .i64 c3, .int .u64 c4] 24)).grownBy w' (Value.ownBlock (.slice ao n cap)) → Below base w w' → wpList Tryz.prog ops Q rest (a.put o.dst (.slice ao' (n + 1) cap')) w') :
    wpList Tryz.prog ops Q (o :: rest) a (w.alloc (.cells #[.int .i64 c0, .int .i64 c1, .int .i64 c2, .int .i64 c3, .int .u64 c4] 24)) := by
 refine app_gen Tryz.underlying26 info24 rfl (by omega) hgd s x ho base hs hown.own hx rfl (by simp [Value.oneCell']) (by omega) hbytes hbase ?_
 intro ao' cap' w' hown' hg hb hsz
 exact h ao' cap' w' ⟨by simp [hown.len], by rw [cellsP_append, cellsP_one]; exact hown'⟩ hg hb

/-- a row of numbers behind it -/
theorem OwnP.apart {w w1 w' : World} {base : Nat} {ao : Option Addr} {n cap : Nat} {qs : List B.Ins} {b m : Nat} {f : Nat → Value} (ho : OwnP w base ao n cap qs) (h : CellsAt w b 3 m f) (hw : CellsAt w1 b 3 m f) (hg : w1.grownBy w' (Value.ownBlock (.slice ao n cap))) : CellsAt w' b 3 m f := by
 obtain ⟨C, hC, _⟩ := h
 have hne := Ne.symm (own_ne ho.own hC (by decide))
 exact CellsAt.of hw (hg.block b (CellsAt.blk hw) hne)

theorem wf_right {x : B.Ins} (h : x.right = true) : x.Wf := by
 have := B.right_bounds h
 refine ⟨⟨?_, ?_⟩, ⟨?_, ?_⟩, ⟨?_, ?_⟩, ⟨?_, ?_⟩, ⟨?_, ?_⟩⟩ <;> omega

end Code
end Go.Proofs.YtmpeipdeablkdaaGreatDoor
