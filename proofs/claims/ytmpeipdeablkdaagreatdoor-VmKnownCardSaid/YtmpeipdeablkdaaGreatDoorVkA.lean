/- busbarlaw14: the chapter's examples. -/
import Derived.Test.YtmpeipdeablkdaaGreatDoorVmQ
import Derived.Test.YtmpeipdeablkdaaGreatDoorVmU
import Derived.Test.YtmpeipdeablkdaaGreatDoorMore2
namespace Go.Proofs.YtmpeipdeablkdaaGreatDoor
open Go.RowKit

namespace Code

attribute [local go_sem ↓] Go.wp_at_zero Go.wp_at_succ

def wfV (x : B.Ins) : Bool := decide (B.In64 x.op) && decide (B.In64 x.a) && decide (B.In64 x.b) && decide (B.In64 x.n) && decide (B.InU64 x.imm)
theorem wf_V {ps : List B.Ins} (h : ps.all wfV = true) : ∀ y ∈ ps, y.Wf := by
 intro y hy
 have := List.all_eq_true.1 h y hy
 simp only [wfV, Bool.and_eq_true, decide_eq_true_eq] at this
 exact ⟨this.1.1.1.1, this.1.1.1.2, this.1.1.2, this.1.2, this.2⟩

theorem progAt_newV (ps : List B.Ins) (C : Array Value) (n : Nat) (t : TypeId) (w : World) {X : Nat} (hX : X = w.heap.size) (hC : C.toList = cellsP ps) (hn : n = ps.length) : ProgAt (w.alloc (.cells C t)) (some ⟨X, 0, none⟩) n ps := by
 subst hX
 exact progAt_new ps C n t w hC hn
theorem progAt_nilV (w : World) : ProgAt w none 0 [] := ⟨rfl, fun i x h => by simp at h⟩

/-- what stays true however the memory grows -/
def StableV (S : World → Prop) : Prop := ∀ w w', S w → Below w.heap.size w w' → S w'
theorem stableV_and {S B : World → Prop} (hS : StableV S) (hB : StableV B) {v : World} (h : S v) (hb : B v) : ∃ S' : World → Prop, StableV S' ∧ S' v ∧ ∀ u, S' u → S u ∧ B u :=
 ⟨fun u => S u ∧ B u, fun _ _ h hb => ⟨hS _ _ h.1 hb, hB _ _ h.2 hb⟩, ⟨h, hb⟩, fun _ h => h⟩

/-- a run's result in a block of its own -/
def BoxR (c0 c1 c2 c3 c4 c5 : Value) (X : Nat) (w : World) : Prop :=
 w.cell? ⟨X, 0, none⟩ = some c0 ∧ w.cell? ⟨X, 1, none⟩ = some c1 ∧ w.cell? ⟨X, 2, none⟩ = some c2 ∧ w.cell? ⟨X, 3, none⟩ = some c3 ∧ w.cell? ⟨X, 4, none⟩ = some c4 ∧ w.cell? ⟨X, 5, none⟩ = some c5
theorem BoxR.stable (c0 c1 c2 c3 c4 c5 : Value) (X : Nat) : StableV (BoxR c0 c1 c2 c3 c4 c5 X) := by
 intro w w' h hb
 have hl : X < w.heap.size := World.block_lt_of_cell? w _ h.1
 exact ⟨(hb.cell (p := ⟨X, 0, none⟩) hl).trans h.1, (hb.cell (p := ⟨X, 1, none⟩) hl).trans h.2.1, (hb.cell (p := ⟨X, 2, none⟩) hl).trans h.2.2.1, (hb.cell (p := ⟨X, 3, none⟩) hl).trans h.2.2.2.1, (hb.cell (p := ⟨X, 4, none⟩) hl).trans h.2.2.2.2.1, (hb.cell (p := ⟨X, 5, none⟩) hl).trans h.2.2.2.2.2⟩
theorem boxR_new (c0 c1 c2 c3 c4 c5 : Value) (w : World) (t : TypeId) : BoxR c0 c1 c2 c3 c4 c5 w.heap.size (w.alloc (.cells #[c0, c1, c2, c3, c4, c5] t)) := by
 have hb := heap_alloc_new w (.cells #[c0, c1, c2, c3, c4, c5] t)
 refine ⟨?_, ?_, ?_, ?_, ?_, ?_⟩ <;> (rw [cell_of_row _ _ _ _ _ _ hb]; rfl)

/-- what a run answers, all else as it was -/
def KnOut (S : World → Prop) (n pn im : Nat) (po ou : List Nat) (w : World) (e : Ending) (w' : World) : Prop :=
 ∃ pa pc oa oc ha hc, e = .returned (.tuple #[.agg #[.bool false, .int .i64 0, .slice pa pn pc, .slice oa im oc, .slice ha im hc, .int .i64 (n : Int)], .nilIface]) ∧ ListAt w' pa pn (po.map u8V) ∧ ListAt w' oa im (ou.map u64V) ∧ Below w.heap.size w w' ∧ S w'
def KnFail (S : World → Prop) (n : Nat) (k : Int) (w : World) (e : Ending) (w' : World) : Prop :=
 e = .returned (.tuple #[.agg #[.bool true, .int .i64 k, .slice none 0 0, .slice none 0 0, .slice none 0 0, .int .i64 (n : Int)], .nilIface]) ∧ Below w.heap.size w w' ∧ S w'

theorem run_kn {S : World → Prop} (hS : StableV S) {a pa ia : Option Addr} {len cap pn pc im ic : Nat} (ps : List B.Ins) (pay inp : List Nat) (n : Nat) (po ou : List Nat) {w : World} (hT : Tabs w) (hs : S w) (hp : ProgAt w a len ps) (hy : ListAt w pa pn (pay.map u8V)) (hu : ListAt w ia im (inp.map u64V))
    (hwf : ps.all wfV = true) (hm : B.program ps pn im = (0, none)) (hb : B.Bytes pay) (hw : B.Words inp) (h1 : (B.run ps inp 0 (B.start pay im)).failed = none) (h2 : (B.run ps inp 0 (B.start pay im)).steps = n) (h3 : (B.run ps inp 0 (B.start pay im)).st.pay = po) (h4 : (B.run ps inp 0 (B.start pay im)).st.out = ou) :
    Calls Tryz.prog 29 #[.slice a len cap, .slice pa pn pc, .slice ia im ic] w (KnOut S n pn im po ou w) := by
 have hM := (B.program_ok _ _ _).1 hm
 refine (run_go_any a pa ia len cap pn pc im ic ps pay inp w hp (wf_V hwf) hT (by have := hp.len; have := hM.len; omega) hM hy hu hb hw rfl h1).mono ?_
 rintro e w' ⟨pa', pc', oa, oc, ha, hc, rfl, _, l1, l2, _, hb'⟩
 rw [h3] at l1
 rw [h4] at l2
 exact ⟨pa', pc', oa, oc, ha, hc, by rw [h2], l1, l2, hb', hS _ _ hs hb'⟩

theorem run_kf {S : World → Prop} (hS : StableV S) {a pa ia : Option Addr} {len cap pn pc im ic : Nat} (ps : List B.Ins) (pay inp : List Nat) (n : Nat) (k : Int) {w : World} (hT : Tabs w) (hs : S w) (hp : ProgAt w a len ps) (hy : ListAt w pa pn (pay.map u8V)) (hu : ListAt w ia im (inp.map u64V))
    (hwf : ps.all wfV = true) (hm : B.program ps pn im = (0, none)) (hb : B.Bytes pay) (hw : B.Words inp) (h1 : (B.run ps inp 0 (B.start pay im)).failed = some k) (h2 : (B.run ps inp 0 (B.start pay im)).steps = n) :
    Calls Tryz.prog 29 #[.slice a len cap, .slice pa pn pc, .slice ia im ic] w (KnFail S n k w) := by
 have hM := (B.program_ok _ _ _).1 hm
 refine (run_fail_any a pa ia len cap pn pc im ic ps pay inp w hp (wf_V hwf) hT (by have := hp.len; have := hM.len; omega) hM hy hu hb hw rfl h1).mono ?_
 rintro e w' ⟨rfl, hb'⟩
 exact ⟨by rw [h2], hb', hS _ _ hs hb'⟩

/-- the first cell of a list -/
theorem list_one {w : World} {a : Option Addr} {n : Nat} {x : Value} (h : ListAt w a n [x]) : ∃ b o, a = some ⟨b, o, none⟩ ∧ b < w.heap.size ∧ w.cell? ⟨b, o, none⟩ = some x := by
 obtain ⟨b, o, h1, h2, h3⟩ := h.at_ 0 x rfl
 exact ⟨b, o, h1, h2, by rw [Nat.add_zero] at h3; exact h3⟩

/-- the blocks that the examples lie in -/
def SaidV (X : Nat) (w : World) : Prop :=
 ListAt w (some ⟨X, 0, none⟩) 2 (([1, 2] : List Nat).map u8V) ∧ ListAt w (some ⟨X + 1, 0, none⟩) 1 (([300] : List Nat).map u64V) ∧ ProgAt w (some ⟨X + 1 + 1, 0, none⟩) 2 [⟨9, 0, 0, 2, 0⟩, ⟨16, 0, 0, 0, 0⟩] ∧ ProgAt w (some ⟨X + 1 + 1 + 1, 0, none⟩) 2 [⟨10, 0, 0, 2, 0⟩, ⟨16, 0, 0, 0, 0⟩] ∧ ProgAt w (some ⟨X + 1 + 1 + 1 + 1, 0, none⟩) 2 [⟨15, 0, 0, 0, 0⟩, ⟨13, 0, 0, 2, 4080⟩] ∧ ProgAt w (some ⟨X + 1 + 1 + 1 + 1 + 1, 0, none⟩) 3 [⟨15, 0, 0, 0, 0⟩, ⟨17, 0, 0, 8, 0⟩, ⟨11, 0, 0, 2, 0⟩] ∧ ProgAt w (some ⟨X + 1 + 1 + 1 + 1 + 1 + 1, 0, none⟩) 3 [⟨15, 0, 0, 0, 0⟩, ⟨14, 0, 0, 4, 0⟩, ⟨16, 0, 0, 0, 0⟩] ∧ ProgAt w (some ⟨X + 1 + 1 + 1 + 1 + 1 + 1 + 1, 0, none⟩) 4 [⟨15, 0, 0, 0, 0⟩, ⟨19, 0, 0, 1, 300⟩, ⟨0, 0, 0, 0, 0⟩, ⟨11, 0, 0, 2, 0⟩]
theorem saidV_stable (X : Nat) : StableV (SaidV X) := fun _ _ h hb => ⟨h.1.below hb (Nat.le_refl _), h.2.1.below hb (Nat.le_refl _), h.2.2.1.below hb (Nat.le_refl _), h.2.2.2.1.below hb (Nat.le_refl _), h.2.2.2.2.1.below hb (Nat.le_refl _), h.2.2.2.2.2.1.below hb (Nat.le_refl _), h.2.2.2.2.2.2.1.below hb (Nat.le_refl _), h.2.2.2.2.2.2.2.below hb (Nat.le_refl _)⟩

set_option maxRecDepth 100000 in
set_option maxHeartbeats 3200000 in
theorem saidV_new (w : World) : ∃ w0, ((((((((w.alloc (.cells #[.int .u8 1, .int .u8 2] 5)).alloc (.cells #[.int .u64 300] 22)).alloc (.cells #[.int .i64 9, .int .i64 0, .int .i64 0, .int .i64 2, .int .u64 0, .int .i64 16, .int .i64 0, .int .i64 0, .int .i64 0, .int .u64 0] 24)).alloc (.cells #[.int .i64 10, .int .i64 0, .int .i64 0, .int .i64 2, .int .u64 0, .int .i64 16, .int .i64 0, .int .i64 0, .int .i64 0, .int .u64 0] 24)).alloc (.cells #[.int .i64 15, .int .i64 0, .int .i64 0, .int .i64 0, .int .u64 0, .int .i64 13, .int .i64 0, .int .i64 0, .int .i64 2, .int .u64 4080] 24)).alloc (.cells #[.int .i64 15, .int .i64 0, .int .i64 0, .int .i64 0, .int .u64 0, .int .i64 17, .int .i64 0, .int .i64 0, .int .i64 8, .int .u64 0, .int .i64 11, .int .i64 0, .int .i64 0, .int .i64 2, .int .u64 0] 24)).alloc (.cells #[.int .i64 15, .int .i64 0, .int .i64 0, .int .i64 0, .int .u64 0, .int .i64 14, .int .i64 0, .int .i64 0, .int .i64 4, .int .u64 0, .int .i64 16, .int .i64 0, .int .i64 0, .int .i64 0, .int .u64 0] 24)).alloc (.cells #[.int .i64 15, .int .i64 0, .int .i64 0, .int .i64 0, .int .u64 0, .int .i64 19, .int .i64 0, .int .i64 0, .int .i64 1, .int .u64 300, .int .i64 0, .int .i64 0, .int .i64 0, .int .i64 0, .int .u64 0, .int .i64 11, .int .i64 0, .int .i64 0, .int .i64 2, .int .u64 0] 24)) = w0 ∧ Below w.heap.size w w0 ∧ SaidV w.heap.size w0 ∧ w0.heap.size = w.heap.size + 1 + 1 + 1 + 1 + 1 + 1 + 1 + 1 := by
 have k : ∀ (v : World) (o : Obj), Below v.heap.size v (v.alloc o) := fun v o => (Below.refl _ _).alloc (Nat.le_refl _) _
 have z : ∀ (v : World) (o : Obj), (v.alloc o).heap.size = v.heap.size + 1 := fun v o => by simp
 obtain ⟨v0, e0⟩ : ∃ v, w.alloc (.cells #[.int .u8 1, .int .u8 2] 5) = v := ⟨_, rfl⟩
 obtain ⟨v1, e1⟩ : ∃ v, v0.alloc (.cells #[.int .u64 300] 22) = v := ⟨_, rfl⟩
 obtain ⟨v2, e2⟩ : ∃ v, v1.alloc (.cells #[.int .i64 9, .int .i64 0, .int .i64 0, .int .i64 2, .int .u64 0, .int .i64 16, .int .i64 0, .int .i64 0, .int .i64 0, .int .u64 0] 24) = v := ⟨_, rfl⟩
 obtain ⟨v3, e3⟩ : ∃ v, v2.alloc (.cells #[.int .i64 10, .int .i64 0, .int .i64 0, .int .i64 2, .int .u64 0, .int .i64 16, .int .i64 0, .int .i64 0, .int .i64 0, .int .u64 0] 24) = v := ⟨_, rfl⟩
 obtain ⟨v4, e4⟩ : ∃ v, v3.alloc (.cells #[.int .i64 15, .int .i64 0, .int .i64 0, .int .i64 0, .int .u64 0, .int .i64 13, .int .i64 0, .int .i64 0, .int .i64 2, .int .u64 4080] 24) = v := ⟨_, rfl⟩
 obtain ⟨v5, e5⟩ : ∃ v, v4.alloc (.cells #[.int .i64 15, .int .i64 0, .int .i64 0, .int .i64 0, .int .u64 0, .int .i64 17, .int .i64 0, .int .i64 0, .int .i64 8, .int .u64 0, .int .i64 11, .int .i64 0, .int .i64 0, .int .i64 2, .int .u64 0] 24) = v := ⟨_, rfl⟩
 obtain ⟨v6, e6⟩ : ∃ v, v5.alloc (.cells #[.int .i64 15, .int .i64 0, .int .i64 0, .int .i64 0, .int .u64 0, .int .i64 14, .int .i64 0, .int .i64 0, .int .i64 4, .int .u64 0, .int .i64 16, .int .i64 0, .int .i64 0, .int .i64 0, .int .u64 0] 24) = v := ⟨_, rfl⟩
 obtain ⟨v7, e7⟩ : ∃ v, v6.alloc (.cells #[.int .i64 15, .int .i64 0, .int .i64 0, .int .i64 0, .int .u64 0, .int .i64 19, .int .i64 0, .int .i64 0, .int .i64 1, .int .u64 300, .int .i64 0, .int .i64 0, .int .i64 0, .int .i64 0, .int .u64 0, .int .i64 11, .int .i64 0, .int .i64 0, .int .i64 2, .int .u64 0] 24) = v := ⟨_, rfl⟩
 refine ⟨v7, by rw [e0, e1, e2, e3, e4, e5, e6, e7], ?_⟩
 have b0 : Below w.heap.size w v0 := by rw [← e0]; exact k _ _
 have z0 : v0.heap.size = w.heap.size + 1 := by rw [← e0, z]
 have b1 : Below v0.heap.size v0 v1 := by rw [← e1]; exact k _ _
 have z1 : v1.heap.size = w.heap.size + 1 + 1 := by rw [← e1, z, z0]
 have b2 : Below v1.heap.size v1 v2 := by rw [← e2]; exact k _ _
 have z2 : v2.heap.size = w.heap.size + 1 + 1 + 1 := by rw [← e2, z, z1]
 have b3 : Below v2.heap.size v2 v3 := by rw [← e3]; exact k _ _
 have z3 : v3.heap.size = w.heap.size + 1 + 1 + 1 + 1 := by rw [← e3, z, z2]
 have b4 : Below v3.heap.size v3 v4 := by rw [← e4]; exact k _ _
 have z4 : v4.heap.size = w.heap.size + 1 + 1 + 1 + 1 + 1 := by rw [← e4, z, z3]
 have b5 : Below v4.heap.size v4 v5 := by rw [← e5]; exact k _ _
 have z5 : v5.heap.size = w.heap.size + 1 + 1 + 1 + 1 + 1 + 1 := by rw [← e5, z, z4]
 have b6 : Below v5.heap.size v5 v6 := by rw [← e6]; exact k _ _
 have z6 : v6.heap.size = w.heap.size + 1 + 1 + 1 + 1 + 1 + 1 + 1 := by rw [← e6, z, z5]
 have b7 : Below v6.heap.size v6 v7 := by rw [← e7]; exact k _ _
 have z7 : v7.heap.size = w.heap.size + 1 + 1 + 1 + 1 + 1 + 1 + 1 + 1 := by rw [← e7, z, z6]
 have c7 : Below v7.heap.size v7 v7 := Below.refl _ _
 have c6 : Below v6.heap.size v6 v7 := b7.trans (c7.mono (by omega))
 have c5 : Below v5.heap.size v5 v7 := b6.trans (c6.mono (by omega))
 have c4 : Below v4.heap.size v4 v7 := b5.trans (c5.mono (by omega))
 have c3 : Below v3.heap.size v3 v7 := b4.trans (c4.mono (by omega))
 have c2 : Below v2.heap.size v2 v7 := b3.trans (c3.mono (by omega))
 have c1 : Below v1.heap.size v1 v7 := b2.trans (c2.mono (by omega))
 have c0 : Below v0.heap.size v0 v7 := b1.trans (c1.mono (by omega))
 have hp : ∀ (ps : List B.Ins) (C : Array Value) (n X : Nat) (v u : World), v.alloc (.cells C 24) = u → X = v.heap.size → C.toList = cellsP ps → n = ps.length → Below u.heap.size u v7 → ProgAt v7 (some ⟨X, 0, none⟩) n ps := by
  rintro ps C n X v u rfl hX hC hn hb
  exact (progAt_newV ps C n _ v hX hC hn).below hb (Nat.le_refl _)
 have hl : ∀ (vs : List Value) (C : Array Value) (n X : Nat) (t : TypeId) (v u : World), v.alloc (.cells C t) = u → X = v.heap.size → C.toList = vs → n = vs.length → Below u.heap.size u v7 → ListAt v7 (some ⟨X, 0, none⟩) n vs := by
  rintro vs C n X t v u rfl hX hC hn hb
  exact (listAt_new vs C n X t v hC hn hX).below hb (Nat.le_refl _)
 exact ⟨b0.trans (c0.mono (by omega)), ⟨hl _ _ _ _ _ _ _ e0 rfl rfl rfl c0, hl _ _ _ _ _ _ _ e1 z0.symm rfl rfl c1, hp [⟨9, 0, 0, 2, 0⟩, ⟨16, 0, 0, 0, 0⟩] _ _ _ _ _ e2 z1.symm rfl rfl c2, hp [⟨10, 0, 0, 2, 0⟩, ⟨16, 0, 0, 0, 0⟩] _ _ _ _ _ e3 z2.symm rfl rfl c3, hp [⟨15, 0, 0, 0, 0⟩, ⟨13, 0, 0, 2, 4080⟩] _ _ _ _ _ e4 z3.symm rfl rfl c4, hp [⟨15, 0, 0, 0, 0⟩, ⟨17, 0, 0, 8, 0⟩, ⟨11, 0, 0, 2, 0⟩] _ _ _ _ _ e5 z4.symm rfl rfl c5, hp [⟨15, 0, 0, 0, 0⟩, ⟨14, 0, 0, 4, 0⟩, ⟨16, 0, 0, 0, 0⟩] _ _ _ _ _ e6 z5.symm rfl rfl c6, hp [⟨15, 0, 0, 0, 0⟩, ⟨19, 0, 0, 1, 300⟩, ⟨0, 0, 0, 0, 0⟩, ⟨11, 0, 0, 2, 0⟩] _ _ _ _ _ e7 z6.symm rfl rfl c7⟩, z7⟩

set_option maxRecDepth 100000 in
set_option maxHeartbeats 12800000 in
theorem knownSaid14_any (w : World) (hT : Tabs w) : Calls Tryz.prog 10 #[] w (BoolOut true w) := by
 have HT := Lib.hid hT
 clear hT
 obtain ⟨w0, hw0, hb0, hs0, hz0⟩ := saidV_new w
 have HB0 := Lib.hid hb0
 have HW0 := Lib.hid hw0
 have hS0 := Lib.hid (saidV_stable w.heap.size)
 have HS0 := Lib.hid hs0
 clear hw0 hb0 hs0 hz0
 go_enter Tryz.func10, Tryz.ntmps10
 go_wp2_with fail
 rw [HW0.out]
 clear HW0
 obtain ⟨X, hX⟩ : ∃ X, w.heap.size = X := ⟨_, rfl⟩
 rw [hX] at hS0 HS0
 rw [hX]
 clear hX
 have q := HS0.out
 refine (run_kn hS0.out [⟨9, 0, 0, 2, 0⟩, ⟨16, 0, 0, 0, 0⟩] [1, 2] [300] 2 [1, 2] [513] (HT.out.below HB0.out (Nat.le_refl _)) HS0.out (q.2.2.1) q.1 q.2.1 (by decide +kernel) (by decide +kernel) (by unfold B.Bytes; decide) (by unfold B.Words; decide) (by decide +kernel) (by decide +kernel) (by decide +kernel) (by decide +kernel)).mono ?_
 rintro e w1 ⟨pa1, pc1, oa1, oc1, ha1, hc1, rfl, lp, lo, hb, hs⟩
 obtain ⟨v1, hv1⟩ : ∃ v, w1.alloc (.cells #[.bool false, .int .i64 0, .slice pa1 2 pc1, .slice oa1 1 oc1, .slice ha1 1 hc1, .int .i64 2] 52) = v := ⟨_, rfl⟩
 obtain ⟨Y1, hY1⟩ : ∃ Y, w1.heap.size = Y := ⟨_, rfl⟩
 have hbv : Below w1.heap.size w1 v1 := by rw [← hv1]; exact (Below.refl _ _).alloc (Nat.le_refl _) _
 have hbx : BoxR (.bool false) (.int .i64 0) (.slice pa1 2 pc1) (.slice oa1 1 oc1) (.slice ha1 1 hc1) (.int .i64 2) Y1 v1 := by rw [← hv1, ← hY1]; exact boxR_new _ _ _ _ _ _ _ _
 obtain ⟨S1, st1, sv1, sn1⟩ := stableV_and (S := fun u => BoxR (.bool false) (.int .i64 0) (.slice pa1 2 pc1) (.slice oa1 1 oc1) (.slice ha1 1 hc1) (.int .i64 2) Y1 u ∧ ListAt u oa1 1 (([513] : List Nat).map u64V)) (fun _ _ h hb => ⟨BoxR.stable _ _ _ _ _ _ _ _ _ h.1 hb, h.2.below hb (Nat.le_refl _)⟩) hS0.out ⟨hbx, lo.below hbv (Nat.le_refl _)⟩ (hS0.out _ _ hs hbv)
 have hS1 := Lib.hid st1
 have HS1 := Lib.hid sv1
 have HX1 := Lib.hid sn1
 have HN1 : Hid (∀ u, S1 u → SaidV X u) := Lib.hid (fun u h => (sn1 u h).2)
 have HB1 := Lib.hid (HB0.out.trans ((hb.trans (hbv.mono hb.size)).mono HB0.out.size))
 have HV1 := Lib.hid hv1
 have HY1 := Lib.hid hY1
 clear q hb hs hbv hbx st1 sv1 sn1 hv1 hY1 lp lo
 go_wp2_with fail
 rw [HV1.out]
 try rw [HY1.out]
 clear HV1 HY1
 have q := (HN1.out _ HS1.out)
 refine (run_kn hS1.out [⟨10, 0, 0, 2, 0⟩, ⟨16, 0, 0, 0, 0⟩] [1, 2] [300] 2 [1, 2] [258] (HT.out.below HB1.out (Nat.le_refl _)) HS1.out (q.2.2.2.1) q.1 q.2.1 (by decide +kernel) (by decide +kernel) (by unfold B.Bytes; decide) (by unfold B.Words; decide) (by decide +kernel) (by decide +kernel) (by decide +kernel) (by decide +kernel)).mono ?_
 rintro e w2 ⟨pa2, pc2, oa2, oc2, ha2, hc2, rfl, lp, lo, hb, hs⟩
 obtain ⟨v2, hv2⟩ : ∃ v, w2.alloc (.cells #[.bool false, .int .i64 0, .slice pa2 2 pc2, .slice oa2 1 oc2, .slice ha2 1 hc2, .int .i64 2] 52) = v := ⟨_, rfl⟩
 obtain ⟨Y2, hY2⟩ : ∃ Y, w2.heap.size = Y := ⟨_, rfl⟩
 have hbv : Below w2.heap.size w2 v2 := by rw [← hv2]; exact (Below.refl _ _).alloc (Nat.le_refl _) _
 have hbx : BoxR (.bool false) (.int .i64 0) (.slice pa2 2 pc2) (.slice oa2 1 oc2) (.slice ha2 1 hc2) (.int .i64 2) Y2 v2 := by rw [← hv2, ← hY2]; exact boxR_new _ _ _ _ _ _ _ _
 obtain ⟨S2, st2, sv2, sn2⟩ := stableV_and (S := fun u => BoxR (.bool false) (.int .i64 0) (.slice pa2 2 pc2) (.slice oa2 1 oc2) (.slice ha2 1 hc2) (.int .i64 2) Y2 u ∧ ListAt u oa2 1 (([258] : List Nat).map u64V)) (fun _ _ h hb => ⟨BoxR.stable _ _ _ _ _ _ _ _ _ h.1 hb, h.2.below hb (Nat.le_refl _)⟩) hS1.out ⟨hbx, lo.below hbv (Nat.le_refl _)⟩ (hS1.out _ _ hs hbv)
 have hS2 := Lib.hid st2
 have HS2 := Lib.hid sv2
 have HX2 := Lib.hid sn2
 have HN2 : Hid (∀ u, S2 u → SaidV X u) := Lib.hid (fun u h => HN1.out u (sn2 u h).2)
 have HB2 := Lib.hid (HB1.out.trans ((hb.trans (hbv.mono hb.size)).mono HB1.out.size))
 have HV2 := Lib.hid hv2
 have HY2 := Lib.hid hY2
 clear q hb hs hbv hbx st2 sv2 sn2 hv2 hY2 lp lo
 go_wp2_with fail
 rw [HV2.out]
 try rw [HY2.out]
 clear HV2 HY2
 have q := (HN2.out _ HS2.out)
 refine (run_kn hS2.out [⟨15, 0, 0, 0, 0⟩, ⟨13, 0, 0, 2, 4080⟩] [1, 2] [300] 2 [33, 1] [0] (HT.out.below HB2.out (Nat.le_refl _)) HS2.out (q.2.2.2.2.1) q.1 q.2.1 (by decide +kernel) (by decide +kernel) (by unfold B.Bytes; decide) (by unfold B.Words; decide) (by decide +kernel) (by decide +kernel) (by decide +kernel) (by decide +kernel)).mono ?_
 rintro e w3 ⟨pa3, pc3, oa3, oc3, ha3, hc3, rfl, lp, lo, hb, hs⟩
 obtain ⟨v3, hv3⟩ : ∃ v, w3.alloc (.cells #[.bool false, .int .i64 0, .slice pa3 2 pc3, .slice oa3 1 oc3, .slice ha3 1 hc3, .int .i64 2] 52) = v := ⟨_, rfl⟩
 obtain ⟨Y3, hY3⟩ : ∃ Y, w3.heap.size = Y := ⟨_, rfl⟩
 have hbv : Below w3.heap.size w3 v3 := by rw [← hv3]; exact (Below.refl _ _).alloc (Nat.le_refl _) _
 have hbx : BoxR (.bool false) (.int .i64 0) (.slice pa3 2 pc3) (.slice oa3 1 oc3) (.slice ha3 1 hc3) (.int .i64 2) Y3 v3 := by rw [← hv3, ← hY3]; exact boxR_new _ _ _ _ _ _ _ _
 obtain ⟨S3, st3, sv3, sn3⟩ := stableV_and (S := fun u => BoxR (.bool false) (.int .i64 0) (.slice pa3 2 pc3) (.slice oa3 1 oc3) (.slice ha3 1 hc3) (.int .i64 2) Y3 u ∧ ListAt u pa3 2 (([33, 1] : List Nat).map u8V)) (fun _ _ h hb => ⟨BoxR.stable _ _ _ _ _ _ _ _ _ h.1 hb, h.2.below hb (Nat.le_refl _)⟩) hS2.out ⟨hbx, lp.below hbv (Nat.le_refl _)⟩ (hS2.out _ _ hs hbv)
 have hS3 := Lib.hid st3
 have HS3 := Lib.hid sv3
 have HX3 := Lib.hid sn3
 have HN3 : Hid (∀ u, S3 u → SaidV X u) := Lib.hid (fun u h => HN2.out u (sn3 u h).2)
 have HB3 := Lib.hid (HB2.out.trans ((hb.trans (hbv.mono hb.size)).mono HB2.out.size))
 have HV3 := Lib.hid hv3
 have HY3 := Lib.hid hY3
 clear q hb hs hbv hbx st3 sv3 sn3 hv3 hY3 lp lo
 go_wp2_with fail
 rw [HV3.out]
 try rw [HY3.out]
 clear HV3 HY3
 have q := (HN3.out _ HS3.out)
 refine (run_kf hS3.out [⟨15, 0, 0, 0, 0⟩, ⟨17, 0, 0, 8, 0⟩, ⟨11, 0, 0, 2, 0⟩] [1, 2] [300] 2 0 (HT.out.below HB3.out (Nat.le_refl _)) HS3.out (q.2.2.2.2.2.1) q.1 q.2.1 (by decide +kernel) (by decide +kernel) (by unfold B.Bytes; decide) (by unfold B.Words; decide) (by decide +kernel) (by decide +kernel)).mono ?_
 rintro e w4 ⟨rfl, hb, hs⟩
 obtain ⟨v4, hv4⟩ : ∃ v, w4.alloc (.cells #[.bool true, .int .i64 0, .slice none 0 0, .slice none 0 0, .slice none 0 0, .int .i64 2] 52) = v := ⟨_, rfl⟩
 obtain ⟨Y4, hY4⟩ : ∃ Y, w4.heap.size = Y := ⟨_, rfl⟩
 have hbv : Below w4.heap.size w4 v4 := by rw [← hv4]; exact (Below.refl _ _).alloc (Nat.le_refl _) _
 have hbx : BoxR (.bool true) (.int .i64 0) (.slice none 0 0) (.slice none 0 0) (.slice none 0 0) (.int .i64 2) Y4 v4 := by rw [← hv4, ← hY4]; exact boxR_new _ _ _ _ _ _ _ _
 obtain ⟨S4, st4, sv4, sn4⟩ := stableV_and (BoxR.stable _ _ _ _ _ _ Y4) hS3.out hbx (hS3.out _ _ hs hbv)
 have hS4 := Lib.hid st4
 have HS4 := Lib.hid sv4
 have HX4 := Lib.hid sn4
 have HN4 : Hid (∀ u, S4 u → SaidV X u) := Lib.hid (fun u h => HN3.out u (sn4 u h).2)
 have HB4 := Lib.hid (HB3.out.trans ((hb.trans (hbv.mono hb.size)).mono HB3.out.size))
 have HV4 := Lib.hid hv4
 have HY4 := Lib.hid hY4
 clear q hb hs hbv hbx st4 sv4 sn4 hv4 hY4
 go_wp2_with fail
 rw [HV4.out]
 try rw [HY4.out]
 clear HV4 HY4
 have q := (HN4.out _ HS4.out)
 refine (run_kn hS4.out [⟨15, 0, 0, 0, 0⟩, ⟨14, 0, 0, 4, 0⟩, ⟨16, 0, 0, 0, 0⟩] [1, 2] [300] 3 [1, 2] [18446744073709551612] (HT.out.below HB4.out (Nat.le_refl _)) HS4.out (q.2.2.2.2.2.2.1) q.1 q.2.1 (by decide +kernel) (by decide +kernel) (by unfold B.Bytes; decide) (by unfold B.Words; decide) (by decide +kernel) (by decide +kernel) (by decide +kernel) (by decide +kernel)).mono ?_
 rintro e w5 ⟨pa5, pc5, oa5, oc5, ha5, hc5, rfl, lp, lo, hb, hs⟩
 obtain ⟨v5, hv5⟩ : ∃ v, w5.alloc (.cells #[.bool false, .int .i64 0, .slice pa5 2 pc5, .slice oa5 1 oc5, .slice ha5 1 hc5, .int .i64 3] 52) = v := ⟨_, rfl⟩
 obtain ⟨Y5, hY5⟩ : ∃ Y, w5.heap.size = Y := ⟨_, rfl⟩
 have hbv : Below w5.heap.size w5 v5 := by rw [← hv5]; exact (Below.refl _ _).alloc (Nat.le_refl _) _
 have hbx : BoxR (.bool false) (.int .i64 0) (.slice pa5 2 pc5) (.slice oa5 1 oc5) (.slice ha5 1 hc5) (.int .i64 3) Y5 v5 := by rw [← hv5, ← hY5]; exact boxR_new _ _ _ _ _ _ _ _
 obtain ⟨S5, st5, sv5, sn5⟩ := stableV_and (S := fun u => BoxR (.bool false) (.int .i64 0) (.slice pa5 2 pc5) (.slice oa5 1 oc5) (.slice ha5 1 hc5) (.int .i64 3) Y5 u ∧ ListAt u oa5 1 (([18446744073709551612] : List Nat).map u64V)) (fun _ _ h hb => ⟨BoxR.stable _ _ _ _ _ _ _ _ _ h.1 hb, h.2.below hb (Nat.le_refl _)⟩) hS4.out ⟨hbx, lo.below hbv (Nat.le_refl _)⟩ (hS4.out _ _ hs hbv)
 have hS5 := Lib.hid st5
 have HS5 := Lib.hid sv5
 have HX5 := Lib.hid sn5
 have HN5 : Hid (∀ u, S5 u → SaidV X u) := Lib.hid (fun u h => HN4.out u (sn5 u h).2)
 have HB5 := Lib.hid (HB4.out.trans ((hb.trans (hbv.mono hb.size)).mono HB4.out.size))
 have HV5 := Lib.hid hv5
 have HY5 := Lib.hid hY5
 clear q hb hs hbv hbx st5 sv5 sn5 hv5 hY5 lp lo
 go_wp2_with fail
 rw [HV5.out]
 try rw [HY5.out]
 clear HV5 HY5
 have q := (HN5.out _ HS5.out)
 refine (run_kn hS5.out [⟨15, 0, 0, 0, 0⟩, ⟨19, 0, 0, 1, 300⟩, ⟨0, 0, 0, 0, 0⟩, ⟨11, 0, 0, 2, 0⟩] [1, 2] [300] 3 [1, 2] [0] (HT.out.below HB5.out (Nat.le_refl _)) HS5.out (q.2.2.2.2.2.2.2) q.1 q.2.1 (by decide +kernel) (by decide +kernel) (by unfold B.Bytes; decide) (by unfold B.Words; decide) (by decide +kernel) (by decide +kernel) (by decide +kernel) (by decide +kernel)).mono ?_
 rintro e w6 ⟨pa6, pc6, oa6, oc6, ha6, hc6, rfl, lp, lo, hb, hs⟩
 obtain ⟨v6, hv6⟩ : ∃ v, w6.alloc (.cells #[.bool false, .int .i64 0, .slice pa6 2 pc6, .slice oa6 1 oc6, .slice ha6 1 hc6, .int .i64 3] 52) = v := ⟨_, rfl⟩
 obtain ⟨Y6, hY6⟩ : ∃ Y, w6.heap.size = Y := ⟨_, rfl⟩
 have hbv : Below w6.heap.size w6 v6 := by rw [← hv6]; exact (Below.refl _ _).alloc (Nat.le_refl _) _
 have hbx : BoxR (.bool false) (.int .i64 0) (.slice pa6 2 pc6) (.slice oa6 1 oc6) (.slice ha6 1 hc6) (.int .i64 3) Y6 v6 := by rw [← hv6, ← hY6]; exact boxR_new _ _ _ _ _ _ _ _
 obtain ⟨S6, st6, sv6, sn6⟩ := stableV_and (S := fun u => BoxR (.bool false) (.int .i64 0) (.slice pa6 2 pc6) (.slice oa6 1 oc6) (.slice ha6 1 hc6) (.int .i64 3) Y6 u ∧ ListAt u pa6 2 (([1, 2] : List Nat).map u8V)) (fun _ _ h hb => ⟨BoxR.stable _ _ _ _ _ _ _ _ _ h.1 hb, h.2.below hb (Nat.le_refl _)⟩) hS5.out ⟨hbx, lp.below hbv (Nat.le_refl _)⟩ (hS5.out _ _ hs hbv)
 have hS6 := Lib.hid st6
 have HS6 := Lib.hid sv6
 have HX6 := Lib.hid sn6
 have HN6 : Hid (∀ u, S6 u → SaidV X u) := Lib.hid (fun u h => HN5.out u (sn6 u h).2)
 have HB6 := Lib.hid (HB5.out.trans ((hb.trans (hbv.mono hb.size)).mono HB5.out.size))
 have HV6 := Lib.hid hv6
 have HY6 := Lib.hid hY6
 clear q hb hs hbv hbx st6 sv6 sn6 hv6 hY6 lp lo
 go_wp2_with fail
 rw [HV6.out]
 try rw [HY6.out]
 clear HV6 HY6
 have q := (HN6.out _ HS6.out)
 refine (run_kn hS6.out [] [1, 2] [300] 0 [1, 2] [0] (HT.out.below HB6.out (Nat.le_refl _)) HS6.out (progAt_nilV _) q.1 q.2.1 (by decide +kernel) (by decide +kernel) (by unfold B.Bytes; decide) (by unfold B.Words; decide) (by decide +kernel) (by decide +kernel) (by decide +kernel) (by decide +kernel)).mono ?_
 rintro e w7 ⟨pa7, pc7, oa7, oc7, ha7, hc7, rfl, lp, lo, hb, hs⟩
 obtain ⟨v7, hv7⟩ : ∃ v, w7.alloc (.cells #[.bool false, .int .i64 0, .slice pa7 2 pc7, .slice oa7 1 oc7, .slice ha7 1 hc7, .int .i64 0] 52) = v := ⟨_, rfl⟩
 obtain ⟨Y7, hY7⟩ : ∃ Y, w7.heap.size = Y := ⟨_, rfl⟩
 have hbv : Below w7.heap.size w7 v7 := by rw [← hv7]; exact (Below.refl _ _).alloc (Nat.le_refl _) _
 have hbx : BoxR (.bool false) (.int .i64 0) (.slice pa7 2 pc7) (.slice oa7 1 oc7) (.slice ha7 1 hc7) (.int .i64 0) Y7 v7 := by rw [← hv7, ← hY7]; exact boxR_new _ _ _ _ _ _ _ _
 obtain ⟨S7, st7, sv7, sn7⟩ := stableV_and (BoxR.stable _ _ _ _ _ _ Y7) hS6.out hbx (hS6.out _ _ hs hbv)
 have hS7 := Lib.hid st7
 have HS7 := Lib.hid sv7
 have HX7 := Lib.hid sn7
 have HN7 : Hid (∀ u, S7 u → SaidV X u) := Lib.hid (fun u h => HN6.out u (sn7 u h).2)
 have HB7 := Lib.hid (HB6.out.trans ((hb.trans (hbv.mono hb.size)).mono HB6.out.size))
 have HV7 := Lib.hid hv7
 have HY7 := Lib.hid hY7
 clear q hb hs hbv hbx st7 sv7 sn7 hv7 hY7 lp lo
 go_wp2_with fail
 rw [HV7.out]
 try rw [HY7.out]
 clear HV7 HY7
 refine (works14_any v7 (HT.out.below HB7.out (Nat.le_refl _))).mono ?_
 rintro e w8 ⟨rfl, hb⟩
 have HS8 := Lib.hid (hS7.out _ _ HS7.out hb)
 have HB8 := Lib.hid (HB7.out.trans (hb.mono HB7.out.size))
 clear hb
 have t7 := HX7.out _ HS8.out
 have t6 := HX6.out _ t7.2
 have t5 := HX5.out _ t6.2
 have t4 := HX4.out _ t5.2
 have t3 := HX3.out _ t4.2
 have t2 := HX2.out _ t3.2
 have t1 := HX1.out _ t2.2
 have a3 := t1.1.1.2.2.2.1
 have b3 := t2.1.1.2.2.2.1
 have c2 := t3.1.1.2.2.1
 obtain ⟨ab, ao, ea, _, ac⟩ := list_one t1.1.2
 obtain ⟨bb, bo, eb, _, bc⟩ := list_one t2.1.2
 subst ea eb
 unfold u64V at ac bc
 have HC := Lib.hid t3.1.2
 clear t1 t2 t3 t4 t5 t6 t7
 go_wp2_with fail
 refine (sameBytes_any _ _ 2 _ 2 2 [33, 1] [33, 1] _ (HC.out.below ((Below.refl _ _).alloc (Nat.le_refl _) _) (Nat.le_refl _)) (listAt_new _ _ 2 _ _ w8 rfl rfl rfl) (by omega)).mono ?_
 rintro e w9 ⟨rfl, hb⟩
 have hba : Below w8.heap.size w8 (w8.alloc (.cells #[.int .u8 33, .int .u8 1] 5)) := (Below.refl _ _).alloc (Nat.le_refl _) _
 have hb := hba.trans (hb.mono hba.size)
 have HS9 := Lib.hid (hS7.out _ _ HS8.out hb)
 have HB9 := Lib.hid (HB8.out.trans (hb.mono HB8.out.size))
 have e1 : decide (([33, 1] : List Nat) = [33, 1]) = true := by decide
 rw [e1]
 clear hb hba HC e1 a3 b3 c2 ac bc
 have t7 := HX7.out _ HS9.out
 have t6 := HX6.out _ t7.2
 have t5 := HX5.out _ t6.2
 have t4 := HX4.out _ t5.2
 have t3 := HX3.out _ t4.2
 have t2 := HX2.out _ t3.2
 have t1 := HX1.out _ t2.2
 have d0 := t4.1.1
 have d1 := t4.1.2.1
 have d5 := t4.1.2.2.2.2.2
 have i3 := t5.1.1.2.2.2.1
 have l2 := t6.1.1.2.2.1
 obtain ⟨ib, io, ei, _, ic⟩ := list_one t5.1.2
 subst ei
 unfold u64V at ic
 have HC := Lib.hid t6.1.2
 have HP := Lib.hid (HN6.out _ t7.2).1
 clear t1 t2 t3 t4 t5 t6 t7
 go_wp2_with fail
 refine (sameBytes_any _ _ 2 _ 2 2 [1, 2] [1, 2] _ HC.out HP.out (by omega)).mono ?_
 rintro e w10 ⟨rfl, hb⟩
 have HS10 := Lib.hid (hS7.out _ _ HS9.out hb)
 have HB10 := Lib.hid (HB9.out.trans (hb.mono HB9.out.size))
 have e1 : decide (([1, 2] : List Nat) = [1, 2]) = true := by decide
 rw [e1]
 clear hb HC HP e1 d0 d1 d5 i3 l2 ic
 have t7 := HX7.out _ HS10.out
 have t6 := HX6.out _ t7.2
 have t5 := HX5.out _ t6.2
 have t4 := HX4.out _ t5.2
 have t3 := HX3.out _ t4.2
 have t2 := HX2.out _ t3.2
 have t1 := HX1.out _ t2.2
 have l5 := t6.1.1.2.2.2.2.2
 have n5 := t7.1.2.2.2.2.2
 have n4 := t7.1.2.2.2.2.1
 clear t1 t2 t3 t4 t5 t6 t7
 go_wp2_with fail
 go_ret
 exact ⟨rfl, HB10.out⟩

 end Code
 end Go.Proofs.YtmpeipdeablkdaaGreatDoor
