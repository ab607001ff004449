/- Package fold: what is known is reckoned ahead. -/
import Derived.Test.YtegjeincncccaaaGreatDoorFlE
import Derived.Test.YtegjeincncccaaaGreatDoorFlR
import Derived.Test.YtegjeincncccaaaGreatDoorMore2
import Derived.Deep.Cut
import Derived.Deep.DeepCutAuto
import Derived.Deep.CutBlock
import Derived.Deep.RegionHeld3
import Derived.Shelf.SlicesE.Clone
import Derived.Ground.SlgnProg
namespace Go.Proofs
open Go.Shelf
shelf_lay_g SlLaysE0.n41 Slgn 41 at Tryz 53 as Tryz.cloneIns
end Go.Proofs
namespace Go.Proofs.YtegjeincncccaaaGreatDoor
open Go.RowKit Go.Maps

namespace Code

attribute [local go_sem ↓] Go.wp_at_zero Go.wp_at_succ

/-- a list of instructions is copied -/
theorem cloneIns_any (b off len cap : Nat) (ps : List B.Ins) (w : World) (hp : ProgAt w (some ⟨b, off, none⟩) len ps) (hl : 0 < len) (hl2 : len ≤ 16384) :
    Calls Tryz.prog 53 #[.slice (some ⟨b, off, none⟩) len cap] w (fun e w' => ∃ g c, e = .returned (.slice (some ⟨g, 0, none⟩) len c) ∧ OwnP w' w.heap.size (some ⟨g, 0, none⟩) len c ps ∧ Below w.heap.size w w') := by
 obtain ⟨i, hi, hz0, hz1, hz2⟩ := info_parts info24
 have hn := hp.news
 refine (AnyE.slices_Clone Tryz.cloneIns i _ 5 40 hi hz0 hz1 hz2 rfl (by decide) Tryz.sizeOf24 b off len cap (cellsP ps) w (by rw [cellsP_length, hp.len]) (by unfold maxLen; omega) (by omega) (fun j u hu => ?_) (cellsP_ones ps)).mono ?_
 ·have := hn j u hu
  rw [Addr.add] at this
  split at this
  ·rename_i h0; rw [h0]; exact this
  ·exact this
 ·rintro e w' ⟨v, rfl, hown, _, hb⟩
  rcases hown.2 with ⟨_, h0⟩ | ⟨g, c, cur, rfl, _⟩
  ·omega
  ·exact ⟨g, c, rfl, ⟨hp.len, hown⟩, hb⟩

theorem cellsP_set (ps : List B.Ins) (i : Nat) (y : B.Ins) (hi : i < ps.length) (j : Nat) : (cellsP (ps.set i y))[j]? = if i * 5 ≤ j ∧ j < i * 5 + 5 then (cellsI y)[j - i * 5]? else (cellsP ps)[j]? := by
 by_cases hj : j < ps.length * 5
 ·obtain ⟨k, m, hk, hm⟩ : ∃ k m, j = k * 5 + m ∧ m < 5 := ⟨j / 5, j % 5, by omega, Nat.mod_lt _ (by omega)⟩
  have hkl : k < ps.length := by omega
  obtain ⟨x, hx⟩ : ∃ x, ps[k]? = some x := ⟨_, List.getElem?_eq_getElem hkl⟩
  by_cases e : k = i
  ·subst e
   rw [if_pos (by omega), hk, cellsP_get (ps.set k y) k y (by rw [List.getElem?_set_self hkl]) m hm]
   congr 1
   omega
  ·rw [if_neg (by omega), hk, cellsP_get (ps.set i y) k x (by rw [List.getElem?_set_ne (Ne.symm e)]; exact hx) m hm, cellsP_get ps k x hx m hm]
 ·rw [if_neg (by omega), List.getElem?_eq_none (by rw [cellsP_length, List.length_set]; omega), List.getElem?_eq_none (by rw [cellsP_length]; omega)]

/-- an instruction of a list of the call's own is written anew -/
theorem OwnP.put {w : World} {base g n cap : Nat} {qs : List B.Ins} (h : OwnP w base (some ⟨g, 0, none⟩) n cap qs) {i : Nat} (hi : i < n) (y : B.Ins) : OwnP (w.setCells g (i * 5) (insF y).toList) base (some ⟨g, 0, none⟩) n cap (qs.set i y) := by
 refine ⟨by rw [List.length_set]; exact h.len, ?_⟩
 have s1 := (World.ownsRow.stored h.own (i * 5) (.int .i64 y.op)).1
 have s2 := (World.ownsRow.stored s1 (i * 5 + 1) (.int .i64 y.a)).1
 have s3 := (World.ownsRow.stored s2 (i * 5 + 1 + 1) (.int .i64 y.b)).1
 have s4 := (World.ownsRow.stored s3 (i * 5 + 1 + 1 + 1) (.int .i64 y.n)).1
 have s5 := (World.ownsRow.stored s4 (i * 5 + 1 + 1 + 1 + 1) (.int .u64 y.imm)).1
 have e : cellsP (qs.set i y) = (((((cellsP qs).set (i * 5) (.int .i64 y.op)).set (i * 5 + 1) (.int .i64 y.a)).set (i * 5 + 1 + 1) (.int .i64 y.b)).set (i * 5 + 1 + 1 + 1) (.int .i64 y.n)).set (i * 5 + 1 + 1 + 1 + 1) (.int .u64 y.imm) := by
  apply List.ext_getElem?
  intro j
  have hl := h.len
  rw [cellsP_set qs i y (by omega) j]
  simp only [List.getElem?_set, List.length_set, cellsP_length]
  by_cases hj : i * 5 ≤ j ∧ j < i * 5 + 5
  ·rw [if_pos hj]
   obtain ⟨m, hm, hm5⟩ : ∃ m, j = i * 5 + m ∧ m < 5 := ⟨j - i * 5, by omega, by omega⟩
   subst hm
   have : m = 0 ∨ m = 1 ∨ m = 2 ∨ m = 3 ∨ m = 4 := by omega
   have hlt : i * 5 + 4 < qs.length * 5 := by omega
   rcases this with rfl | rfl | rfl | rfl | rfl
   all_goals simp [cellsI]
   all_goals first
    | omega
    | (repeat (first | rw [if_neg (by omega)] | rw [if_pos (by omega)]))
  ·rw [if_neg hj]
   repeat rw [if_neg (by omega)]
 rw [e]
 exact s5

theorem OwnP.other {w : World} {base g n cap : Nat} {qs : List B.Ins} (h : OwnP w base (some ⟨g, 0, none⟩) n cap qs) {a : Addr} (v : Value) (hne : g ≠ a.block) : OwnP (w.setCell a v) base (some ⟨g, 0, none⟩) n cap qs := by
 refine ⟨h.len, h.own.1, ?_⟩
 rcases h.own.2 with h2 | ⟨g', c, cur, e, hb, hh, h3⟩
 ·exact .inl h2
 ·refine .inr ⟨g', c, cur, e, hb, ?_, h3⟩
  injection e with e _ _
  cases e
  rw [blk_other v hne]
  exact hh

theorem infoK97 : (Tryz.prog.info? 97).map (fun i => (i.zero, i.size, i.bytes)) = some (some (.map none), 1, 8) := by kernel_rfl
/-- maps that are not there yet are made -/
theorem maps_made (w : World) (n : Nat) (hl : n ≤ 1000000) : ∃ C, (Instr.makeSlice 95 (.int .i64 ((n : Int) + 1)) (.int .i64 ((n : Int) + 1))).run Tryz.prog w = .ok (.slice (some ⟨w.heap.size, 0, none⟩) (n + 1) (n + 1)) (w.alloc (.cells C 97)) ∧
    C.size = n + 1 ∧ ∀ j, j < n + 1 → C[j]? = some (.map none) := by
 obtain ⟨i, hi, hz0, hz1, hz2⟩ := info_parts infoK97
 have hr := run_make (P := Tryz.prog) w 95 97 i _ Tryz.underlying95 hi hz0 .i64 .i64 ((n : Int) + 1) ((n : Int) + 1) (by omega) (by omega) (by rw [hz2]; omega) (by omega)
 rw [show ((n : Int) + 1).toNat = n + 1 by omega, hz1] at hr
 refine ⟨_, hr, by rw [size_madeCells, Nat.mul_one], fun j hj => ?_⟩
 have hs : (Value.map none).cells = #[.map none] := rfl
 rw [hs, madeCells, Array.getElem?_map, Array.getElem?_range, if_pos (by omega)]
 simp [Nat.mod_one]

/-- how far the reckoning has come: the instructions, the maps -/
structure FoldAt (len g c ab i : Nat) (s : B.Fs) (bs : Nat → Option Nat) (w wr : World) : Prop where
 own : OwnP wr w.heap.size (some ⟨g, 0, none⟩) len c s.q
 tab : CellsAt wr ab 97 (len + 1) (fun j => .map (bs j))
 there : ∀ j, j ≤ len → (bs j).isSome = (s.known j).isSome
 map : ∀ j b K, j ≤ len → bs j = some b → s.known j = some K → KnAt wr b i K ∧ w.heap.size ≤ b ∧ b ≠ g ∧ b ≠ ab
 inj : ∀ j j' b, j ≤ len → j' ≤ len → bs j = some b → bs j' = some b → j = j'
 bel : Below w.heap.size w wr
 hg : w.heap.size ≤ g
 hab : w.heap.size ≤ ab
 gab : g ≠ ab
 glt : g < wr.heap.size

/-- fold.Run answers a list of its own -/
def FoldOut (ps : List B.Ins) (len : Nat) (w : World) (e : Ending) (w' : World) : Prop := ∃ g c, e = .returned (.tuple #[.slice (some ⟨g, 0, none⟩) len c, .nilIface]) ∧ OwnP w' w.heap.size (some ⟨g, 0, none⟩) len c (B.fold ps) ∧ Below w.heap.size w w'

theorem FoldAt.start {len g c : Nat} {ps : List B.Ins} {w w2 : World} (hown : OwnP w2 w.heap.size (some ⟨g, 0, none⟩) len c ps) (hg : w.heap.size ≤ g) (hgl : g < w2.heap.size) (hb : Below w.heap.size w w2) {C : Array Value} (hC : C.size = len + 1) (hC' : ∀ j, j < len + 1 → C[j]? = some (.map none)) {A M : Nat} (hA : A = w2.heap.size) (hM : M = w2.heap.size + 1) :
    FoldAt len g c A 0 (B.foldN ps 0) (fun j => if j = 0 then some M else none) w ((w2.alloc (.cells (C.setIfInBounds 0 (.map (some M))) 97)).alloc (.map #[] 0)) := by
 subst hA hM
 obtain ⟨D, hD⟩ : ∃ D, C.setIfInBounds 0 (.map (some (w2.heap.size + 1))) = D := ⟨_, rfl⟩
 have hDs : D.size = len + 1 := by rw [← hD]; simpa using hC
 have hDc : ∀ j, j < D.size → D[j]? = some (.map (if j = 0 then some (w2.heap.size + 1) else none)) := fun j hj => by
  rw [← hD]
  by_cases e : j = 0
  ·subst e
   rw [Array.getElem?_setIfInBounds_self_of_lt (by omega)]
   simp
  ·rw [Array.getElem?_setIfInBounds_ne (Ne.symm e), hC' j (by omega), if_neg e]
 rw [hD]
 obtain ⟨v, hv⟩ : ∃ v, (w2.alloc (.cells D 97)).alloc (.map #[] 0) = v := ⟨_, rfl⟩
 have hz : (w2.alloc (.cells D 97)).heap.size = w2.heap.size + 1 := by simp
 have hbv : Below w2.heap.size w2 v := by rw [← hv]; exact ((Below.refl _ _).alloc (Nat.le_refl _) _).alloc (by simp) _
 have htab : CellsAt v w2.heap.size 97 (len + 1) (fun j => .map (if j = 0 then some (w2.heap.size + 1) else none)) := by
  rw [← hv]
  exact CellsAt.alloc (by have := CellsAt.new D 97 w2 _ hDc; rw [hDs] at this; exact this) _
 have hmap : KnAt v (w2.heap.size + 1) 0 (fun _ => none) := by
  rw [← hv, ← hz]
  exact KnAt.new _
 have hsz : w2.heap.size + 1 < v.heap.size := by rw [← hv]; simp
 rw [hv]
 refine ⟨hown.kept (hbv.mono (Nat.le_refl _)), htab, fun j _ => ?_, fun j b K _ hb' hk => ?_, fun j j' b _ _ h1 h2 => ?_, hb.trans (hbv.mono hb.size), hg, hb.size, by omega, by omega⟩
 ·by_cases e : j = 0 <;> simp [B.foldN, e]
 ·by_cases e : j = 0
  ·rw [if_pos e] at hb'
   cases hb'
   simp only [B.foldN, e, if_true] at hk
   cases hk
   exact ⟨hmap, by have := hb.size; omega, by omega, by omega⟩
  ·rw [if_neg e] at hb'; cases hb'
 ·by_cases e : j = 0
  ·by_cases e' : j' = 0
   ·omega
   ·rw [if_neg e'] at h2; cases h2
  ·rw [if_neg e] at h1; cases h1

theorem grown_below {w w' : World} {N : Nat} (h : Below N w w') (hN : w.heap.size ≤ N) (row : Option Nat) : w.grownBy w' row := ⟨h.os, h.tape, h.output, h.size, fun k hk _ => h.block k (Nat.lt_of_lt_of_le hk hN)⟩
theorem below_grown {w w' : World} {N b : Nat} (h : w.grownBy w' (some b)) (hN : N ≤ w.heap.size) (hb : N ≤ b) : Below N w w' := (Below.refl N w).grown h hN (fun k hk => by have := Option.some.inj hk; omega)

theorem OwnP.keep {w w' : World} {base g n cap : Nat} {qs : List B.Ins} (h : OwnP w base (some ⟨g, 0, none⟩) n cap qs) (he : w'.heap[g]? = w.heap[g]?) : OwnP w' base (some ⟨g, 0, none⟩) n cap qs := by
 refine ⟨h.len, h.own.1, ?_⟩
 rcases h.own.2 with h2 | ⟨g', c, cur, e, hb, hh, h3⟩
 ·exact .inl h2
 ·refine .inr ⟨g', c, cur, e, hb, ?_, h3⟩
  injection e with e _ _
  cases e
  exact he.trans hh

theorem FoldAt.below {len g c ab N : Nat} {s : B.Fs} {bs : Nat → Option Nat} {w wr wz : World} (h : FoldAt len g c ab N s bs w wr) (hb : Below wr.heap.size wr wz) : FoldAt len g c ab N s bs w wz :=
 ⟨OwnP.keep h.own (hb.block g h.glt), CellsAt.below h.tab hb (CellsAt.blk h.tab), h.there, fun j b K hj h1 h2 => let ⟨m, r⟩ := h.map j b K hj h1 h2; ⟨m.below hb (Nat.le_refl _), r⟩, h.inj, h.bel.trans (hb.mono h.bel.size), h.hg, h.hab, h.gab, Nat.lt_of_lt_of_le h.glt hb.size⟩

theorem FoldAt.mono {len g c ab N M : Nat} {s : B.Fs} {bs : Nat → Option Nat} {w wr : World} (h : FoldAt len g c ab N s bs w wr) (hM : N ≤ M) : FoldAt len g c ab M s bs w wr :=
 ⟨h.own, h.tab, h.there, fun j b K hj h1 h2 => let ⟨m, r⟩ := h.map j b K hj h1 h2; ⟨m.mono hM, r⟩, h.inj, h.bel, h.hg, h.hab, h.gab, h.glt⟩

/-- an instruction's better is written in its place -/
theorem FoldAt.put {len g c ab N i : Nat} {s : B.Fs} {bs : Nat → Option Nat} {w wr : World} (h : FoldAt len g c ab N s bs w wr) (hi : i < len) (y : B.Ins) : FoldAt len g c ab N ⟨s.q.set i y, s.known⟩ bs w (wr.setCells g (i * 5) (insF y).toList) := by
 have hg := grownBy_setCells g (insF y).toList (i * 5) wr
 exact ⟨OwnP.put h.own hi y, CellsAt.grown h.tab hg (Ne.symm h.gab), h.there, fun j b K hj h1 h2 => let ⟨m, r1, r2, r3⟩ := h.map j b K hj h1 h2; ⟨m.kept hg (fun e => r2 (Option.some.inj e)), r1, r2, r3⟩, h.inj, h.bel.grown hg h.bel.size (fun k hk => by have := Option.some.inj hk; have := h.hg; omega), h.hg, h.hab, h.gab, Nat.lt_of_lt_of_le h.glt hg.size⟩

/-- what two ways know is met, and written into its place -/
theorem FoldAt.meet {len g c ab N j x : Nat} {s : B.Fs} {bs : Nat → Option Nat} {w wr wz : World} {K : B.Kn} (h : FoldAt len g c ab N s bs w wr) (hj : j ≤ len) (hK : KnAt wz x N K) (hx : bs j = some x ∨ wr.heap.size ≤ x) (hg : wr.grownBy wz (some x)) :
    FoldAt len g c ab N ⟨s.q, B.updK s.known j K⟩ (fun m => if m = j then some x else bs m) w (wz.setCell ⟨ab, j, none⟩ (.map (some x))) := by
 have hxx : w.heap.size ≤ x ∧ x ≠ g ∧ x ≠ ab := by
  rcases hx with hx | hx
  ·obtain ⟨k, hk⟩ : ∃ k, s.known j = some k := by
     have := h.there j hj
     rw [hx] at this
     exact Option.isSome_iff_exists.1 this.symm
   exact (h.map j x k hj hx hk).2
  ·have h1 := h.bel.size
   have h2 := h.glt
   have h3 := CellsAt.blk h.tab
   omega
 have hset : wz.grownBy (wz.setCell ⟨ab, j, none⟩ (.map (some x))) (some ab) := grownBy_set wz ab j _
 have hoth : ∀ m y k, m ≤ len → m ≠ j → bs m = some y → s.known m = some k → y ≠ x := fun m y k hm hmj h1 h2 e => by
  rcases hx with hx | hx
  ·exact hmj (h.inj m j x hm hj (by rw [h1, e]) hx)
  ·have := (h.map m y k hm h1 h2).1.lt
   omega
 refine ⟨OwnP.other (OwnP.keep h.own (hg.block g h.glt (fun e => hxx.2.1 (Option.some.inj e).symm))) _ h.gab, CellsAt.congr (CellsAt.set (CellsAt.grown h.tab hg (fun e => hxx.2.2 e.symm)) j _) (fun m _ => by by_cases e : m = j <;> simp [e]), fun m hm => ?_, fun m b k hm h1 h2 => ?_, fun m m' b hm hm' h1 h2 => ?_, ?_, h.hg, h.hab, h.gab, ?_⟩
 ·unfold B.updK
  by_cases e : m = j
  ·simp [e]
  ·simp only [e, if_false]; exact h.there m hm
 ·simp only [B.updK] at h2
  by_cases e : m = j
  ·simp only [e, if_true] at h1 h2
   cases h1
   cases h2
   exact ⟨hK.kept hset (fun e => hxx.2.2 (Option.some.inj e)), hxx⟩
  ·simp only [e, if_false] at h1 h2
   obtain ⟨r0, r1, r2, r3⟩ := h.map m b k hm h1 h2
   exact ⟨(r0.kept hg (fun e' => hoth m b k hm e h1 h2 (Option.some.inj e'))).kept hset (fun e' => r3 (Option.some.inj e')), r1, r2, r3⟩
 ·have hsome : ∀ m, m ≤ len → m ≠ j → bs m ≠ some x := fun m hm hmj e => by
    have := h.there m hm
    rw [e] at this
    obtain ⟨k, hk⟩ := Option.isSome_iff_exists.1 this.symm
    exact hoth m x k hm hmj e hk rfl
  by_cases e : m = j
  ·by_cases e' : m' = j
   ·omega
   ·simp only [e, e', if_true, if_false] at h1 h2
    cases h1
    exact absurd h2 (hsome m' hm' e')
  ·by_cases e' : m' = j
   ·simp only [e, e', if_true, if_false] at h1 h2
    cases h2
    exact absurd h1 (hsome m hm e)
   ·simp only [e, e', if_false] at h1 h2
    exact h.inj m m' b hm hm' h1 h2
 ·exact (h.bel.grown hg h.bel.size (fun k hk => by have := Option.some.inj hk; omega)).setCell h.hab _
 ·have := hg.size
  have := h.glt
  have : g < wz.heap.size := by omega
  simpa using this

/-- the meeting at a place -/
theorem FoldAt.meets {len g c ab N j kb : Nat} {s : B.Fs} {bs : Nat → Option Nat} {w wr : World} {K' : B.Kn} (h : FoldAt len g c ab N s bs w wr) (hj : j ≤ len) (hK : KnAt wr kb N K') (hkb : bs j ≠ some kb) :
    Calls Tryz.prog 56 #[.map (bs j), .map (some kb)] wr (fun e wz => ∃ x, e = .returned (.map (some x)) ∧ KnAt wz x N (B.meetK (s.known j) K') ∧ (bs j = some x ∨ wr.heap.size ≤ x) ∧ wr.grownBy wz (some x) ∧ KnAt wz kb N K' ∧ kb ≠ x) := by
 have hth := h.there j hj
 have hlt := hK.lt
 cases hb : bs j with
 | none =>
  rw [hb] at hth
  have hk : s.known j = none := by
   cases hk : s.known j with
   | none => rfl
   | some k => rw [hk] at hth; cases hth
  rw [hk]
  refine (meet_nil kb N K' wr hK).mono ?_
  rintro e wz ⟨x, rfl, h1, h2, h3⟩
  exact ⟨x, rfl, h2, .inr h1, grown_below h3 (Nat.le_refl _) _, hK.below h3 (Nat.le_refl _), by omega⟩
 | some b =>
  rw [hb] at hth hkb
  obtain ⟨k, hk⟩ := Option.isSome_iff_exists.1 hth.symm
  rw [hk]
  have hne : kb ≠ b := fun e => hkb (by rw [e])
  refine (meet_some b N kb N k K' wr (h.map j b k hj hb hk).1 hK hne).mono ?_
  rintro e wz ⟨rfl, h1, h2⟩
  exact ⟨b, rfl, h1, .inl rfl, h2, hK.kept h2 (fun e => hne (Option.some.inj e)), hne⟩

theorem FoldAt.fresh {len g c ab N : Nat} {s : B.Fs} {bs : Nat → Option Nat} {w wr : World} (h : FoldAt len g c ab N s bs w wr) {kb : Nat} (hk : wr.heap.size ≤ kb) : ∀ m, m ≤ len → bs m ≠ some kb := fun m hm e => by
 have hth := h.there m hm
 rw [e] at hth
 obtain ⟨k, hk'⟩ := Option.isSome_iff_exists.1 hth.symm
 have := (h.map m kb k hm e hk').1.lt
 omega

end Code
end Go.Proofs.YtegjeincncccaaaGreatDoor
