/- Instructions behind instructions; what a nil slice is; an instruction in a block of its own. -/
/- Instructions in blocks of their own; what numbers a program's error has. -/
import Derived.Test.YtdpjbnjlognmeaaGreatDoorErrQ
import Derived.Test.YtdpjbnjlognmeaaGreatDoorOpen
import Derived.Laws.AppendOwnNone
namespace Go.Proofs.YtdpjbnjlognmeaaGreatDoor
open Go.RowKit

theorem open_nil {H : Type} {enc : TypeId × Value → H} {w : World} {held : Bool} {fuel : Nat} {a : Option Addr} {len cap : Nat} {d : DataW H} {p : List MemPlace} (h : DataW.trod enc Tryz.prog w 0 (fun _ => true) held fuel 78 [.slice a len cap] = some (d, p)) : a = none → cap = 0 := by
 rcases Deep.open_slice Tryz.underlying78 h with ⟨hcs, hx⟩ | ⟨ad, len', cap', m, n, D, Pl, hcs, _⟩
 ·simp only [List.cons.injEq, and_true, Value.slice.injEq] at hcs
  obtain ⟨rfl, rfl, rfl⟩ := hcs
  exact fun _ => rfl
 ·simp only [List.cons.injEq, and_true, Value.slice.injEq] at hcs
  obtain ⟨rfl, rfl, rfl⟩ := hcs
  intro h
  cases h

theorem cellsI_one (x : B.Ins) : ∀ u ∈ cellsI x, u.oneCell' = true := by
 intro u hu
 simp [cellsI] at hu
 rcases hu with rfl | rfl | rfl | rfl | rfl <;> rfl

theorem cellsP_ones (ps : List B.Ins) : ∀ u ∈ cellsP ps, u.oneCell' = true := by
 intro u hu
 unfold cellsP at hu
 rw [List.mem_flatMap] at hu
 obtain ⟨x, _, hx⟩ := hu
 exact cellsI_one x u hx

theorem ProgAt.news {w : World} {ad : Addr} {m : Nat} {ps : List B.Ins} (h : ProgAt w (some ad) m ps) : ∀ j u, (cellsP ps)[j]? = some u → w.cell? (ad.add j) = some u := by
 intro j u hu
 have hj : j < ps.length * 5 := by have := (List.getElem?_eq_some_iff.1 hu).1; rw [cellsP_length] at this; exact this
 obtain ⟨i, r, hr, rfl⟩ : ∃ i r, r < 5 ∧ j = i * 5 + r := ⟨j / 5, j % 5, Nat.mod_lt _ (by omega), by omega⟩
 have hi : i < ps.length := by omega
 have hx : ps[i]? = some ps[i] := List.getElem?_eq_getElem _
 rw [cellsP_get ps i _ hx r hr] at hu
 obtain ⟨b, off, e, _, hat⟩ := h.at_ i _ hx
 simp only [Option.some.injEq] at e
 subst e
 obtain ⟨h0, h1, h2, h3, h4⟩ := hat
 have e : (⟨b, off, none⟩ : Addr).add (i * 5 + r) = ⟨b, off + (i * 5 + r), none⟩ := by unfold Addr.add; split <;> simp_all
 rw [e, ← Nat.add_assoc]
 have : r = 0 ∨ r = 1 ∨ r = 2 ∨ r = 3 ∨ r = 4 := by omega
 rcases this with rfl | rfl | rfl | rfl | rfl <;> simp [cellsI] at hu <;> subst hu <;> assumption

theorem ProgAt.none_nil {w : World} {m : Nat} {ps : List B.Ins} (h : ProgAt w none m ps) : ps = [] ∧ m = 0 := by
 cases ps with
 | nil => exact ⟨rfl, h.len⟩
 | cons x l =>
  obtain ⟨b, off, e, _⟩ := h.at_ 0 x rfl
  cases e

/-- a list of instructions behind a list of the call's own -/
theorem app_more {ops : Array Oper} {rest : List Oper} {o : Oper} {a : Act} {Q : Exit → Act → World → Prop} {w : World} (hgd : o.guard = none) (s x : Operand)
    (ho : o.op = .call { callee := .builtin .append, args := #[s, x], argTypes := #[78, 78] })
    (base : Nat) {ao : Option Addr} {n cap : Nat} {qs : List B.Ins} (hs : a.eval s = .slice ao n cap) (hown : OwnP w base ao n cap qs)
    {a2 : Option Addr} {m c2 : Nat} {ps : List B.Ins} (hx : a.eval x = .slice a2 m c2) (hp : ProgAt w a2 m ps) (hnil : a2 = none → c2 = 0) (hbytes : (n + m) * 40 ≤ 140737488355328) (hbase : base ≤ w.heap.size)
    (h : ∀ ao' cap' w', OwnP w' base ao' (n + m) cap' (qs ++ ps) → Below base w w' → w.heap.size ≤ w'.heap.size → wpList Tryz.prog ops Q rest (a.put o.dst (.slice ao' (n + m) cap')) w') :
    wpList Tryz.prog ops Q (o :: rest) a w := by
 obtain ⟨i, hi, hz0, hz1, hz2⟩ := info_parts info105
 have hlt := hown.own.lt
 cases a2 with
 | none =>
  obtain ⟨rfl, rfl⟩ := hp.none_nil
  obtain rfl := hnil rfl
  refine wpList_append_own_none hgd s x 78 ho base 105 i 5 Tryz.underlying78 hi _ n (cellsP qs) hs hown.own hx ?_
  exact h ao cap w (by rw [List.append_nil]; exact hown) (Below.refl _ _) (Nat.le_refl _)
 | some ad =>
  refine wpList_append_own _ hgd s x 78 ho base 105 i _ 5 40 Tryz.underlying78 hi hz0 hz1 hz2 rfl (by decide) _ n (cellsP qs) hs hown.own ad m c2 (cellsP ps) hx (by rw [cellsP_length, hp.len]) hp.news (cellsP_ones ps) (by simp only [maxLen]; omega) hbytes hbase ?_
  intro v' w' hown' hg hv
  have hb : Below base w w' := (Below.refl base w).grown hg hbase (fun k hk => (hlt k hk).1)
  have hsz : w.heap.size ≤ w'.heap.size := hb.size
  have hlen : n + m = (qs ++ ps).length := by rw [List.length_append, hown.len, hp.len]
  rcases hown'.2 with ⟨hv0, hn⟩ | ⟨g, cap', cur, rfl, rest'⟩
  ·subst hv0
   have hm : n + m = 0 := hn
   have e := h none 0 w' ⟨hlen, by rw [cellsP_append, hm]; rw [hm] at hown'; exact hown'⟩ hb hsz
   rw [hm] at e
   exact e
  ·exact h _ _ _ ⟨hlen, by rw [cellsP_append]; exact hown'⟩ hb hsz

theorem insAt_new (x : B.Ins) (w : World) : InsAt (w.alloc (.cells #[.int .i64 x.op, .int .i64 x.a, .int .i64 x.b, .int .i64 x.n, .int .u64 x.imm] 105)) w.heap.size 0 x := by
 have hb := heap_alloc_new w (.cells #[.int .i64 x.op, .int .i64 x.a, .int .i64 x.b, .int .i64 x.n, .int .u64 x.imm] 105)
 exact ⟨cell_of_row _ _ _ _ _ _ hb, cell_of_row _ _ _ _ _ _ hb, cell_of_row _ _ _ _ _ _ hb, cell_of_row _ _ _ _ _ _ hb, cell_of_row _ _ _ _ _ _ hb⟩

end Go.Proofs.YtdpjbnjlognmeaaGreatDoor

namespace Go.Proofs.YtdpjbnjlognmeaaGreatDoor
open Go.RowKit

theorem one_at (x : B.Ins) (w : World) : ProgAt (w.alloc (.cells #[.int .i64 x.op, .int .i64 x.a, .int .i64 x.b, .int .i64 x.n, .int .u64 x.imm] 105)) (some ⟨w.heap.size, 0, none⟩) 1 [x] :=
 Code.progAt_new [x] _ 1 105 w rfl rfl

theorem two_at (x : B.Ins) (w : World) : ProgAt ((w.alloc (.cells #[.int .i64 x.op, .int .i64 x.a, .int .i64 x.b, .int .i64 x.n, .int .u64 x.imm] 105)).alloc (.cells #[.int .i64 x.op, .int .i64 x.a, .int .i64 x.b, .int .i64 x.n, .int .u64 x.imm] 105)) (some ⟨w.heap.size + 1, 0, none⟩) 1 [x] := by
 have h := one_at x (w.alloc (.cells #[.int .i64 x.op, .int .i64 x.a, .int .i64 x.b, .int .i64 x.n, .int .u64 x.imm] 105))
 rw [show (w.alloc (.cells #[.int .i64 x.op, .int .i64 x.a, .int .i64 x.b, .int .i64 x.n, .int .u64 x.imm] 105)).heap.size = w.heap.size + 1 by simp] at h
 exact h

namespace Code

theorem progEr_num (ps : List B.Ins) (size slots : Int) : ((progEr ps size slots).num : Int) = (B.program ps size slots).1 := by
 have h := program_range ps size slots
 unfold progEr erOf
 generalize B.program ps size slots = r at h ⊢
 obtain ⟨n, o⟩ := r
 simp only at h ⊢
 by_cases h0 : n = 0
 ·rw [if_pos h0, h0]; rfl
 ·rw [if_neg h0]
  cases o with
  | none => simp only [Er.num]; omega
  | some i => simp only [Er.num]; omega

end Code
end Go.Proofs.YtdpjbnjlognmeaaGreatDoor
