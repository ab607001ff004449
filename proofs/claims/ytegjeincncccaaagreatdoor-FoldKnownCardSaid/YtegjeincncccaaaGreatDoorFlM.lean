/- A map of registers that are known. -/
import Derived.Test.YtegjeincncccaaaGreatDoorFlP
import Derived.Test.YtegjeincncccaaaGreatDoorBase2
import Derived.WalkKit
import Derived.Shelf.Lay
import Derived.Shelf.SlMaps.Clone
import Derived.Shelf.SlMaps.DeleteFunc
import Derived.Maps.OwnSet
namespace Go.Proofs
open Go.Shelf
shelf_lay_g SlLaysW.n5 Slmc 5 at Tryz 105 as Tryz.cloneKn
shelf_lay_g SlLaysDf.n5 Slmd 5 at Tryz 107 as Tryz.delKn
end Go.Proofs
namespace Go.Proofs.YtegjeincncccaaaGreatDoor
open Go.RowKit Go.Maps

namespace Code

theorem keyInt : Keyed Tryz.prog 3 := int_keyed Tryz.underlying3

/-- what a register is known to be, in a map's words -/
def KnD (D : DataW Unit) (K : B.Kn) : Prop := ∀ (r : Int) (z : DataW Unit), D.atKey (.int .i64 r) z = match K r with | some v => .lit (.int .u64 (v : Int)) | none => z

/-- block b is a map of at most n entries: these registers are known -/
def KnAt (w : World) (b n : Nat) (K : B.Kn) : Prop :=
 ∃ D, w.ownsMap Tryz.prog 3 (plainElem Tryz.prog 22) b n D ∧ KnD D K

theorem KnAt.lt {w : World} {b n : Nat} {K : B.Kn} (h : KnAt w b n K) : b < w.heap.size := by
 obtain ⟨D, h, _⟩ := h
 exact h.lt
theorem KnAt.kept {w w' : World} {b n : Nat} {K : B.Kn} {row : Option Nat} (h : KnAt w b n K) (hg : w.grownBy w' row) (hne : some b ≠ row) : KnAt w' b n K := by
 obtain ⟨D, h, hd⟩ := h
 exact ⟨D, h.kept hg hne, hd⟩
theorem KnAt.mono {w : World} {b n n' : Nat} {K : B.Kn} (h : KnAt w b n K) (hn : n ≤ n') : KnAt w b n' K := by
 obtain ⟨D, h, hd⟩ := h
 exact ⟨D, h.mono hn, hd⟩
theorem KnAt.new (w : World) : KnAt (w.alloc (.map #[] 0)) w.heap.size 0 (fun _ => none) :=
 ⟨.map [], World.ownsMap_made w _ _ _, fun _ _ => rfl⟩

theorem KnD.has {D : DataW Unit} {K : B.Kn} (h : KnD D K) (r : Int) : Maps.has D (.int .i64 r) = (K r).isSome := by
 cases hk : K r with
 | none => exact Maps.has_false_of_atKey (fun z => by rw [h r z, hk])
 | some v => exact Maps.has_true_of_atKey (y := .lit (.int .u64 (v : Int))) (fun z => by rw [h r z, hk])

theorem wf_i64 {r : Int} (h : B.In64 r) : (Lit.int .i64 r).wf = true := by
 show (decide ((-9223372036854775808 : Int) ≤ r) && decide (r ≤ (9223372036854775807 : Int))) = true
 simp
 exact h
theorem wf_u64 {r : Int} (h : B.InU64 r) : (Lit.int .u64 r).wf = true := by
 show (decide ((0 : Int) ≤ r) && decide (r ≤ (18446744073709551615 : Int))) = true
 simp
 exact h
theorem key_int {r : Int} (h : B.In64 r) : keyOf Tryz.prog 3 (.int .i64 r) = some (.int .i64 r) := keyOf_int_mk Tryz.underlying3 (wf_i64 h)

/-- a register is looked up -/
theorem KnAt.look {w : World} {b n : Nat} {K : B.Kn} (h : KnAt w b n K) (r : Int) (hr : B.In64 r) :
    (Instr.lookup 97 (.map (some b)) (.int .i64 r) true).run Tryz.prog w = .ok (.tuple #[.int .u64 (((K r).getD 0 : Nat) : Int), .bool (K r).isSome]) w := by
 obtain ⟨D, ho, hd⟩ := h
 obtain ⟨v, ps, hrun, hv⟩ := ho.look_ok (e := 22) keyInt Tryz.underlying97 (z := .int .u64 0) (by kernel_rfl) (zd := .lit (.int .u64 0)) (zp := []) (plainElem_int Tryz.underlying22 (by decide)) (key_int hr)
 obtain ⟨c, rfl, hc, _⟩ := plainElem_int_inv Tryz.underlying22 hv
 rw [hrun, hd.has r]
 have h1 := congrArg Prod.fst hc
 simp only at h1
 rw [hd r] at h1
 cases hk : K r with
 | none => rw [hk] at h1; simp at h1; simp [h1]
 | some x => rw [hk] at h1; simp at h1; simp [h1]

def setK (K : B.Kn) (r : Int) (v : Nat) : B.Kn := fun j => if j = r then some v else K j
def delK (K : B.Kn) (r : Int) : B.Kn := fun j => if j = r then none else K j

theorem KnD.put {D : DataW Unit} {K : B.Kn} (h : KnD D K) (hm : IsMap D) (r : Int) (v : Nat) : KnD (D.put (.int .i64 r) (.lit (.int .u64 (v : Int)))) (setK K r v) := by
 intro j z
 unfold setK
 by_cases e : j = r
 ·subst e
  rw [if_pos rfl]
  exact Maps.atKey_put_same hm (show WideAt.IsKeyLit (.int .i64 j) from trivial) _ z
 ·rw [if_neg e, Maps.atKey_put_other (by simp [e])]
  exact h j z
theorem KnD.del {D : DataW Unit} {K : B.Kn} (h : KnD D K) (r : Int) : KnD (D.del (.int .i64 r)) (delK K r) := by
 intro j z
 unfold delK
 by_cases e : j = r
 ·subst e
  rw [if_pos rfl]
  exact Maps.atKey_del_same z
 ·rw [if_neg e, Maps.atKey_del_other (by simp [e])]
  exact h j z

/-- does another map not know the same? -/
def strikes (K : B.Kn) (kl : Lit) (d : DataW Unit) : Bool := match kl, d with
 | .int _ r, .lit (.int _ v) => !decide (K r = some v.toNat)
 | _, _ => false

theorem KnD.meet {D : DataW Unit} {K : B.Kn} (h : KnD D K) (ht : Tidy D) (K2 : B.Kn) : KnD (Lib.deleteFuncD (strikes K2) D) (B.meetK (some K) K2) := by
 obtain ⟨es, rfl, hap⟩ := ht
 intro r z
 have hkl : WideAt.IsKeyLit (.int .i64 r) := trivial
 show (DataW.map (es.filter fun p => !strikes K2 p.1 p.2)).atKey (.int .i64 r) z = _
 have hs := h.has r
 unfold B.meetK
 simp only
 have hat : ∀ p ∈ es, p.1 = .int .i64 r → ∀ y, K r = some y → p.2 = .lit (.int .u64 (y : Int)) := fun p hp e y hy => by
  have h1 := WideAt.atKey_mem (d := p.2) .nil hkl hap (by rw [← e]; exact hp)
  rw [← h1, h r .nil, hy]
 cases hk : K r with
 | none =>
  have hno : ∀ p ∈ es, p.1 ≠ .int .i64 r := fun p hp e => by
   rw [hk, Maps.has_eq] at hs
   have : es.any (fun p => p.1.sameKey (.int .i64 r)) = true := List.any_eq_true.2 ⟨p, hp, by rw [e]; exact WideAt.sameKey_self hkl⟩
   rw [this] at hs
   cases hs
  rw [WideAt.atKey_none z (fun p hp => hno p (List.mem_filter.1 hp).1)]
  rw [ite_self]
 | some y =>
  rw [hk, Maps.has_eq] at hs
  obtain ⟨p, hp, hpk⟩ := List.any_eq_true.1 hs
  have e := (WideAt.sameKey_iff hkl).1 hpk
  have hd := hat p hp e y hk
  by_cases h2 : K2 r = some y
  ·rw [if_pos h2.symm]
   show _ = DataW.lit (.int .u64 (y : Int))
   refine WideAt.atKey_mem z hkl (hap.filter _) (List.mem_filter.2 ⟨by rw [← e, ← hd]; exact hp, ?_⟩)
   simp [strikes, h2]
  ·rw [if_neg (fun e => h2 e.symm)]
   refine WideAt.atKey_none z (fun p' hp' e' => ?_)
   obtain ⟨hm, hq⟩ := List.mem_filter.1 hp'
   have hd' := hat p' hm e' y hk
   rw [e', hd'] at hq
   simp [strikes, h2] at hq

/-- .. laid, struck, cloned -/
theorem KnAt.clone {w : World} {b n : Nat} {K : B.Kn} (h : KnAt w b n K) :
    Calls Tryz.prog 105 #[.map (some b)] w (fun e w' => e = .returned (.map (some w.heap.size)) ∧ KnAt w' w.heap.size n K ∧ Below w.heap.size w w') := by
 obtain ⟨D, ho, hd⟩ := h
 refine (AnyW.maps_Clone_owns Tryz.cloneKn 3 (plainElem Tryz.prog 22) b n D w ho).mono ?_
 rintro e w' ⟨rfl, h1, _, hb⟩
 exact ⟨rfl, ⟨D, h1, hd⟩, hb⟩

end Code
end Go.Proofs.YtegjeincncccaaaGreatDoor
