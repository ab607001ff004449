/- Plain Lean: a signal of 64 bits, both ways of counting; as many branches as may be. -/
import Derived.Test.YtdpjbnjlognmeaaGreatDoorLyO
namespace Go.Proofs.YtdpjbnjlognmeaaGreatDoor.B

def wM (moto : Bool) (start : Int) : Msg := ⟨0, 0, 0, false, ⟨#[87]⟩, 8, ⟨#[65]⟩, [{ sigL ⟨#[119]⟩ 0 0 start 64 with moto := moto }]⟩
theorem w1_no : (wM false 0).no = (0, 0, 0) := by decide +kernel
theorem w2_no : (wM true 7).no = (0, 0, 0) := by decide +kernel
theorem w1_run : (run (wM false 0).packI [72623859790382856] 0 (start [1, 2, 3, 4, 5, 6, 7, 8] 1)).failed = none ∧ (run (wM false 0).packI [72623859790382856] 0 (start [1, 2, 3, 4, 5, 6, 7, 8] 1)).st.pay = [8, 7, 6, 5, 4, 3, 2, 1] := by decide +kernel
theorem w2_run : (run (wM true 7).packI [72623859790382856] 0 (start [1, 2, 3, 4, 5, 6, 7, 8] 1)).failed = none ∧ (run (wM true 7).packI [72623859790382856] 0 (start [1, 2, 3, 4, 5, 6, 7, 8] 1)).st.pay = [1, 2, 3, 4, 5, 6, 7, 8] := by decide +kernel

def manyB (i : Nat) : Sig := { sigL (turnName i) 2 (i : Int) 6 58 with signed := true }
def manyS (k : Nat) : List Sig := sigL ⟨#[120]⟩ 1 0 0 6 :: (List.range k).map manyB
def manyM (k : Nat) : Msg := ⟨0, 0, 0, false, ⟨#[86]⟩, 8, ⟨#[65]⟩, manyS k⟩
def manyV (k : Nat) : List Nat := 41 :: (List.range k).map fun i => 18446744073709551615 - i

theorem manyS_succ (k : Nat) : manyS (k + 1) = manyS k ++ [manyB k] := by
 unfold manyS
 rw [List.range_succ, List.map_append]
 rfl
theorem manyV_succ (k : Nat) : manyV (k + 1) = manyV k ++ [18446744073709551615 - k] := by
 unfold manyV
 rw [List.range_succ, List.map_append]
 rfl
theorem manyS_len (k : Nat) : (manyS k).length = k + 1 := by simp [manyS]
theorem manyV_len (k : Nat) : (manyV k).length = k + 1 := by simp [manyV]
theorem many_no : (manyM 63).no = (0, 0, 0) := by decide +kernel
def isOk : Except Nat (Nat → Bool) → Bool
 | .ok _ => true
 | .error _ => false
theorem many_fits : isOk (packTo (manyV 63) 41 0 (manyS 63) (fun _ => false)) = true := by decide +kernel
theorem many_mux : (manyM 63).muxV (manyV 63) = 41 := by decide +kernel

theorem many_run (h : (manyM 63).Ok) : ∃ s1 c1, run (manyM 63).packI (manyV 63) 0 (start [0, 0, 0, 0, 0, 0, 0, 0] 64) = ⟨none, s1, c1⟩ ∧ s1.pay.length = 8 ∧ Bytes s1.pay ∧
    ∀ inp2, ∃ s2 c2, run (manyM 63).unpackI inp2 0 (start s1.pay 64) = ⟨none, s2, c2⟩ ∧ s2.has = (manyM 63).actives 41 ∧ s2.out.length = 64 ∧ ∀ k, ((manyM 63).actives 41).getD k false = true → s2.out.getD k 0 = (manyV 63).getD k 0 := by
 have hl : (manyM 63).sigs.length = 64 := manyS_len 63
 have hp : ([0, 0, 0, 0, 0, 0, 0, 0] : List Nat).length = (manyM 63).size.toNat := rfl
 have hb : Bytes [0, 0, 0, 0, 0, 0, 0, 0] := by unfold Bytes; decide
 have hbr := back_run h (inp := manyV 63) hp hb
 rw [hl, many_mux] at hbr
 rcases hbr with ⟨k, hk, _⟩ | ⟨s1, c1, e1, l1, b1, h1⟩
 ·have hr := pack_run h.lays (inp := manyV 63) hp hb 64
  rw [many_mux] at hr
  have hf := many_fits
  cases hpk : packTo (manyV 63) 41 0 (manyM 63).sigs (fun _ => false) with
  | error k => rw [show (manyM 63).sigs = manyS 63 from rfl] at hpk; rw [hpk] at hf; cases hf
  | ok f =>
   rw [hpk] at hr
   obtain ⟨s', n, e, _⟩ := hr
   rw [e] at hk
   cases hk
 ·exact ⟨s1, c1, e1, l1, b1, h1⟩

end Go.Proofs.YtdpjbnjlognmeaaGreatDoor.B
