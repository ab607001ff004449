/- busbarlaw13: an instruction with its registers named otherwise; which errors a program has. -/
import Derived.Test.YthafeadfpfibkaaGreatDoorMore2
namespace Go.Proofs.YthafeadfpfibkaaGreatDoor
open Go.RowKit

namespace Code

attribute [local go_sem ↓] Go.wp_at_zero Go.wp_at_succ

def renF (k r : Int) : Int := (r * 5 + k) % 16

theorem renF_ok {k : Int} (_h0 : 0 ≤ k) (_h1 : k < 16) : B.Renames (renF k) :=
  ⟨fun r _ _ => by unfold renF; omega, fun r _ _ => by unfold renF; omega, fun r s _ _ _ _ h => by unfold renF at h; omega⟩

/-- an instruction's values -/
def insV (x : B.Ins) : Value := .agg #[.int .i64 x.op, .int .i64 x.a, .int .i64 x.b, .int .i64 x.n, .int .u64 x.imm]

/-- it is answered with its registers named otherwise -/
def NamedOut (x : B.Ins) (k : Int) (w : World) (e : Ending) (w' : World) : Prop := e = .returned (insV (x.ren (renF k))) ∧ Below w.heap.size w w'

theorem ret_agg5 {o a b n m o' a' b' n' m' : Int} (h : (⟨o, a, b, n, m⟩ : B.Ins) = ⟨o', a', b', n', m'⟩) : Ending.returned (.agg #[.int .i64 o, .int .i64 a, .int .i64 b, .int .i64 n, .int .u64 m]) = .returned (insV ⟨o', a', b', n', m'⟩) := by
  cases h; rfl

set_option maxRecDepth 100000 in
set_option maxHeartbeats 3200000 in
theorem named_any (x : B.Ins) (k : Int) (hr : x.right = true) (hk0 : 0 ≤ k) (hk1 : k < 16) (w : World) :
    Calls Tryz.prog 32 #[.agg #[.int .i64 x.op, .int .i64 x.a, .int .i64 x.b, .int .i64 x.n, .int .u64 x.imm], .int .i64 k] w (NamedOut x k w) := by
  have hb := B.right_bounds hr
  obtain ⟨o, a, b, n, m⟩ := x
  obtain ⟨⟨o0, o1⟩, ⟨a0, a1⟩, ⟨b0, b1⟩, _⟩ := hb
  simp only at o0 o1 a0 a1 b0 b1
  have hwa : IntKind.i64.wrap (a * 5) = a * 5 := IntWalk.i64_in _ (by omega)
  have hwa2 : IntKind.i64.wrap (a * 5 + k) = a * 5 + k := IntWalk.i64_in _ (by omega)
  have hta : (a * 5 + k).tmod 16 = renF k a := by rw [Int.tmod_eq_emod_of_nonneg (by omega)]; rfl
  have hwa3 : IntKind.i64.wrap (renF k a) = renF k a := IntWalk.i64_in _ (by unfold renF; omega)
  have hwb : IntKind.i64.wrap (b * 5) = b * 5 := IntWalk.i64_in _ (by omega)
  have hwb2 : IntKind.i64.wrap (b * 5 + k) = b * 5 + k := IntWalk.i64_in _ (by omega)
  have htb : (b * 5 + k).tmod 16 = renF k b := by rw [Int.tmod_eq_emod_of_nonneg (by omega)]; rfl
  have hwb3 : IntKind.i64.wrap (renF k b) = renF k b := IntWalk.i64_in _ (by unfold renF; omega)
  by_cases h0 : o = 0 ∨ o = 18
  · have hren : B.Ins.ren (renF k) ⟨o, a, b, n, m⟩ = ⟨o, a, b, n, m⟩ := by unfold B.Ins.ren; rw [if_pos h0]
    have HREN := Lib.hid hren
    clear hren hr
    rcases h0 with rfl | rfl
    · go_enter Tryz.func32, Tryz.ntmps32
      go_wp2_with fail
      exact bodyPost_ret (v := .agg #[.int .i64 0, .int .i64 (a), .int .i64 (b), .int .i64 n, .int .u64 m]) (by simp [results, Tryz.results32, go_sem]) rfl ⟨by rw [HREN.out]; rfl, (((Below.refl _ _).alloc (Nat.le_refl _) _).alloc (by simp) _).alloc (by simp; omega) _⟩
    · go_enter Tryz.func32, Tryz.ntmps32
      go_wp2_with fail
      exact bodyPost_ret (v := .agg #[.int .i64 18, .int .i64 (a), .int .i64 (b), .int .i64 n, .int .u64 m]) (by simp [results, Tryz.results32, go_sem]) rfl ⟨by rw [HREN.out]; rfl, (((Below.refl _ _).alloc (Nat.le_refl _) _).alloc (by simp) _).alloc (by simp; omega) _⟩
  · have hren : B.Ins.ren (renF k) ⟨o, a, b, n, m⟩ = ⟨o, renF k a, if 2 ≤ o ∧ o ≤ 5 then renF k b else b, n, m⟩ := by unfold B.Ins.ren; rw [if_neg h0]
    have q0 : (o == 0) = false := by simp; omega
    have q18 : (o == 18) = false := by simp; omega
    have HREN := Lib.hid hren
    clear hren hr
    by_cases h2 : 2 ≤ o ∧ o ≤ 5
    · rw [if_pos h2] at HREN
      have h25 : o = 2 ∨ o = 3 ∨ o = 4 ∨ o = 5 := by omega
      clear h2 h0
      rcases h25 with rfl | rfl | rfl | rfl
      · go_enter Tryz.func32, Tryz.ntmps32
        go_wp2_with fail
        exact bodyPost_ret (v := .agg #[.int .i64 2, .int .i64 (renF k a), .int .i64 (renF k b), .int .i64 n, .int .u64 m]) (by simp [results, Tryz.results32, go_sem]) rfl ⟨by rw [HREN.out]; rfl, (((Below.refl _ _).alloc (Nat.le_refl _) _).alloc (by simp) _).alloc (by simp; omega) _⟩
      · go_enter Tryz.func32, Tryz.ntmps32
        go_wp2_with fail
        exact bodyPost_ret (v := .agg #[.int .i64 3, .int .i64 (renF k a), .int .i64 (renF k b), .int .i64 n, .int .u64 m]) (by simp [results, Tryz.results32, go_sem]) rfl ⟨by rw [HREN.out]; rfl, (((Below.refl _ _).alloc (Nat.le_refl _) _).alloc (by simp) _).alloc (by simp; omega) _⟩
      · go_enter Tryz.func32, Tryz.ntmps32
        go_wp2_with fail
        exact bodyPost_ret (v := .agg #[.int .i64 4, .int .i64 (renF k a), .int .i64 (renF k b), .int .i64 n, .int .u64 m]) (by simp [results, Tryz.results32, go_sem]) rfl ⟨by rw [HREN.out]; rfl, (((Below.refl _ _).alloc (Nat.le_refl _) _).alloc (by simp) _).alloc (by simp; omega) _⟩
      · go_enter Tryz.func32, Tryz.ntmps32
        go_wp2_with fail
        exact bodyPost_ret (v := .agg #[.int .i64 5, .int .i64 (renF k a), .int .i64 (renF k b), .int .i64 n, .int .u64 m]) (by simp [results, Tryz.results32, go_sem]) rfl ⟨by rw [HREN.out]; rfl, (((Below.refl _ _).alloc (Nat.le_refl _) _).alloc (by simp) _).alloc (by simp; omega) _⟩
    · rw [if_neg h2] at HREN
      have q2 : (o == 2) = false := by simp; omega
      have q3 : (o == 3) = false := by simp; omega
      have q4 : (o == 4) = false := by simp; omega
      have q5 : (o == 5) = false := by simp; omega
      clear h2 h0
      go_enter Tryz.func32, Tryz.ntmps32
      go_wp2_with fail
      exact bodyPost_ret (v := .agg #[.int .i64 o, .int .i64 (renF k a), .int .i64 (b), .int .i64 n, .int .u64 m]) (by simp [results, Tryz.results32, go_sem]) rfl ⟨by rw [HREN.out]; rfl, (((Below.refl _ _).alloc (Nat.le_refl _) _).alloc (by simp) _).alloc (by simp; omega) _⟩

theorem firstTouch_val {size slots : Int} {len : Nat} : ∀ (l : List B.Ins) (i : Nat) (e : Int) (j : Nat), B.firstTouch size slots len i l = some (e, j) → (e = 20 ∨ e = 16 ∨ e = 18) ∧ i ≤ j ∧ j < i + l.length
  | [], i, e, j, h => by simp [B.firstTouch] at h
  | x :: r, i, e, j, h => by
    rw [firstTouch_step] at h
    split at h
    · simp at h
      obtain ⟨rfl, rfl⟩ := h
      exact ⟨.inl rfl, by omega, by simp⟩
    · split at h
      · rename_i hne
        simp at h
        obtain ⟨h1, rfl⟩ := h
        refine ⟨.inr ?_, by omega, by simp⟩
        rw [← h1]
        revert hne
        unfold B.Ins.touch
        repeat' split
        all_goals simp
      · have := firstTouch_val r _ _ _ h
        simp only [List.length_cons]
        omega

theorem er_cases (ps : List B.Ins) (size slots : Int) :
    ((progEr ps size slots).num = 1 ∨ (progEr ps size slots).num = 5 ∨ (progEr ps size slots).num = 20) ∨ (∃ n i : Nat, progEr ps size slots = .fault n (i : Int) ∧ (n = 16 ∨ n = 18) ∧ i < ps.length) ∨
      (B.OkTouch ps size slots ∧ (progEr ps size slots = .nil ∨ ∃ i : Nat, progEr ps size slots = .fault 21 (i : Int))) := by
  unfold progEr B.program
  split
  · exact .inl (.inl rfl)
  · split
    · exact .inl (.inr (.inl rfl))
    · cases h : B.firstTouch size slots ps.length 0 ps with
      | some p =>
        obtain ⟨e, j⟩ := p
        obtain ⟨he, _, hj⟩ := firstTouch_val _ _ _ _ h
        rcases he with rfl | rfl | rfl
        · exact .inl (.inr (.inr rfl))
        · exact .inr (.inl ⟨16, j, rfl, .inl rfl, by omega⟩)
        · exact .inr (.inl ⟨18, j, rfl, .inr rfl, by omega⟩)
      | none =>
        refine .inr (.inr ⟨(B.okTouch_iff ps size slots).1 h, ?_⟩)
        cases hr : B.firstRead ps with
        | none => exact .inl rfl
        | some k => exact .inr ⟨k, rfl⟩

theorem progEr_ren {k : Int} (h0 : 0 ≤ k) (h1 : k < 16) {ps : List B.Ins} {size slots : Int} (ok : B.OkTouch ps size slots) : progEr (ps.map (B.Ins.ren (renF k))) size slots = progEr ps size slots := by
  unfold progEr
  rw [B.program_ren (renF_ok h0 h1) ok]

theorem ren_wf {k : Int} (h0 : 0 ≤ k) (h1 : k < 16) {x : B.Ins} (hr : x.right = true) : (x.ren (renF k)).Wf := by
  have hb := B.right_bounds hr
  have hf := renF_ok h0 h1
  have l1 := hf.low x.a
  have l2 := hf.high x.a
  have e1 : -9223372036854775808 ≤ renF k x.b ∧ renF k x.b ≤ 9223372036854775807 := by unfold renF; omega
  unfold B.Ins.ren
  split
  · refine ⟨⟨?_, ?_⟩, ⟨?_, ?_⟩, ⟨?_, ?_⟩, ⟨?_, ?_⟩, ⟨?_, ?_⟩⟩ <;> omega
  · refine ⟨⟨?_, ?_⟩, ⟨?_, ?_⟩, ?_, ⟨?_, ?_⟩, ⟨?_, ?_⟩⟩
    all_goals first | (show B.In64 (if _ then _ else _); split; exact e1; exact ⟨by omega, by omega⟩) | (simp only; omega)

end Code
end Go.Proofs.YthafeadfpfibkaaGreatDoor
