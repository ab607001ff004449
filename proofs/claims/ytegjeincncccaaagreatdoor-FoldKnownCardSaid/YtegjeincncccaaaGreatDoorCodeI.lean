/- Package code: an operation's fields are looked up and made. -/
import Derived.Test.YtegjeincncccaaaGreatDoorCodeF2
import Derived.Test.YtegjeincncccaaaGreatDoorCodeH
namespace Go.Proofs.YtegjeincncccaaaGreatDoor
open Go.RowKit

namespace Code

attribute [local go_sem ↓] Go.wp_at_zero Go.wp_at_succ

/-- fields are answered -/
def FieldsOut (o : Int) (w : World) (e : Ending) (w' : World) : Prop :=
 ∃ ao n cap, e = .returned (.tuple #[.slice ao n cap, .bool true]) ∧ FieldsAt w' ao n (fieldsOf o) ∧ Below w.heap.size w w'

/-- what a method of the table makes -/
structure Makes (f : Nat) (T : Value) (fks : List FK) : Prop where
 enters : ∀ (args : Array Value) (w : World), (callFunc f args).run Tryz.prog w = .ok (.enter f args) w
 call : ∀ w, TableAt w T → Calls Tryz.prog f #[T] w fun e w' => ∃ ao n cap, e = .returned (.slice ao n cap) ∧ FieldsAt w' ao n fks ∧ Below w.heap.size w w'

theorem of_via (o : Int) (f : Nat) (T : Value) (b : Nat) (w : World) (hm : MapIs w b (tabL T)) (hT : TableAt w T) (hk : (tabL T).find? (fun p => p.1 == o) = some (o, meth f T)) (hf : Makes f T (fieldsOf o)) :
    Calls Tryz.prog 187 #[.map (some b), .int .i64 o] w (FieldsOut o w) := by
 have hl := run_lookup hm o (meth f T) hk
 have hen := hf.enters
 have HF := Lib.hid hf
 have HT := Lib.hid hT
 unfold meth at hl
 clear hm hT hk hf
 go_enter Tryz.func187, Tryz.ntmps187
 go_wp2_with fail
 refine (HF.out.call _ HT.out).mono ?_
 rintro e w1 ⟨ao, n, cap, rfl, hfs, hb⟩
 go_wp2
 go_ret2
 exact ⟨_, _, _, rfl, hfs, hb⟩

/-- there is no such operation -/
theorem of_none (o : Int) (T : Value) (b : Nat) (w : World) (hm : MapIs w b (tabL T)) (ho : B.isOp o = false) :
    Calls Tryz.prog 187 #[.map (some b), .int .i64 o] w fun e w' => e = .returned (.tuple #[.slice none 0 0, .bool false]) ∧ w' = w := by
 have hne : ∀ p ∈ tabL T, p.1 ≠ o := by
  unfold B.isOp at ho
  simp at ho
  intro p hp
  simp [tabL] at hp
  rcases hp with rfl | rfl | rfl | rfl | rfl | rfl | rfl | rfl | rfl | rfl | rfl | rfl | rfl | rfl | rfl | rfl | rfl | rfl | rfl | rfl <;> simp <;> omega
 obtain ⟨v, hl⟩ := run_missing hm o hne
 clear hm hne ho
 go_enter Tryz.func187, Tryz.ntmps187
 go_wp2
 go_ret2
 exact ⟨rfl, rfl⟩

theorem makes_none (T : Value) : Makes 227 T [] := ⟨enters_of Tryz.func227 (by kernel_rfl) rfl, fun w hT => (none_any T w hT).mono fun _ _ ⟨ao, cap, he, hf, hb⟩ => ⟨ao, _, cap, he, hf, hb⟩⟩
theorem makes_constant (T : Value) : Makes 228 T [reg, .number] := ⟨enters_of Tryz.func228 (by kernel_rfl) rfl, fun w hT => (constant_any T w hT).mono fun _ _ ⟨ao, cap, he, hf, hb⟩ => ⟨ao, _, cap, he, hf, hb⟩⟩
theorem makes_both (T : Value) : Makes 229 T [reg, other] := ⟨enters_of Tryz.func229 (by kernel_rfl) rfl, fun w hT => (both_any T w hT).mono fun _ _ ⟨ao, cap, he, hf, hb⟩ => ⟨ao, _, cap, he, hf, hb⟩⟩
theorem makes_shift (T : Value) : Makes 230 T [reg, .small 2 0 63] := ⟨enters_of Tryz.func230 (by kernel_rfl) rfl, fun w hT => (shiftM_any T w hT).mono fun _ _ ⟨ao, cap, he, hf, hb⟩ => ⟨ao, _, cap, he, hf, hb⟩⟩
theorem makes_move (T : Value) : Makes 231 T [reg, .small 1 0 7, .bytes] := ⟨enters_of Tryz.func231 (by kernel_rfl) rfl, fun w hT => (moveM_any T w hT).mono fun _ _ ⟨ao, cap, he, hf, hb⟩ => ⟨ao, _, cap, he, hf, hb⟩⟩
theorem makes_blend (T : Value) : Makes 232 T [reg, .small 1 0 7, .bytes, .number] := ⟨enters_of Tryz.func232 (by kernel_rfl) rfl, fun w hT => (blendM_any T w hT).mono fun _ _ ⟨ao, cap, he, hf, hb⟩ => ⟨ao, _, cap, he, hf, hb⟩⟩
theorem makes_width (T : Value) : Makes 233 T [reg, .small 2 1 64] := ⟨enters_of Tryz.func233 (by kernel_rfl) rfl, fun w hT => (widthM_any T w hT).mono fun _ _ ⟨ao, cap, he, hf, hb⟩ => ⟨ao, _, cap, he, hf, hb⟩⟩
theorem makes_hand (T : Value) : Makes 234 T [reg, slot] := ⟨enters_of Tryz.func234 (by kernel_rfl) rfl, fun w hT => (hand_any T w hT).mono fun _ _ ⟨ao, cap, he, hf, hb⟩ => ⟨ao, _, cap, he, hf, hb⟩⟩
theorem makes_fits (T : Value) : Makes 235 T [reg, slot, .small 2 1 64, .sign] := ⟨enters_of Tryz.func235 (by kernel_rfl) rfl, fun w hT => (fitsM_any T w hT).mono fun _ _ ⟨ao, cap, he, hf, hb⟩ => ⟨ao, _, cap, he, hf, hb⟩⟩
theorem makes_skip (T : Value) : Makes 236 T [.skip] := ⟨enters_of Tryz.func236 (by kernel_rfl) rfl, fun w hT => (skipM_any T w hT).mono fun _ _ ⟨ao, cap, he, hf, hb⟩ => ⟨ao, _, cap, he, hf, hb⟩⟩
theorem makes_unless (T : Value) : Makes 237 T [reg, .skip, .number] := ⟨enters_of Tryz.func237 (by kernel_rfl) rfl, fun w hT => (unlessM_any T w hT).mono fun _ _ ⟨ao, cap, he, hf, hb⟩ => ⟨ao, _, cap, he, hf, hb⟩⟩

theorem of_any (o : Int) (T : Value) (b : Nat) (w : World) (hm : MapIs w b (tabL T)) (hT : TableAt w T) (ho : B.isOp o = true) :
    Calls Tryz.prog 187 #[.map (some b), .int .i64 o] w (FieldsOut o w) := by
 rcases ops_cases ho with rfl | rfl | rfl | rfl | rfl | rfl | rfl | rfl | rfl | rfl | rfl | rfl | rfl | rfl | rfl | rfl | rfl | rfl | rfl | rfl
 ·exact of_via _ _ T b w hm hT rfl (makes_none T)
 ·exact of_via _ _ T b w hm hT rfl (makes_constant T)
 ·exact of_via _ _ T b w hm hT rfl (makes_both T)
 ·exact of_via _ _ T b w hm hT rfl (makes_both T)
 ·exact of_via _ _ T b w hm hT rfl (makes_both T)
 ·exact of_via _ _ T b w hm hT rfl (makes_both T)
 ·exact of_via _ _ T b w hm hT rfl (makes_shift T)
 ·exact of_via _ _ T b w hm hT rfl (makes_shift T)
 ·exact of_via _ _ T b w hm hT rfl (makes_constant T)
 ·exact of_via _ _ T b w hm hT rfl (makes_move T)
 ·exact of_via _ _ T b w hm hT rfl (makes_move T)
 ·exact of_via _ _ T b w hm hT rfl (makes_move T)
 ·exact of_via _ _ T b w hm hT rfl (makes_move T)
 ·exact of_via _ _ T b w hm hT rfl (makes_blend T)
 ·exact of_via _ _ T b w hm hT rfl (makes_width T)
 ·exact of_via _ _ T b w hm hT rfl (makes_hand T)
 ·exact of_via _ _ T b w hm hT rfl (makes_hand T)
 ·exact of_via _ _ T b w hm hT rfl (makes_fits T)
 ·exact of_via _ _ T b w hm hT rfl (makes_skip T)
 ·exact of_via _ _ T b w hm hT rfl (makes_unless T)

end Code
end Go.Proofs.YtegjeincncccaaaGreatDoor
