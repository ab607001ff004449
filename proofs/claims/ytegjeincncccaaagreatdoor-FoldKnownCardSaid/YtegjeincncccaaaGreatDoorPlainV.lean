/- Plain Lean: bytes and numbers: what is loaded and stored, step by step; shifts, masks and signs on 64 bits. -/
/- Plain Lean: what a run's state is bound by; how far a run has come. -/
/- Plain Lean: what is laid is read again, either way about. -/
/- Plain Lean: what a skip passes over; one program behind another. -/
/- Plain Lean: each operation's step, and what is known of its fields. -/
import Derived.Test.YtegjeincncccaaaGreatDoorPlain2
namespace Go.Proofs.YtegjeincncccaaaGreatDoor.B

def Bytes (l : List Nat) : Prop := ∀ b ∈ l, b < 256
def Words (l : List Nat) : Prop := ∀ b ∈ l, b < 18446744073709551616

theorem or_add {b i : Nat} (h : b < 2 ^ i) (a : Nat) : 2 ^ i * a ||| b = 2 ^ i * a + b := (Nat.two_pow_add_eq_or_of_lt h a).symm

theorem pow256 (k : Nat) : 256 ^ k = 2 ^ (8 * k) := by rw [Nat.pow_mul]

theorem loadL_lt : ∀ (l : List Nat), Bytes l → loadL l < 2 ^ (8 * l.length)
 | [], _ => by simp [loadL]
 | b :: l, h => by
  have h1 := loadL_lt l (fun x hx => h x (List.mem_cons_of_mem _ hx))
  have h2 := h b (List.mem_cons_self ..)
  have e : 2 ^ (8 * (b :: l).length) = 256 * 2 ^ (8 * l.length) := by
   rw [List.length_cons, show 8 * (l.length + 1) = 8 + 8 * l.length by omega, Nat.pow_add]
  rw [e]
  unfold loadL
  omega

theorem loadL_snoc : ∀ (l : List Nat) (b : Nat), loadL (l ++ [b]) = loadL l + 2 ^ (8 * l.length) * b
 | [], b => by simp [loadL]
 | a :: l, b => by
  rw [List.cons_append]
  unfold loadL
  rw [loadL_snoc l b, List.length_cons, show 8 * (l.length + 1) = 8 + 8 * l.length by omega, Nat.pow_add, Nat.mul_add, Nat.mul_assoc]
  omega

theorem loadL_or (l : List Nat) (b : Nat) (h : Bytes l) : loadL l ||| (b * 2 ^ (8 * l.length)) = loadL (l ++ [b]) := by
 rw [loadL_snoc, Nat.or_comm, Nat.mul_comm b, or_add (loadL_lt l h)]; omega

theorem loadB_snoc (l : List Nat) (b : Nat) : loadB (l ++ [b]) = b + 256 * loadB l := by
 unfold loadB; rw [List.reverse_append]; rfl

theorem bytes_reverse {l : List Nat} (h : Bytes l) : Bytes l.reverse := fun b hb => h b (List.mem_reverse.1 hb)

theorem loadB_lt (l : List Nat) (h : Bytes l) : loadB l < 2 ^ (8 * l.length) := by
 have := loadL_lt l.reverse (bytes_reverse h)
 rw [List.length_reverse] at this
 exact this

theorem loadB_or (l : List Nat) (b : Nat) (hb : b < 256) : (loadB l * 256) ||| b = loadB (l ++ [b]) := by
 rw [loadB_snoc, Nat.mul_comm, show (256 : Nat) = 2 ^ 8 by rfl, or_add (by omega)]; omega

theorem take_succ_get {l : List Nat} {k b : Nat} (h : l[k]? = some b) : l.take (k + 1) = l.take k ++ [b] := by
 rw [List.take_add_one, h]; rfl

theorem bytes_take {l : List Nat} (h : Bytes l) (k : Nat) : Bytes (l.take k) := fun b hb => h b (List.mem_of_mem_take hb)
theorem bytes_drop {l : List Nat} (h : Bytes l) (k : Nat) : Bytes (l.drop k) := fun b hb => h b (List.mem_of_mem_drop hb)

theorem pow_le64 {k : Nat} (h : k ≤ 64) : 2 ^ k ≤ 18446744073709551616 := by
 have := Nat.pow_le_pow_right (n := 2) (by omega) h
 simpa using this

/-! masks -/
theorem mask_step (k : Nat) : ((2 ^ k - 1) * 2) ||| 1 = 2 ^ (k + 1) - 1 := by
 have h := or_add (b := 1) (i := 1) (by omega) (2 ^ k - 1)
 have hp : 0 < 2 ^ k := Nat.pow_pos (by omega)
 rw [Nat.pow_one] at h
 rw [Nat.mul_comm, h, Nat.pow_succ]
 omega

theorem and_mask (v n : Nat) : v &&& (2 ^ n - 1) = v % 2 ^ n := Nat.and_two_pow_sub_one_eq_mod v n

theorem low_le {v n : Nat} (h : n ≤ 64) : low v n = v % 2 ^ n := by unfold low; rw [if_neg (by omega)]

theorem xor_top_lt {r m : Nat} (h : r < 2 ^ m) : r ^^^ 2 ^ m = r + 2 ^ m := by
 apply Nat.eq_of_testBit_eq
 intro j
 rw [Nat.testBit_xor, Nat.add_comm, Nat.testBit_two_pow]
 rcases Nat.lt_trichotomy j m with h1 | h1 | h1
 ·rw [Nat.testBit_two_pow_add_gt h1, show decide (m = j) = false by simp; omega, Bool.xor_false]
 ·subst h1
  rw [Nat.testBit_two_pow_add_eq, Nat.testBit_lt_two_pow h]
  simp
 ·have e1 : r.testBit j = false := Nat.testBit_lt_two_pow (Nat.lt_of_lt_of_le h (Nat.pow_le_pow_right (by omega) (by omega)))
  have e2 : (2 ^ m + r).testBit j = false := Nat.testBit_lt_two_pow (Nat.lt_of_lt_of_le (show 2 ^ m + r < 2 ^ (m + 1) by rw [Nat.pow_succ]; omega) (Nat.pow_le_pow_right (by omega) (by omega)))
  rw [e1, e2, show decide (m = j) = false by simp; omega]
  rfl

theorem xor_top_ge {r m : Nat} (h : r < 2 ^ m) : (r + 2 ^ m) ^^^ 2 ^ m = r := by
 rw [← xor_top_lt h, Nat.xor_assoc, Nat.xor_self, Nat.xor_zero]

/-- a sign, as the program reckons it -/
theorem extend_xor {lo n : Nat} (h1 : 1 ≤ n) (h2 : n < 64) (hlo : lo < 2 ^ n) : (((lo ^^^ 2 ^ (n - 1) : Nat) : Int) - ((2 ^ (n - 1) : Nat) : Int)) % 18446744073709551616 = ((if 2 ^ (n - 1) ≤ lo then lo + 2 ^ 64 - 2 ^ n else lo : Nat) : Int) := by
 have hp : 2 ^ n = 2 ^ (n - 1) + 2 ^ (n - 1) := by
  obtain ⟨m, rfl⟩ : ∃ m, n = m + 1 := ⟨n - 1, by omega⟩
  rw [Nat.pow_succ, show m + 1 - 1 = m by omega]; omega
 have h63 : 2 ^ (n - 1) ≤ 2 ^ 63 := Nat.pow_le_pow_right (by omega) (by omega)
 have hpos : 0 < 2 ^ (n - 1) := Nat.pow_pos (by omega)
 have h63' : (2 : Nat) ^ 63 = 9223372036854775808 := by rfl
 have h64' : (2 : Nat) ^ 64 = 18446744073709551616 := by rfl
 rw [h63'] at h63
 rw [h64']
 split
 ·rename_i hge
  obtain ⟨r, rfl⟩ : ∃ r, lo = r + 2 ^ (n - 1) := ⟨lo - 2 ^ (n - 1), by omega⟩
  have hr : r < 2 ^ (n - 1) := by omega
  rw [xor_top_ge hr, hp]
  generalize 2 ^ (n - 1) = t at *
  omega
 ·rename_i hlt
  rw [xor_top_lt (by omega)]
  generalize 2 ^ (n - 1) = t at *
  omega

theorem extend_mid {v n : Nat} (h1 : 1 ≤ n) (h2 : n < 64) : extend v n true = if 2 ^ (n - 1) ≤ v % 2 ^ n then v % 2 ^ n + 2 ^ 64 - 2 ^ n else v % 2 ^ n := by
 unfold extend
 rw [low_le (by omega)]
 by_cases h : 2 ^ (n - 1) ≤ v % 2 ^ n
 ·rw [if_pos ⟨rfl, h1, h2, h⟩, if_pos h]
 ·rw [if_neg (fun hh => h hh.2.2.2), if_neg h]

theorem extend_lt {v n : Nat} (s : Bool) (h : n ≤ 64) (hv : v < 18446744073709551616) : extend v n s < 18446744073709551616 := by
 unfold extend
 have hl : low v n < 18446744073709551616 := by
  rw [low_le h]; exact Nat.lt_of_le_of_lt (Nat.mod_le _ _) hv
 have h64' : (2 : Nat) ^ 64 = 18446744073709551616 := by rfl
 split
 ·rename_i hh
  have : low v n < 2 ^ n := by rw [low_le h]; exact Nat.mod_lt _ (Nat.pow_pos (by omega))
  rw [h64']
  omega
 ·exact hl

/-! bytes that are laid -/
theorem storeL_length (v mask : Nat) : ∀ (l : List Nat) (k : Nat), (storeL v mask k l).length = l.length
 | [], _ => rfl
 | o :: l, k => by unfold storeL; simp [storeL_length v mask l]

theorem storeL_get (v mask : Nat) : ∀ (l : List Nat) (k i o : Nat), l[i]? = some o → (storeL v mask k l)[i]? = some (blendByte o (byteOf v (k + 8 * i)) (byteOf mask (k + 8 * i)))
 | [], _, _, _, h => by simp at h
 | a :: l, k, 0, o, h => by simp at h; subst h; rfl
 | a :: l, k, i + 1, o, h => by
  unfold storeL
  rw [List.getElem?_cons_succ] at h ⊢
  rw [storeL_get v mask l (k + 8) i o h, show k + 8 + 8 * i = k + 8 * (i + 1) by omega]

theorem storeB_length (v mask : Nat) (l : List Nat) : (storeB v mask l).length = l.length := by
 unfold storeB; rw [List.length_reverse, storeL_length, List.length_reverse]

theorem storeB_get (v mask : Nat) (l : List Nat) (i o : Nat) (h : l[i]? = some o) : (storeB v mask l)[i]? = some (blendByte o (byteOf v (8 * (l.length - 1 - i))) (byteOf mask (8 * (l.length - 1 - i)))) := by
 have hi := (List.getElem?_eq_some_iff.1 h).1
 unfold storeB
 rw [List.getElem?_reverse (by rw [storeL_length, List.length_reverse]; exact hi), storeL_length, List.length_reverse]
 have := storeL_get v mask l.reverse 0 (l.length - 1 - i) o (by rw [List.getElem?_reverse (by omega)]; rw [show l.length - 1 - (l.length - 1 - i) = i by omega]; exact h)
 rw [this, Nat.zero_add]

theorem blend_lt {o v m : Nat} (h : o < 256) (hm : m < 256) : blendByte o v m < 256 := by
 unfold blendByte
 refine Nat.or_lt_two_pow (n := 8) (Nat.lt_of_le_of_lt Nat.and_le_left h) (Nat.lt_of_le_of_lt Nat.and_le_right hm)

theorem byteOf_lt (v k : Nat) : byteOf v k < 256 := Nat.mod_lt _ (by omega)

theorem xor255 {m : Nat} (h : m < 256) : 255 ^^^ m = 255 - m := by
 apply Nat.eq_of_testBit_eq
 intro i
 have h1 := Nat.testBit_two_pow_sub_succ (n := 8) (x := m) (by omega) i
 rw [show 2 ^ 8 - (m + 1) = 255 - m by omega] at h1
 have h2 := Nat.testBit_two_pow_sub_one 8 i
 rw [show 2 ^ 8 - 1 = 255 by rfl] at h2
 rw [Nat.testBit_xor, h1, h2]
 by_cases hi : i < 8
 ·simp [hi]
 ·have : m.testBit i = false := Nat.testBit_lt_two_pow (Nat.lt_of_lt_of_le h (by rw [show 256 = 2 ^ 8 by rfl]; exact Nat.pow_le_pow_right (by omega) (by omega)))
  simp [hi, this]

/-- a part of a list, laid anew -/
theorem patch_nil (l : List Nat) (b : Nat) : patch l b [] = l := by unfold patch; simp

theorem patch_length {l new : List Nat} {b : Nat} (h : b + new.length ≤ l.length) : (patch l b new).length = l.length := by
 unfold patch; simp; omega

theorem patch_get {l new : List Nat} {b : Nat} (h : b + new.length ≤ l.length) (j : Nat) : (patch l b new)[j]? = if b ≤ j ∧ j < b + new.length then new[j - b]? else l[j]? := by
 unfold patch
 by_cases h1 : j < b
 ·rw [if_neg (by omega), List.append_assoc, List.getElem?_append_left (by simp; omega), List.getElem?_take, if_pos h1]
 ·by_cases h2 : j < b + new.length
  ·rw [if_pos ⟨by omega, h2⟩, List.append_assoc, List.getElem?_append_right (by simp; omega), List.getElem?_append_left (by simp; omega)]
   congr 1; simp; omega
  ·rw [if_neg (by omega), List.getElem?_append_right (by simp; omega), List.getElem?_drop]
   congr 1; simp; omega

theorem patch_step {l new : List Nat} {b i x : Nat} (h : b + new.length ≤ l.length) (hx : new[i]? = some x) : patch l b (new.take (i + 1)) = (patch l b (new.take i)).set (b + i) x := by
 have hi := (List.getElem?_eq_some_iff.1 hx).1
 have l1 : (new.take (i + 1)).length = i + 1 := by simp; omega
 have l2 : (new.take i).length = i := by simp; omega
 apply List.ext_getElem?
 intro j
 rw [patch_get (by omega), List.getElem?_set, patch_length (by omega), patch_get (by omega), l1, l2]
 by_cases e : b + i = j
 ·subst e
  rw [if_pos ⟨by omega, by omega⟩, if_pos rfl, if_pos (by omega), show b + i - b = i by omega, List.getElem?_take, if_pos (by omega), hx]
 ·rw [if_neg e]
  by_cases h1 : b ≤ j ∧ j < b + i
  ·rw [if_pos ⟨h1.1, by omega⟩, if_pos h1, List.getElem?_take, List.getElem?_take, if_pos (by omega), if_pos (by omega)]
  ·rw [if_neg (by omega), if_neg h1]

theorem patch_old {l new : List Nat} {b i : Nat} (h : b + new.length ≤ l.length) (hi : i < new.length) : (patch l b (new.take i))[b + i]? = l[b + i]? := by
 have l2 : (new.take i).length = i := by simp; omega
 rw [patch_get (by omega), if_neg (by omega)]

theorem patch_bytes {l new : List Nat} {b : Nat} (h1 : Bytes l) (h2 : Bytes new) : Bytes (patch l b new) := by
 intro x hx
 unfold patch at hx
 simp only [List.mem_append] at hx
 rcases hx with (hx | hx) | hx
 ·exact h1 x (List.mem_of_mem_take hx)
 ·exact h2 x hx
 ·exact h1 x (List.mem_of_mem_drop hx)

theorem storeL_bytes (v mask k : Nat) (l : List Nat) (h : Bytes l) : Bytes (storeL v mask k l) := by
 intro x hx
 obtain ⟨i, hi⟩ := List.getElem?_of_mem hx
 have hlt := (List.getElem?_eq_some_iff.1 hi).1
 rw [storeL_length] at hlt
 rw [storeL_get v mask l k i l[i] (List.getElem?_eq_getElem hlt)] at hi
 cases hi
 exact blend_lt (h _ (List.getElem_mem _)) (byteOf_lt _ _)

theorem storeB_bytes (v mask : Nat) (l : List Nat) (h : Bytes l) : Bytes (storeB v mask l) := by
 unfold storeB
 exact bytes_reverse (storeL_bytes _ _ _ _ (bytes_reverse h))

end Go.Proofs.YtegjeincncccaaaGreatDoor.B

namespace Go.Proofs.YtegjeincncccaaaGreatDoor.B

structure StOk (size slots : Nat) (s : St) : Prop where
 reg : ∀ j, s.r j < 18446744073709551616
 pay : Bytes s.pay
 payl : s.pay.length = size
 outl : s.out.length = slots
 hasl : s.has.length = slots
 outw : Words s.out

theorem start_ok {pay : List Nat} (slots : Nat) (h : Bytes pay) : StOk pay.length slots (start pay slots) :=
 ⟨fun _ => by simp [start], h, rfl, by simp [start], by simp [start], fun b hb => by simp [start, List.mem_replicate] at hb; omega⟩

theorem and_lt64 {a b : Nat} (h : a < 18446744073709551616) : a &&& b < 18446744073709551616 := Nat.lt_of_le_of_lt Nat.and_le_left h
theorem or_lt64 {a b : Nat} (h : a < 18446744073709551616) (h' : b < 18446744073709551616) : a ||| b < 18446744073709551616 := Nat.or_lt_two_pow (n := 64) h h'
theorem xor_lt64 {a b : Nat} (h : a < 18446744073709551616) (h' : b < 18446744073709551616) : a ^^^ b < 18446744073709551616 := Nat.xor_lt_two_pow (n := 64) h h'

theorem load_lt64 {l : List Nat} (h : Bytes l) (h8 : l.length ≤ 8) : loadL l < 18446744073709551616 ∧ loadB l < 18446744073709551616 := by
 have h1 := loadL_lt l h
 have h2 := loadB_lt l h
 have h3 := pow_le64 (k := 8 * l.length) (by omega)
 omega

theorem part_len {l : List Nat} {b n : Nat} (h : b + n ≤ l.length) : ((l.drop b).take n).length = n := by simp; omega

theorem mem_getD {l : List Nat} (h : Words l) (i : Nat) : l.getD i 0 < 18446744073709551616 := by
 rw [List.getD_eq_getElem?_getD]
 cases hi : l[i]? with
 | none => simp
 | some v => exact h v (List.mem_of_getElem? hi)

theorem val_lt {x : Ins} {inp : List Nat} {s : St} {size slots : Nat} (hr : x.right = true) (hs : StOk size slots s) (hi : Words inp) : x.val inp s < 18446744073709551616 := by
 have hb := right_bounds hr
 have hr' := hr
 unfold Ins.right at hr'
 simp only [Bool.and_eq_true, decide_eq_true_eq] at hr'
 obtain ⟨⟨⟨⟨⟨r0, r1⟩, r2⟩, r3⟩, r4⟩, r5⟩ := hr'
 have himm : x.imm.toNat < 18446744073709551616 := by omega
 have h8 : 9 ≤ x.op ∧ x.op ≤ 13 → ((s.pay.drop x.b.toNat).take x.n.toNat).length ≤ 8 := by
  intro h
  rw [List.length_take]
  have : x.n ≤ 8 := by have := r3.2; unfold hiN at this; rw [if_neg (by omega), if_pos (by omega)] at this; exact this
  omega
 have h64 : x.op = 14 → x.n.toNat ≤ 64 := by
  intro h
  have : x.n ≤ 64 := by have := r3.2; unfold hiN at this; rw [if_neg (by omega), if_neg (by omega), if_pos (by omega)] at this; exact this
  omega
 have hbp := bytes_take (bytes_drop hs.pay x.b.toNat) x.n.toNat
 unfold Ins.val
 dsimp only
 generalize (s.pay.drop x.b.toNat).take x.n.toNat = part at *
 have ra := hs.reg x.a.toNat
 have rb := hs.reg x.b.toNat
 generalize s.r x.a.toNat = va at *
 generalize s.r x.b.toNat = vb at *
 clear r0 r1 r2 r3 r4 r5 hb
 by_cases c : x.op = 1
 ·rw [if_pos c]; exact himm
 rw [if_neg c]; clear c
 by_cases c : x.op = 2
 ·rw [if_pos c]; exact rb
 rw [if_neg c]; clear c
 by_cases c : x.op = 3
 ·rw [if_pos c]; exact and_lt64 ra
 rw [if_neg c]; clear c
 by_cases c : x.op = 4
 ·rw [if_pos c]; exact or_lt64 ra rb
 rw [if_neg c]; clear c
 by_cases c : x.op = 5
 ·rw [if_pos c]; exact xor_lt64 ra rb
 rw [if_neg c]; clear c
 by_cases c : x.op = 6
 ·rw [if_pos c]; exact Nat.mod_lt _ (by omega)
 rw [if_neg c]; clear c
 by_cases c : x.op = 7
 ·rw [if_pos c]; exact Nat.lt_of_le_of_lt (Nat.div_le_self _ _) ra
 rw [if_neg c]; clear c
 by_cases c : x.op = 8
 ·rw [if_pos c]; exact and_lt64 ra
 rw [if_neg c]; clear c
 by_cases c : x.op = 9
 ·rw [if_pos c]; exact (load_lt64 hbp (h8 (by omega))).1
 rw [if_neg c]; clear c
 by_cases c : x.op = 10
 ·rw [if_pos c]; exact (load_lt64 hbp (h8 (by omega))).2
 rw [if_neg c]; clear c
 by_cases c : x.op = 14
 ·rw [if_pos c]; exact extend_lt true (h64 c) ra
 rw [if_neg c]
 exact mem_getD hi _

theorem StOk.set {size slots : Nat} {s : St} (h : StOk size slots s) (k v : Nat) (hv : v < 18446744073709551616) : StOk size slots (s.set k v) :=
 ⟨fun j => by
  show (if j = k then v else s.r j) < _
  split
  ·exact hv
  ·exact h.reg j, h.pay, h.payl, h.outl, h.hasl, h.outw⟩

theorem StOk.lay {size slots : Nat} {s : St} (h : StOk size slots s) (l : List Nat) (hl : Bytes l) (hn : l.length = size) : StOk size slots { s with pay := l } :=
 ⟨h.reg, hl, hn, h.outl, h.hasl, h.outw⟩

theorem lay_ok {x : Ins} {s : St} {size slots : Nat} (hs : StOk size slots s) (ht : x.b.toNat + x.n.toNat ≤ size) : Bytes (x.lay s) ∧ (x.lay s).length = size := by
 have hl := part_len (l := s.pay) (b := x.b.toNat) (n := x.n.toNat) (by rw [hs.payl]; exact ht)
 have hp := bytes_take (bytes_drop hs.pay x.b.toNat) x.n.toNat
 unfold Ins.lay
 dsimp only
 generalize (s.pay.drop x.b.toNat).take x.n.toNat = part at *
 have key : ∀ new : List Nat, Bytes new → new.length = x.n.toNat → Bytes (patch s.pay x.b.toNat new) ∧ (patch s.pay x.b.toNat new).length = size := by
  intro new h1 h2
  exact ⟨patch_bytes hs.pay h1, by rw [patch_length (by rw [h2, hs.payl]; exact ht), hs.payl]⟩
 split
 ·exact key _ (storeL_bytes _ _ _ _ hp) (by rw [storeL_length, hl])
 split
 ·exact key _ (storeB_bytes _ _ _ hp) (by rw [storeB_length, hl])
 ·exact key _ (storeL_bytes _ _ _ _ hp) (by rw [storeL_length, hl])

/-- how far a run has come -/
def RunTo (ps : List Ins) (inp : List Nat) (s0 : St) (k : Nat) (s : St) (n : Nat) : Prop :=
 run ps inp 0 s0 = ⟨(run ps inp k s).failed, (run ps inp k s).st, (run ps inp k s).steps + n⟩

theorem RunTo.zero (ps : List Ins) (inp : List Nat) (s0 : St) : RunTo ps inp s0 0 s0 0 := rfl
theorem RunTo.step {ps : List Ins} {inp : List Nat} {s0 s s' : St} {k n d : Nat} {x : Ins} (h : RunTo ps inp s0 k s n) (hx : ps[k]? = some x) (he : x.exec inp s = .go d s') : RunTo ps inp s0 (k + 1 + d) s' (n + 1) := by
 unfold RunTo at *
 rw [h, run_go hx he]
 simp only [Out.mk.injEq, true_and]; omega
theorem RunTo.halt {ps : List Ins} {inp : List Nat} {s0 s : St} {k n : Nat} {x : Ins} (h : RunTo ps inp s0 k s n) (hx : ps[k]? = some x) (he : x.exec inp s = .halt) : run ps inp 0 s0 = ⟨none, s, n + 1⟩ := by
 unfold RunTo at h
 rw [h, run_halt hx he, Nat.add_comm]
theorem RunTo.fail {ps : List Ins} {inp : List Nat} {s0 s : St} {k n : Nat} {x : Ins} {j : Int} (h : RunTo ps inp s0 k s n) (hx : ps[k]? = some x) (he : x.exec inp s = .fail j) : run ps inp 0 s0 = ⟨some j, s, n + 1⟩ := by
 unfold RunTo at h
 rw [h, run_fail hx he, Nat.add_comm]
theorem RunTo.done {ps : List Ins} {inp : List Nat} {s0 s : St} {k n : Nat} (h : RunTo ps inp s0 k s n) (hk : ps.length ≤ k) : run ps inp 0 s0 = ⟨none, s, n⟩ := by
 unfold RunTo at h
 rw [h, run_end hk, Nat.zero_add]

/-- an operation by its number -/
theorem op_cases {x : Ins} (h : x.right = true) : x.op = 0 ∨ x.op = 1 ∨ x.op = 2 ∨ x.op = 3 ∨ x.op = 4 ∨ x.op = 5 ∨ x.op = 6 ∨ x.op = 7 ∨ x.op = 8 ∨ x.op = 9 ∨ x.op = 10 ∨ x.op = 11 ∨ x.op = 12 ∨ x.op = 13 ∨ x.op = 14 ∨ x.op = 15 ∨ x.op = 16 ∨ x.op = 17 ∨ x.op = 18 ∨ x.op = 19 := by
 have := (right_bounds h).1
 omega

end Go.Proofs.YtegjeincncccaaaGreatDoor.B

namespace Go.Proofs.YtegjeincncccaaaGreatDoor.B

theorem all64_byte {i : Nat} (h : i < 8) : byteOf all64 (8 * i) = 255 := by
 have : i = 0 ∨ i = 1 ∨ i = 2 ∨ i = 3 ∨ i = 4 ∨ i = 5 ∨ i = 6 ∨ i = 7 := by omega
 rcases this with rfl | rfl | rfl | rfl | rfl | rfl | rfl | rfl <;> decide

theorem blend_all {o v : Nat} (hv : v < 256) : blendByte o v 255 = v := by
 unfold blendByte
 rw [show 255 ^^^ 255 = 0 by rfl, Nat.and_zero, Nat.zero_or]
 have := Nat.and_two_pow_sub_one_eq_mod v 8
 rw [show 2 ^ 8 - 1 = 255 by rfl] at this
 rw [this]
 omega

theorem loadL_storeL (v : Nat) : ∀ (l : List Nat) (i : Nat), i + l.length ≤ 8 → loadL (storeL v all64 (8 * i) l) = v / 2 ^ (8 * i) % 2 ^ (8 * l.length)
 | [], i, h => by simp [storeL, loadL, Nat.mod_one]
 | o :: l, i, h => by
  have hl : i < 8 := by rw [List.length_cons] at h; omega
  unfold storeL
  rw [all64_byte hl, blend_all (byteOf_lt _ _)]
  unfold loadL
  rw [show 8 * i + 8 = 8 * (i + 1) by omega, loadL_storeL v l (i + 1) (by rw [List.length_cons] at h; omega)]
  rw [List.length_cons, show 8 * (l.length + 1) = 8 + 8 * l.length by omega, Nat.pow_add 2 8, Nat.mod_mul]
  unfold byteOf
  rw [show 8 * (i + 1) = 8 * i + 8 by omega, Nat.pow_add 2 (8 * i) 8, ← Nat.div_div_eq_div_mul]

theorem loadL_store {v : Nat} {l : List Nat} (h : l.length ≤ 8) : loadL (storeL v all64 0 l) = v % 2 ^ (8 * l.length) := by
 have := loadL_storeL v l 0 (by omega)
 simpa using this

theorem loadB_store {v : Nat} {l : List Nat} (h : l.length ≤ 8) : loadB (storeB v all64 l) = v % 2 ^ (8 * l.length) := by
 unfold loadB storeB
 rw [List.reverse_reverse, loadL_store (by simpa using h), List.length_reverse]

theorem loadL_byte : ∀ (l : List Nat) (i b : Nat), Bytes l → l[i]? = some b → loadL l / 2 ^ (8 * i) % 256 = b
 | [], i, b, _, h => by simp at h
 | a :: l, 0, b, hb, h => by
  simp at h; subst h
  have := hb a (List.mem_cons_self ..)
  unfold loadL
  simp
  omega
 | a :: l, i + 1, b, hb, h => by
  rw [List.getElem?_cons_succ] at h
  have ih := loadL_byte l i b (fun x hx => hb x (List.mem_cons_of_mem _ hx)) h
  have ha := hb a (List.mem_cons_self ..)
  unfold loadL
  rw [show 8 * (i + 1) = 8 + 8 * i by omega, Nat.pow_add, ← Nat.div_div_eq_div_mul, show (a + 256 * loadL l) / 2 ^ 8 = loadL l by omega]
  exact ih

theorem loadB_byte (l : List Nat) (i b : Nat) (hb : Bytes l) (h : l[i]? = some b) : loadB l / 2 ^ (8 * (l.length - 1 - i)) % 256 = b := by
 have hi := (List.getElem?_eq_some_iff.1 h).1
 unfold loadB
 refine loadL_byte l.reverse _ b (bytes_reverse hb) ?_
 rw [List.getElem?_reverse (by omega), show l.length - 1 - (l.length - 1 - i) = i by omega]
 exact h

theorem patch_part {l new : List Nat} {b : Nat} (h : b + new.length ≤ l.length) : ((patch l b new).drop b).take new.length = new := by
 apply List.ext_getElem?
 intro j
 rw [List.getElem?_take, List.getElem?_drop, patch_get h]
 by_cases hj : j < new.length
 ·rw [if_pos hj, if_pos ⟨by omega, by omega⟩, show b + j - b = j by omega]
 ·rw [if_neg hj, List.getElem?_eq_none (by omega)]

/-- the program of P14.5 -/
def bytesProg (big : Bool) (b k : Nat) : List Ins :=
 [⟨15, 0, 0, 0, 0⟩, ⟨if big then 12 else 11, 0, b, k, 0⟩, ⟨if big then 10 else 9, 1, b, k, 0⟩, ⟨if big then 9 else 10, 2, b, k, 0⟩, ⟨16, 1, 0, 0, 0⟩, ⟨16, 2, 1, 0, 0⟩]

theorem may_line {p : List Ins} (h : ∀ x ∈ p, x.skips = false) {r i : Nat} (hm : May p r i) : ∀ (j : Nat) x, j < i → p[j]? = some x → x.writes r = false := by
 induction hm with
 | start => intro j x hj; omega
 | @step i i' y _ hy hw hg ih =>
  intro j x hj hx
  have hs := h y (List.mem_of_getElem? hy)
  rcases hg with ⟨_, rfl⟩ | ⟨h2, _⟩
  ·by_cases e : j = i
   ·subst e; rw [hy] at hx; cases hx; exact hw
   ·exact ih j x (by omega) hx
  ·rw [hs] at h2; cases h2

theorem bytes_mayRun (big : Bool) {b k size : Nat} (h1 : 1 ≤ k) (h2 : b + k ≤ size) (h8 : size ≤ 8) : MayRun (bytesProg big b k) size 2 := by
 have hx : ∀ (i : Nat) x, (bytesProg big b k)[i]? = some x → (i = 0 ∧ x = ⟨15, 0, 0, 0, 0⟩) ∨ (i = 1 ∧ x = ⟨if big then 12 else 11, 0, b, k, 0⟩) ∨ (i = 2 ∧ x = ⟨if big then 10 else 9, 1, b, k, 0⟩) ∨ (i = 3 ∧ x = ⟨if big then 9 else 10, 2, b, k, 0⟩) ∨ (i = 4 ∧ x = ⟨16, 1, 0, 0, 0⟩) ∨ (i = 5 ∧ x = ⟨16, 2, 1, 0, 0⟩) := by
  intro i x h
  have hi := (List.getElem?_eq_some_iff.1 h).1
  have : i = 0 ∨ i = 1 ∨ i = 2 ∨ i = 3 ∨ i = 4 ∨ i = 5 := by simp [bytesProg] at hi; omega
  rcases this with rfl | rfl | rfl | rfl | rfl | rfl <;> (simp [bytesProg] at h; subst h; simp)
 refine ⟨by omega, by omega, by simp [bytesProg], ⟨?_, ?_⟩, ?_⟩
 ·intro i x h
  cases big <;> (rcases hx i x h with ⟨_, rfl⟩ | ⟨_, rfl⟩ | ⟨_, rfl⟩ | ⟨_, rfl⟩ | ⟨_, rfl⟩ | ⟨_, rfl⟩ <;> simp [Ins.right, isOp, hasA, hiB, loN, hiN, hiImm] <;> omega)
 ·intro i x h
  cases big <;> (rcases hx i x h with ⟨_, rfl⟩ | ⟨_, rfl⟩ | ⟨_, rfl⟩ | ⟨_, rfl⟩ | ⟨_, rfl⟩ | ⟨_, rfl⟩ <;> simp [Ins.touch] <;> omega)
 ·intro i x h r hr hm
  have hl := may_line (p := bytesProg big b k) (by cases big <;> simp [bytesProg, Ins.skips]) hm
  have w0 := fun hi => hl 0 ⟨15, 0, 0, 0, 0⟩ hi rfl
  have w2 := fun hi => hl 2 ⟨if big then 10 else 9, 1, b, k, 0⟩ hi rfl
  have w3 := fun hi => hl 3 ⟨if big then 9 else 10, 2, b, k, 0⟩ hi rfl
  clear hl
  cases big <;> (rcases hx i x h with ⟨rfl, rfl⟩ | ⟨rfl, rfl⟩ | ⟨rfl, rfl⟩ | ⟨rfl, rfl⟩ | ⟨rfl, rfl⟩ | ⟨rfl, rfl⟩ <;> simp [Ins.reads, Ins.writes, Ins.isW] at hr w0 w2 w3 <;> omega)

def storeX' (big : Bool) (v : Nat) (l : List Nat) : List Nat := if big then storeB v all64 l else storeL v all64 0 l

theorem bytes_run (big : Bool) {b k v : Nat} {pay : List Nat} (h2 : b + k ≤ pay.length) :
    ∃ r : Nat → Nat, run (bytesProg big b k) [v, 0] 0 (start pay 2) = ⟨none, ⟨r, patch pay b (storeX' big v ((pay.drop b).take k)), [if big then loadB (storeX' big v ((pay.drop b).take k)) else loadL (storeX' big v ((pay.drop b).take k)), if big then loadL (storeX' big v ((pay.drop b).take k)) else loadB (storeX' big v ((pay.drop b).take k))], [true, true]⟩, 6⟩ := by
 have hl : ((pay.drop b).take k).length = k := part_len h2
 have hn : (storeX' big v ((pay.drop b).take k)).length = k := by unfold storeX'; cases big <;> simp [storeL_length, storeB_length, hl] <;> omega
 have hp := patch_part (l := pay) (b := b) (new := storeX' big v ((pay.drop b).take k)) (by rw [hn]; exact h2)
 rw [hn] at hp
 have e : ∀ (o : Ins) (s s' : St) (k' : Nat), (bytesProg big b k)[k']? = some o → o.exec [v, 0] s = .go 0 s' → ∀ q, run (bytesProg big b k) [v, 0] (k' + 1) s' = q → run (bytesProg big b k) [v, 0] k' s = ⟨q.failed, q.st, q.steps + 1⟩ := by
  intro o s s' k' h1 h2 q hq
  rw [run_go h1 h2]
  simp only [Nat.add_zero] at hq ⊢
  rw [hq]
 generalize hnew : storeX' big v ((pay.drop b).take k) = new at *
 cases big with
 | false =>
  simp only [storeX', Bool.false_eq_true, if_false] at hnew
  have x0 : (⟨15, 0, 0, 0, 0⟩ : Ins).exec [v, 0] (start pay 2) = .go 0 ⟨fun j => if j = 0 then v else 0, pay, [0, 0], [false, false]⟩ := by simp [Ins.exec, Ins.isW, Ins.val, St.set, start]
  have x1 : (⟨11, 0, b, k, 0⟩ : Ins).exec [v, 0] (⟨fun j => if j = 0 then v else 0, pay, [0, 0], [false, false]⟩) = .go 0 ⟨fun j => if j = 0 then v else 0, patch pay b new, [0, 0], [false, false]⟩ := by simp [Ins.exec, Ins.isW, Ins.lays, Ins.lay, hnew]
  have x2 : (⟨9, 1, b, k, 0⟩ : Ins).exec [v, 0] (⟨fun j => if j = 0 then v else 0, patch pay b new, [0, 0], [false, false]⟩) = .go 0 ⟨fun j => if j = 1 then loadL new else if j = 0 then v else 0, patch pay b new, [0, 0], [false, false]⟩ := by simp [Ins.exec, Ins.isW, Ins.val, St.set, hp]
  have x3 : (⟨10, 2, b, k, 0⟩ : Ins).exec [v, 0] (⟨fun j => if j = 1 then loadL new else if j = 0 then v else 0, patch pay b new, [0, 0], [false, false]⟩) = .go 0 ⟨fun j => if j = 2 then loadB new else if j = 1 then loadL new else if j = 0 then v else 0, patch pay b new, [0, 0], [false, false]⟩ := by simp [Ins.exec, Ins.isW, Ins.val, St.set, hp]
  have x4 : (⟨16, 1, 0, 0, 0⟩ : Ins).exec [v, 0] (⟨fun j => if j = 2 then loadB new else if j = 1 then loadL new else if j = 0 then v else 0, patch pay b new, [0, 0], [false, false]⟩) = .go 0 ⟨fun j => if j = 2 then loadB new else if j = 1 then loadL new else if j = 0 then v else 0, patch pay b new, [loadL new, 0], [true, false]⟩ := by simp [Ins.exec, Ins.isW, Ins.lays]
  have x5 : (⟨16, 2, 1, 0, 0⟩ : Ins).exec [v, 0] (⟨fun j => if j = 2 then loadB new else if j = 1 then loadL new else if j = 0 then v else 0, patch pay b new, [loadL new, 0], [true, false]⟩) = .go 0 ⟨fun j => if j = 2 then loadB new else if j = 1 then loadL new else if j = 0 then v else 0, patch pay b new, [loadL new, loadB new], [true, true]⟩ := by simp [Ins.exec, Ins.isW, Ins.lays]
  have y5 := e _ _ _ 5 rfl x5 _ (run_end (by simp [bytesProg]))
  have y4 := e _ _ _ 4 rfl x4 _ y5
  have y3 := e _ _ _ 3 rfl x3 _ y4
  have y2 := e _ _ _ 2 rfl x2 _ y3
  have y1 := e _ _ _ 1 rfl x1 _ y2
  have y0 := e _ _ _ 0 rfl x0 _ y1
  exact ⟨_, y0⟩
 | true =>
  simp only [storeX', if_true] at hnew
  have x0 : (⟨15, 0, 0, 0, 0⟩ : Ins).exec [v, 0] (start pay 2) = .go 0 ⟨fun j => if j = 0 then v else 0, pay, [0, 0], [false, false]⟩ := by simp [Ins.exec, Ins.isW, Ins.val, St.set, start]
  have x1 : (⟨12, 0, b, k, 0⟩ : Ins).exec [v, 0] (⟨fun j => if j = 0 then v else 0, pay, [0, 0], [false, false]⟩) = .go 0 ⟨fun j => if j = 0 then v else 0, patch pay b new, [0, 0], [false, false]⟩ := by simp [Ins.exec, Ins.isW, Ins.lays, Ins.lay, hnew]
  have x2 : (⟨10, 1, b, k, 0⟩ : Ins).exec [v, 0] (⟨fun j => if j = 0 then v else 0, patch pay b new, [0, 0], [false, false]⟩) = .go 0 ⟨fun j => if j = 1 then loadB new else if j = 0 then v else 0, patch pay b new, [0, 0], [false, false]⟩ := by simp [Ins.exec, Ins.isW, Ins.val, St.set, hp]
  have x3 : (⟨9, 2, b, k, 0⟩ : Ins).exec [v, 0] (⟨fun j => if j = 1 then loadB new else if j = 0 then v else 0, patch pay b new, [0, 0], [false, false]⟩) = .go 0 ⟨fun j => if j = 2 then loadL new else if j = 1 then loadB new else if j = 0 then v else 0, patch pay b new, [0, 0], [false, false]⟩ := by simp [Ins.exec, Ins.isW, Ins.val, St.set, hp]
  have x4 : (⟨16, 1, 0, 0, 0⟩ : Ins).exec [v, 0] (⟨fun j => if j = 2 then loadL new else if j = 1 then loadB new else if j = 0 then v else 0, patch pay b new, [0, 0], [false, false]⟩) = .go 0 ⟨fun j => if j = 2 then loadL new else if j = 1 then loadB new else if j = 0 then v else 0, patch pay b new, [loadB new, 0], [true, false]⟩ := by simp [Ins.exec, Ins.isW, Ins.lays]
  have x5 : (⟨16, 2, 1, 0, 0⟩ : Ins).exec [v, 0] (⟨fun j => if j = 2 then loadL new else if j = 1 then loadB new else if j = 0 then v else 0, patch pay b new, [loadB new, 0], [true, false]⟩) = .go 0 ⟨fun j => if j = 2 then loadL new else if j = 1 then loadB new else if j = 0 then v else 0, patch pay b new, [loadB new, loadL new], [true, true]⟩ := by simp [Ins.exec, Ins.isW, Ins.lays]
  have y5 := e _ _ _ 5 rfl x5 _ (run_end (by simp [bytesProg]))
  have y4 := e _ _ _ 4 rfl x4 _ y5
  have y3 := e _ _ _ 3 rfl x3 _ y4
  have y2 := e _ _ _ 2 rfl x2 _ y3
  have y1 := e _ _ _ 1 rfl x1 _ y2
  have y0 := e _ _ _ 0 rfl x0 _ y1
  exact ⟨_, y0⟩

end Go.Proofs.YtegjeincncccaaaGreatDoor.B

namespace Go.Proofs.YtegjeincncccaaaGreatDoor.B

/-- .. where what is passed over may hold skips of its own -/
theorem MayRun.passed' {p l : List Ins} {size slots : Int} (hp : MayRun p size slots) (hl : OkTouch l size slots) (hlen : l.length + 1 + p.length ≤ 16384) :
    MayRun (⟨18, 0, 0, l.length, 0⟩ :: (l ++ p)) size slots := by
 have hlen' : (⟨18, 0, 0, l.length, 0⟩ :: (l ++ p) : List Ins).length = l.length + 1 + p.length := by simp; omega
 refine ⟨hp.hsize, hp.hslots, by omega, ⟨fun i x hx => ?_, fun i x hx => ?_⟩, fun i x hx r hr hm => ?_⟩
 ·cases i with
  | zero =>
   simp at hx; subst hx
   simp [Ins.right, isOp, hasA, hiB, loN, hiN, hiImm]; omega
  | succ i =>
   rw [List.getElem?_cons_succ] at hx
   by_cases hi : i < l.length
   ·rw [List.getElem?_append_left hi] at hx
    exact hl.right i x hx
   ·rw [List.getElem?_append_right (by omega)] at hx
    exact hp.ok.right _ x hx
 ·rw [hlen']
  cases i with
  | zero =>
   simp at hx; subst hx
   simp [Ins.touch]; omega
  | succ i =>
   rw [List.getElem?_cons_succ] at hx
   by_cases hi : i < l.length
   ·rw [List.getElem?_append_left hi] at hx
    exact touch_mono (hl.touch i x hx) (Int.le_refl _) (Int.le_refl _) (by omega)
   ·rw [List.getElem?_append_right (by omega)] at hx
    exact touch_mono (hp.ok.touch _ x hx) (Int.le_refl _) (Int.le_refl _) (by omega)
 ·rcases may_skip rfl hm with rfl | ⟨k, rfl, hk⟩
  ·simp at hx; subst hx
   simp [Ins.reads] at hr
  ·rw [show l.length + 1 + k = (l.length + k) + 1 by omega, List.getElem?_cons_succ, List.getElem?_append_right (by omega)] at hx
   rw [show l.length + k - l.length = k by omega] at hx
   exact hp.read k x hx r hr hk

/-- what a run hands out has as many places as there are slots -/
theorem run_lens (p : List Ins) (inp pay : List Nat) (slots : Nat) : (run p inp 0 (start pay slots)).st.out.length = slots ∧ (run p inp 0 (start pay slots)).st.has.length = slots ∧
    ∀ i, i < slots → (run p inp 0 (start pay slots)).st.has.getD i false = false → (run p inp 0 (start pay slots)).st.out.getD i 0 = 0 := by
 have h := run_has (p := p) (inp := inp) 0 (start pay slots) (by simp [start]) (fun i _ _ => by simp [start, List.getD_eq_getElem?_getD, List.getElem?_replicate]; split <;> rfl)
 simpa [start] using h

/-- P14.3: the first fails -/
theorem behind_fail {p q : List Ins} {size slots : Int} (hp : MayRun p size slots) (hh : ∀ x ∈ p, x.op ≠ 0) {inp : List Nat} {s : St} {k : Int} (hf : (run p inp 0 s).failed = some k) :
    (run (p ++ q) inp 0 s).failed = some k ∧ (run (p ++ q) inp 0 s).steps = (run p inp 0 s).steps := by
 have h := run_append (q := q) hp hh (inp := inp) 0 s (by omega)
 rw [hf] at h
 rw [h]
 exact ⟨rfl, rfl⟩

/-- P14.3: it doesn't -/
theorem behind_go {p q : List Ins} {size slots : Int} (hp : MayRun p size slots) (hq : MayRun q size slots) (hh : ∀ x ∈ p, x.op ≠ 0) {inp pay : List Nat} {m : Nat} {a b c : Out}
    (ha : run p inp 0 (start pay m) = a) (hb : run q inp 0 (start a.st.pay m) = b) (hc : run (p ++ q) inp 0 (start pay m) = c) (hf : a.failed = none) :
    c.failed = b.failed ∧ c.steps = a.steps + b.steps ∧ c.st.pay = b.st.pay ∧
     ∀ i, i < m → c.st.out.getD i 0 = (if b.st.has.getD i false then b.st.out.getD i 0 else a.st.out.getD i 0) ∧ c.st.has.getD i false = (a.st.has.getD i false || b.st.has.getD i false) := by
 have h := run_append (q := q) hp hh (inp := inp) 0 (start pay m) (by omega)
 rw [ha, hf] at h
 obtain ⟨l1, l2, _⟩ := run_lens p inp pay m
 rw [ha] at l1 l2
 have ho : Over a.st.out a.st.has a.st (start a.st.pay m) :=
  ⟨rfl, rfl, by simp [start, l1], rfl, by simp [start, l2], fun i hi => by rw [if_neg]; simp [start, List.getD_eq_getElem?_getD, List.getElem?_replicate]; split <;> simp, fun i hi => by simp [start, List.getD_eq_getElem?_getD, List.getElem?_replicate]; split <;> simp⟩
 obtain ⟨r1, r2, r3⟩ := run_over hq (inp := inp) (o0 := a.st.out) (h0 := a.st.has) (by omega) 0 a.st (start a.st.pay m) .start ho (fun r hr => absurd .start hr)
 rw [hb] at r1 r2 r3
 subst hc
 rw [h]
 refine ⟨r1, by simp only; rw [r2], r3.pay, fun i hi => ⟨r3.out i (by omega), r3.has i (by omega)⟩⟩

end Go.Proofs.YtegjeincncccaaaGreatDoor.B

namespace Go.Proofs.YtegjeincncccaaaGreatDoor.B

section
variable {inp : List Nat} {s : St} {a b n m : Nat}

theorem exec_0 : (⟨0, a, b, n, m⟩ : Ins).exec inp s = .halt := by simp [Ins.exec, Ins.isW, Ins.lays]
theorem exec_1 : (⟨1, a, b, n, m⟩ : Ins).exec inp s = .go 0 (s.set a m) := by simp [Ins.exec, Ins.isW, Ins.val]
theorem exec_2 : (⟨2, a, b, n, m⟩ : Ins).exec inp s = .go 0 (s.set a (s.r b)) := by simp [Ins.exec, Ins.isW, Ins.val]
theorem exec_3 : (⟨3, a, b, n, m⟩ : Ins).exec inp s = .go 0 (s.set a (s.r a &&& s.r b)) := by simp [Ins.exec, Ins.isW, Ins.val]
theorem exec_4 : (⟨4, a, b, n, m⟩ : Ins).exec inp s = .go 0 (s.set a (s.r a ||| s.r b)) := by simp [Ins.exec, Ins.isW, Ins.val]
theorem exec_5 : (⟨5, a, b, n, m⟩ : Ins).exec inp s = .go 0 (s.set a (s.r a ^^^ s.r b)) := by simp [Ins.exec, Ins.isW, Ins.val]
theorem exec_6 : (⟨6, a, b, n, m⟩ : Ins).exec inp s = .go 0 (s.set a (shl64 (s.r a) n)) := by simp [Ins.exec, Ins.isW, Ins.val]
theorem exec_7 : (⟨7, a, b, n, m⟩ : Ins).exec inp s = .go 0 (s.set a (s.r a / 2 ^ n)) := by simp [Ins.exec, Ins.isW, Ins.val]
theorem exec_8 : (⟨8, a, b, n, m⟩ : Ins).exec inp s = .go 0 (s.set a (s.r a &&& m)) := by simp [Ins.exec, Ins.isW, Ins.val]
theorem exec_9 : (⟨9, a, b, n, m⟩ : Ins).exec inp s = .go 0 (s.set a (loadL ((s.pay.drop b).take n))) := by simp [Ins.exec, Ins.isW, Ins.val]
theorem exec_10 : (⟨10, a, b, n, m⟩ : Ins).exec inp s = .go 0 (s.set a (loadB ((s.pay.drop b).take n))) := by simp [Ins.exec, Ins.isW, Ins.val]
theorem exec_11 : (⟨11, a, b, n, m⟩ : Ins).exec inp s = .go 0 { s with pay := patch s.pay b (storeL (s.r a) all64 0 ((s.pay.drop b).take n)) } := by simp [Ins.exec, Ins.isW, Ins.lays, Ins.lay]
theorem exec_12 : (⟨12, a, b, n, m⟩ : Ins).exec inp s = .go 0 { s with pay := patch s.pay b (storeB (s.r a) all64 ((s.pay.drop b).take n)) } := by simp [Ins.exec, Ins.isW, Ins.lays, Ins.lay]
theorem exec_13 : (⟨13, a, b, n, m⟩ : Ins).exec inp s = .go 0 { s with pay := patch s.pay b (storeL (s.r a) m 0 ((s.pay.drop b).take n)) } := by simp [Ins.exec, Ins.isW, Ins.lays, Ins.lay]
theorem exec_14 : (⟨14, a, b, n, m⟩ : Ins).exec inp s = .go 0 (s.set a (extend (s.r a) n true)) := by simp [Ins.exec, Ins.isW, Ins.val]
theorem exec_15 : (⟨15, a, b, n, m⟩ : Ins).exec inp s = .go 0 (s.set a (inp.getD b 0)) := by simp [Ins.exec, Ins.isW, Ins.val]
theorem exec_16 : (⟨16, a, b, n, m⟩ : Ins).exec inp s = .go 0 { s with out := s.out.set b (s.r a), has := s.has.set b true } := by simp [Ins.exec, Ins.isW, Ins.lays]
theorem exec_17y (h : fits (s.r a) n (decide (m = 1)) = true) : (⟨17, a, b, n, m⟩ : Ins).exec inp s = .go 0 s := by
 have e : ((m : Int) == 1) = decide (m = 1) := by rw [Bool.eq_iff_iff]; simp; omega
 simp [Ins.exec, Ins.isW, Ins.lays, e, h]
theorem exec_17n (h : fits (s.r a) n (decide (m = 1)) = false) : (⟨17, a, b, n, m⟩ : Ins).exec inp s = .fail b := by
 have e : ((m : Int) == 1) = decide (m = 1) := by rw [Bool.eq_iff_iff]; simp; omega
 simp [Ins.exec, Ins.isW, Ins.lays, e, h]
theorem exec_18 : (⟨18, a, b, n, m⟩ : Ins).exec inp s = .go n s := by simp [Ins.exec, Ins.isW, Ins.lays]
theorem exec_19y (h : s.r a = m) : (⟨19, a, b, n, m⟩ : Ins).exec inp s = .go 0 s := by simp [Ins.exec, Ins.isW, Ins.lays, h]
theorem exec_19n (h : s.r a ≠ m) : (⟨19, a, b, n, m⟩ : Ins).exec inp s = .go n s := by simp [Ins.exec, Ins.isW, Ins.lays, h]
end

/-- what is known of an operation's fields -/
structure OpOk (o : Int) (a b n m size slots left : Nat) : Prop where
 ha : a ≤ 15
 hm : m < 18446744073709551616
 regs : 2 ≤ o ∧ o ≤ 5 → b ≤ 15
 shift : 6 ≤ o ∧ o ≤ 7 → n ≤ 63
 bytes : 9 ≤ o ∧ o ≤ 13 → 1 ≤ n ∧ n ≤ 8 ∧ b + n ≤ size
 width : o = 14 ∨ o = 17 → 1 ≤ n ∧ n ≤ 64
 slot : 15 ≤ o ∧ o ≤ 17 → b < slots
 jump : 18 ≤ o ∧ o ≤ 19 → n ≤ left

theorem op_ok {x : Ins} {size slots left : Nat} (hr : x.right = true) (ht : x.touch size slots left = 0) : ∃ a b n m : Nat, x = ⟨x.op, a, b, n, m⟩ ∧ OpOk x.op a b n m size slots left := by
 have hb := right_bounds hr
 obtain ⟨o, xa, xb, xn, xm⟩ := x
 simp only at hb
 obtain ⟨⟨o0, o1⟩, ⟨a0, a1⟩, ⟨b0, b1⟩, ⟨n0, n1⟩, m0, m1⟩ := hb
 obtain ⟨a, rfl⟩ : ∃ t : Nat, xa = t := ⟨xa.toNat, by omega⟩
 obtain ⟨b, rfl⟩ : ∃ t : Nat, xb = t := ⟨xb.toNat, by omega⟩
 obtain ⟨n, rfl⟩ : ∃ t : Nat, xn = t := ⟨xn.toNat, by omega⟩
 obtain ⟨m, rfl⟩ : ∃ t : Nat, xm = t := ⟨xm.toNat, by omega⟩
 refine ⟨a, b, n, m, rfl, ?_⟩
 show OpOk o a b n m size slots left
 unfold Ins.right at hr
 simp only [Bool.and_eq_true, decide_eq_true_eq] at hr
 obtain ⟨⟨⟨⟨_, r2⟩, r3⟩, _⟩, r5⟩ := hr
 unfold Ins.touch at ht
 simp only at ht
 refine ⟨by omega, by omega, fun h => ?_, fun h => ?_, fun h => ?_, fun h => ?_, fun h => ?_, fun h => ?_⟩
 ·have := r2.2; unfold hiB at this; rw [if_pos h] at this; omega
 ·have := r3.2; unfold hiN at this; rw [if_pos h] at this; omega
 ·rw [if_pos h] at ht
  have h1 := r3.1; unfold loN at h1; rw [if_pos (by omega)] at h1
  have h2 := r3.2; unfold hiN at h2; rw [if_neg (by omega), if_pos (by omega)] at h2
  split at ht <;> omega
 ·have h1 := r3.1; unfold loN at h1; rw [if_pos (by omega)] at h1
  have h2 := r3.2; unfold hiN at h2; rw [if_neg (by omega), if_neg (by omega), if_pos (by omega)] at h2
  omega
 ·rw [if_neg (by omega), if_pos h] at ht
  split at ht <;> omega
 ·rw [if_neg (by omega), if_neg (by omega), if_pos h] at ht
  split at ht <;> omega

theorem StOk.hand {size slots : Nat} {s : St} (h : StOk size slots s) (k v : Nat) (hv : v < 18446744073709551616) : StOk size slots { s with out := s.out.set k v, has := s.has.set k true } :=
 ⟨h.reg, h.pay, h.payl, by simpa using h.outl, by simpa using h.hasl, fun b hb => by
  rcases List.mem_or_eq_of_mem_set hb with hb | rfl
  ·exact h.outw b hb
  ·exact hv⟩

theorem StOk.patch {size slots : Nat} {s : St} (h : StOk size slots s) {b : Nat} {new : List Nat} (hn : Bytes new) (hb : b + new.length ≤ size) : StOk size slots { s with pay := patch s.pay b new } :=
 h.lay _ (patch_bytes h.pay hn) (by rw [patch_length (by rw [h.payl]; exact hb), h.payl])

end Go.Proofs.YtegjeincncccaaaGreatDoor.B
