/- Package law15: a signal of 64 bits, both ways of counting; as many branches as may be. -/
import Derived.Test.YtdpjbnjlognmeaaGreatDoorLyP
namespace Go.Proofs.YtdpjbnjlognmeaaGreatDoor
open Go.RowKit

namespace Code

attribute [local go_sem ↓] Go.wp_at_zero Go.wp_at_succ

theorem OwnSg.ownB {w : World} {base n cap : Nat} {ao : Option Addr} {L : List (B.Sig × Value)} (h : OwnSg w base ao n cap L) : Value.ownBlock (.slice ao n cap) = none ∨ ∃ g C, Value.ownBlock (.slice ao n cap) = some g ∧ w.heap[g]? = some (.cells C 40 (0, 0)) := by
 rcases h.form with ⟨rfl, _⟩ | ⟨g, rfl, _, _, C, hC⟩
 ·exact .inl rfl
 ·exact .inr ⟨g, C, rfl, hC⟩
theorem RC.grownS {w w' : World} {b n m base cap : Nat} {T : TypeId} {C : Array Value} {ao : Option Addr} {L : List (B.Sig × Value)} (h : RC w b T n C) (ho : OwnSg w base ao m cap L) (hT : T ≠ 40) (hg : w.grownBy w' (Value.ownBlock (.slice ao m cap))) : RC w' b T n C := by
 rcases ho.ownB with e | ⟨g, D, e, hD⟩
 ·rw [e] at hg
  exact RC.of h (hg.block b h.blk (by simp))
 ·rw [e] at hg
  exact h.grownT hD hT hg
theorem One.OwnV.grownS {w w' : World} {base n cap base' m cap' : Nat} {E : TypeId} {ao ao' : Option Addr} {vs : List Value} {L : List (B.Sig × Value)} (h : One.OwnV E w base ao n cap vs) (ho : OwnSg w base' ao' m cap' L) (hT : E ≠ 40) (hg : w.grownBy w' (Value.ownBlock (.slice ao' m cap'))) : One.OwnV E w' base ao n cap vs := by
 rcases ho.ownB with e | ⟨g, D, e, hD⟩
 ·rw [e] at hg
  refine h.keep (fun b e1 => ?_)
  rcases h.form with ⟨e0, _⟩ | ⟨b', e2, _, hlt⟩
  ·rw [e0] at e1; cases e1
  ·rw [e2] at e1
   injection e1 with e1
   injection e1 with e1 _ _
   subst e1
   exact hg.block _ hlt (by simp)
 ·rw [e] at hg
  exact h.grownT hD hT hg

theorem wf_many : MsgWf (B.manyM 63) := by
 refine ⟨show B.In64 0 from ⟨by omega, by omega⟩, show B.In64 0 from ⟨by omega, by omega⟩, ⟨show (0 : Int) ≤ 0 by omega, show (0 : Int) ≤ 4294967295 by omega⟩, by show (ByteArray.mk #[86]).size ≤ _; decide, show B.In64 8 from ⟨by omega, by omega⟩, by show (ByteArray.mk #[65]).size ≤ _; decide, fun s hs => ?_⟩
 have hs' : s ∈ B.manyS 63 := hs
 unfold B.manyS at hs'
 rcases List.mem_cons.1 hs' with rfl | hm
 ·exact ⟨show B.In64 0 from ⟨by omega, by omega⟩, show B.In64 0 from ⟨by omega, by omega⟩, by show (ByteArray.mk #[120]).size ≤ _; decide, show B.In64 1 from ⟨by omega, by omega⟩, show B.InU64 0 from ⟨by omega, by omega⟩, show B.In64 0 from ⟨by omega, by omega⟩, show B.In64 6 from ⟨by omega, by omega⟩, ⟨show B.In64 1 from ⟨by omega, by omega⟩, show B.In64 1 from ⟨by omega, by omega⟩⟩, ⟨show B.In64 0 from ⟨by omega, by omega⟩, show B.In64 1 from ⟨by omega, by omega⟩⟩, ⟨show B.In64 0 from ⟨by omega, by omega⟩, show B.In64 1 from ⟨by omega, by omega⟩⟩, ⟨show B.In64 0 from ⟨by omega, by omega⟩, show B.In64 1 from ⟨by omega, by omega⟩⟩, by show (ByteArray.mk #[]).size ≤ _; decide, fun t ht => by obtain rfl := List.mem_singleton.1 ht; decide⟩
 ·obtain ⟨i, hi, rfl⟩ := List.mem_map.1 hm
  have hi := List.mem_range.1 hi
  exact ⟨show B.In64 0 from ⟨by omega, by omega⟩, show B.In64 0 from ⟨by omega, by omega⟩, by show (B.turnName i).size ≤ _; unfold B.turnName; simp [ByteArray.size], show B.In64 2 from ⟨by omega, by omega⟩, show B.InU64 (i : Int) from ⟨by omega, by omega⟩, show B.In64 6 from ⟨by omega, by omega⟩, show B.In64 58 from ⟨by omega, by omega⟩, ⟨show B.In64 1 from ⟨by omega, by omega⟩, show B.In64 1 from ⟨by omega, by omega⟩⟩, ⟨show B.In64 0 from ⟨by omega, by omega⟩, show B.In64 1 from ⟨by omega, by omega⟩⟩, ⟨show B.In64 0 from ⟨by omega, by omega⟩, show B.In64 1 from ⟨by omega, by omega⟩⟩, ⟨show B.In64 0 from ⟨by omega, by omega⟩, show B.In64 1 from ⟨by omega, by omega⟩⟩, by show (ByteArray.mk #[]).size ≤ _; decide, fun t ht => by obtain rfl := List.mem_singleton.1 ht; decide⟩
theorem many_len : (B.manyM 63).sigs.length = 64 := B.manyS_len 63
theorem many_no0 : (B.manyM 63).no.1 = 0 := by rw [B.many_no]
theorem many_bytes : B.Bytes [0, 0, 0, 0, 0, 0, 0, 0] := by unfold B.Bytes; decide
theorem many_words : B.Words (B.manyV 63) := fun x hx => by
 unfold B.manyV at hx
 rcases List.mem_cons.1 hx with rfl | hm
 ·decide
 ·obtain ⟨i, hi, rfl⟩ := List.mem_map.1 hm
  omega
theorem wf_w (mo : Bool) (st : Int) (h : B.In64 st) : MsgWf (B.wM mo st) := by
 refine ⟨show B.In64 0 from ⟨by omega, by omega⟩, show B.In64 0 from ⟨by omega, by omega⟩, ⟨show (0 : Int) ≤ 0 by omega, show (0 : Int) ≤ 4294967295 by omega⟩, by show (ByteArray.mk #[87]).size ≤ _; decide, show B.In64 8 from ⟨by omega, by omega⟩, by show (ByteArray.mk #[65]).size ≤ _; decide, fun s hs => ?_⟩
 obtain rfl := List.mem_singleton.1 hs
 exact ⟨show B.In64 0 from ⟨by omega, by omega⟩, show B.In64 0 from ⟨by omega, by omega⟩, by show (ByteArray.mk #[119]).size ≤ _; decide, show B.In64 0 from ⟨by omega, by omega⟩, show B.InU64 0 from ⟨by omega, by omega⟩, h, show B.In64 64 from ⟨by omega, by omega⟩, ⟨show B.In64 1 from ⟨by omega, by omega⟩, show B.In64 1 from ⟨by omega, by omega⟩⟩, ⟨show B.In64 0 from ⟨by omega, by omega⟩, show B.In64 1 from ⟨by omega, by omega⟩⟩, ⟨show B.In64 0 from ⟨by omega, by omega⟩, show B.In64 1 from ⟨by omega, by omega⟩⟩, ⟨show B.In64 0 from ⟨by omega, by omega⟩, show B.In64 1 from ⟨by omega, by omega⟩⟩, by show (ByteArray.mk #[]).size ≤ _; decide, fun t ht => by obtain rfl := List.mem_singleton.1 ht; decide⟩

/-- one signal in a block just made -/
theorem ownSg_one {w : World} {base b : Nat} {s : B.Sig} {C : Array Value} (hC : C = sigC s (.slice (some ⟨b, 0, none⟩) 1 1)) (hb : base ≤ w.heap.size) (hs : w.heap[b]? = some (.cells #[.string ⟨#[65]⟩] 9 (0, 0))) (hd : s.dest = [⟨#[65]⟩]) : OwnSg (w.alloc (.cells C 40)) base (some ⟨w.heap.size, 0, none⟩) 1 1 [(s, .slice (some ⟨b, 0, none⟩) 1 1)] := by
 subst hC
 refine ⟨rfl, ⟨(sigC s (.slice (some ⟨b, 0, none⟩) 1 1)).toList, ⟨rfl, .inr ⟨w.heap.size, 1, _, rfl, hb, heap_alloc_new w _, Nat.le_refl _, by decide, rfl, rfl⟩⟩, fun i p hp j hj => ?_⟩, fun p hp => ?_⟩
 ·have hi : i = 0 := by have := (List.getElem?_eq_some_iff.1 hp).1; simp at this; omega
  subst hi
  obtain rfl := Option.some.inj hp
  rw [Nat.zero_mul, Nat.zero_add, Array.getElem?_toList]
 ·obtain rfl := List.mem_singleton.1 hp
  show ToAt _ _ s.dest
  rw [hd]
  exact toAt_one ((Below.heap_alloc _ _ _ (lt_of_block hs)).trans hs)

theorem ownV_new (E : TypeId) (w : World) (v : Value) (base X : Nat) (hX : X = w.heap.size) (hb : base ≤ w.heap.size) : One.OwnV E (w.alloc (.cells #[v] E)) base (some ⟨X, 0, none⟩) 1 1 [v] := by
 subst hX
 exact ⟨rfl, rfl, .inr ⟨w.heap.size, 1, #[v], rfl, hb, heap_alloc_new w _, Nat.le_refl _, by decide, rfl, rfl⟩⟩
theorem One.OwnV.blockT {E : TypeId} {w : World} {base n cap g : Nat} {vs : List Value} (h : One.OwnV E w base (some ⟨g, 0, none⟩) n cap vs) : ∃ C, w.heap[g]? = some (.cells C E (0, 0)) := by
 rcases h.own.2 with ⟨e, _⟩ | ⟨g', c, cur, e, _, hh, _⟩
 ·cases e
 ·injection e with e _ _
  injection e with e
  injection e with e _ _
  subst e
  exact ⟨_, hh⟩
theorem RC.keepV {w w' : World} {b n m base cap : Nat} {T E : TypeId} {C : Array Value} {va : Option Addr} {vs : List Value} (h : RC w b T n C) (hv : One.OwnV E w base va m cap vs) (hne : T ≠ E) (hk : ∀ b, b < w.heap.size → va ≠ some ⟨b, 0, none⟩ → w'.heap[b]? = w.heap[b]?) : RC w' b T n C := by
 refine RC.of h (hk b h.blk (fun e => ?_))
 subst e
 obtain ⟨D, hD⟩ := hv.blockT
 obtain ⟨C', hC', _⟩ := h.1
 rw [hC'] at hD
 injection hD with hD
 injection hD with _ hT _
 exact hne hT
theorem OwnSg.keepV {w w' : World} {base n cap m base' cap' : Nat} {E : TypeId} {ao va : Option Addr} {L : List (B.Sig × Value)} {vs : List Value} (h : OwnSg w base ao n cap L) (hv : One.OwnV E w base' va m cap' vs) (h1 : 40 ≠ E) (h2 : 9 ≠ E) (hk : ∀ b, b < w.heap.size → va ≠ some ⟨b, 0, none⟩ → w'.heap[b]? = w.heap[b]?) : OwnSg w' base ao n cap L := by
 refine h.keep (fun g e => ?_) (fun b C' hC' => ?_)
 ·rcases h.form with ⟨e0, _⟩ | ⟨g', e1, _, hlt, C', hC'⟩
  ·rw [e0] at e; cases e
  ·rw [e1] at e
   injection e with e
   injection e with e _ _
   subst e
   refine hk _ hlt (fun e => ?_)
   subst e
   obtain ⟨D, hD⟩ := hv.blockT
   rw [hC'] at hD
   injection hD with hD
   injection hD with _ hT _
   exact h1 hT
 ·refine hk _ (lt_of_block hC') (fun e => ?_)
  subst e
  obtain ⟨D, hD⟩ := hv.blockT
  rw [hC'] at hD
  injection hD with hD
  injection hD with _ hT _
  exact h2 hT

/-- the branches as far as they are made -/
def ManyAt (k c : Nat) (va : Option Addr) (X : Nat) (w0 wr : World) : Prop := ∃ (ga : Option Addr) (cc : Nat) (L : List (B.Sig × Value)), OwnSg wr w0.heap.size ga (k + 1) cc L ∧ L.map (·.1) = B.manyS k ∧ RC wr X 27 8 #[.int .i64 0, .int .i64 0, .int .u32 0, .bool false, .string ⟨#[86]⟩, .int .i64 8, .string ⟨#[65]⟩, .slice ga (k + 1) cc] ∧ One.OwnV 35 wr w0.heap.size va (k + 1) c ((B.manyV k).map u64V) ∧ Below w0.heap.size w0 wr ∧ w0.heap.size ≤ X

theorem wrap_k (k : Nat) (h : k < 63) : IntKind.u64.wrap (k : Int) = (k : Int) ∧ IntKind.u64.wrap (18446744073709551615 - (k : Int)) = 18446744073709551615 - (k : Int) := by
 have : ∀ x : Fin 63, IntKind.u64.wrap (x.val : Int) = (x.val : Int) ∧ IntKind.u64.wrap (18446744073709551615 - (x.val : Int)) = 18446744073709551615 - (x.val : Int) := by decide +kernel
 exact this ⟨k, h⟩

set_option maxRecDepth 100000 in
set_option maxHeartbeats 25600000 in
theorem wide_any (w : World) (hU : UTabs w) (hT : Tabs w) : Calls Tryz.prog 21 #[] w (BoolOut true w) := by
 have HU := Lib.hid hU
 have HT := Lib.hid hT
 clear hU hT
 go_enter Tryz.func21, Tryz.ntmps21
 go_upto_region 2 with (first
  | (go_at_call 39; refine (signal_any _ _ _ _ _ _).mono ?_; rintro e v1 ⟨b1, rfl, hle1, hs1, hbv1⟩)
  | (refine wpList_store_mid (by rfl) 40 _ _ (by rfl) v1.heap.size 0 (sigC (B.sigL ⟨#[119]⟩ 0 0 0 64) (.slice (some ⟨b1, 0, none⟩) 1 1)) (by rfl) (by rfl) (there_alloc _ _ _ (by rfl)) (by rw [infoN40]; rfl) (ones_sig _ _ _ _) ?_; generalize hy1 : World.setCells _ _ _ _ = y1))
 have hby1 : Below v1.heap.size v1 y1 := by
  rw [← hy1]
  exact ((Below.refl _ _).alloc (Nat.le_refl _) _).grown (grownBy_setCells _ _ _ _) (by simp) (fun k hk => by cases hk; exact Nat.le_refl _)
 have hrow1 : RC y1 v1.heap.size 40 19 (sigC (B.sigL ⟨#[119]⟩ 0 0 0 64) (.slice (some ⟨b1, 0, none⟩) 1 1)) := by rw [← hy1]; exact RC.over _ _ _ _ (by rfl) rfl
 obtain ⟨K1, hK1⟩ : ∃ K, v1.heap.size = K := ⟨_, rfl⟩
 have hsy1 := (hby1.block _ (lt_of_block hs1)).trans hs1
 have hb0 := hbv1.trans (hby1.mono hbv1.size)
 rw [hK1] at hrow1 ⊢
 have hrr1 := RC.range hrow1
 have HSY := Lib.hid hsy1
 have HB0 := Lib.hid hb0
 clear hy1 hby1 hrow1 hK1 hsy1 hb0 hs1 hbv1 hle1
 go_upto_region 3 with (refine wpList_load_mid (by rfl) 40 _ (by rfl) K1 0 (by rfl) (#[.int .i64 0, .int .i64 0, .string ⟨#[119]⟩, .int .i64 0, .int .u64 0, .int .i64 0, .int .i64 64, .bool false, .bool false, .int .i64 1, .int .i64 1, .int .i64 0, .int .i64 1, .int .i64 0, .int .i64 1, .int .i64 0, .int .i64 1, .string ⟨#[]⟩, .slice (some ⟨b1, 0, none⟩) 1 1] : Array Value).toList _ hrr1 Tryz.underlying40 (by rfl) (by rw [infoN40]; rfl) ?_)
 have hown2 := ownSg_one (w := y1) (base := w.heap.size) (s := B.sigL ⟨#[119]⟩ 0 0 0 64) (b := b1) (C := #[.int .i64 0, .int .i64 0, .string ⟨#[119]⟩, .int .i64 0, .int .u64 0, .int .i64 0, .int .i64 64, .bool false, .bool false, .int .i64 1, .int .i64 1, .int .i64 0, .int .i64 1, .int .i64 0, .int .i64 1, .int .i64 0, .int .i64 1, .string ⟨#[]⟩, .slice (some ⟨b1, 0, none⟩) 1 1]) rfl HB0.out.size HSY.out rfl
 have hbx2 : Below y1.heap.size y1 (y1.alloc (.cells #[.int .i64 0, .int .i64 0, .string ⟨#[119]⟩, .int .i64 0, .int .u64 0, .int .i64 0, .int .i64 64, .bool false, .bool false, .int .i64 1, .int .i64 1, .int .i64 0, .int .i64 1, .int .i64 0, .int .i64 1, .int .i64 0, .int .i64 1, .string ⟨#[]⟩, .slice (some ⟨b1, 0, none⟩) 1 1] 40)) := (Below.refl _ _).alloc (Nat.le_refl _) _
 have hz2 : (y1.alloc (.cells #[.int .i64 0, .int .i64 0, .string ⟨#[119]⟩, .int .i64 0, .int .u64 0, .int .i64 0, .int .i64 64, .bool false, .bool false, .int .i64 1, .int .i64 1, .int .i64 0, .int .i64 1, .int .i64 0, .int .i64 1, .int .i64 0, .int .i64 1, .string ⟨#[]⟩, .slice (some ⟨b1, 0, none⟩) 1 1] 40)).heap.size = y1.heap.size + 1 := by simp
 obtain ⟨w2, hw2⟩ : ∃ w2, y1.alloc (.cells #[.int .i64 0, .int .i64 0, .string ⟨#[119]⟩, .int .i64 0, .int .u64 0, .int .i64 0, .int .i64 64, .bool false, .bool false, .int .i64 1, .int .i64 1, .int .i64 0, .int .i64 1, .int .i64 0, .int .i64 1, .int .i64 0, .int .i64 1, .string ⟨#[]⟩, .slice (some ⟨b1, 0, none⟩) 1 1] 40) = w2 := ⟨_, rfl⟩
 obtain ⟨G, hG⟩ : ∃ G, y1.heap.size = G := ⟨_, rfl⟩
 rw [hw2] at hown2 hbx2 hz2
 rw [hG] at hown2 hz2
 try rw [hw2]
 try rw [hG]
 have hbw2 := HB0.out.trans (hbx2.mono HB0.out.size)
 have hown3 := hown2.kept (w' := w2.alloc (.cells #[.int .i64 0, .int .i64 0, .int .u32 0, .bool false, .string ⟨#[87]⟩, .int .i64 8, .string ⟨#[65]⟩, .slice (some ⟨G, 0, none⟩) 1 1] 27)) ((Below.refl _ _).alloc (Nat.le_refl _) _)
 have hrow3 := RC.new #[.int .i64 0, .int .i64 0, .int .u32 0, .bool false, .string ⟨#[87]⟩, .int .i64 8, .string ⟨#[65]⟩, .slice (some ⟨G, 0, none⟩) 1 1] 27 w2 (n := 8) rfl hz2.symm
 have hbw3 := hbw2.alloc hbw2.size (.cells #[.int .i64 0, .int .i64 0, .int .u32 0, .bool false, .string ⟨#[87]⟩, .int .i64 8, .string ⟨#[65]⟩, .slice (some ⟨G, 0, none⟩) 1 1] 27)
 obtain ⟨w3, hw3⟩ : ∃ w3, w2.alloc (.cells #[.int .i64 0, .int .i64 0, .int .u32 0, .bool false, .string ⟨#[87]⟩, .int .i64 8, .string ⟨#[65]⟩, .slice (some ⟨G, 0, none⟩) 1 1] 27) = w3 := ⟨_, rfl⟩
 rw [hw3] at hown3 hrow3 hbw3
 try rw [hw3]
 obtain ⟨X, hX⟩ : ∃ X, G + 1 = X := ⟨_, rfl⟩
 rw [hX] at hrow3
 try rw [hX]
 have HOWN3 := Lib.hid hown3
 have HROW3 := Lib.hid hrow3
 have HB3 := Lib.hid hbw3
 clear hw2 hG hw3 hX hown2 hbx2 hz2 hbw2 hown3 hrow3 hbw3 hrr1 HSY HB0
 have hrr1 := RC.range HROW3.out
 go_wp2_with (refine wpList_load_mid (by rfl) 27 _ (by rfl) X 0 (by rfl) (#[.int .i64 0, .int .i64 0, .int .u32 0, .bool false, .string ⟨#[87]⟩, .int .i64 8, .string ⟨#[65]⟩, .slice (some ⟨G, 0, none⟩) 1 1] : Array Value).toList _ hrr1 Tryz.underlying27 (by rfl) (by kernel_rfl) ?_)
 have hA := (listAt_new ([1, 2, 3, 4, 5, 6, 7, 8].map u8V) #[.int .u8 1, .int .u8 2, .int .u8 3, .int .u8 4, .int .u8 5, .int .u8 6, .int .u8 7, .int .u8 8] 8 w3.heap.size 5 w3 rfl rfl rfl).below (w' := ((w3.alloc (.cells #[.int .u8 1, .int .u8 2, .int .u8 3, .int .u8 4, .int .u8 5, .int .u8 6, .int .u8 7, .int .u8 8] 5)).alloc (.cells #[.int .u64 72623859790382856] 35))) ((Below.refl _ _).alloc (Nat.le_refl _) _) (Nat.le_refl _)
 have hV := listAt_new ([72623859790382856].map u64V) #[.int .u64 72623859790382856] 1 (w3.heap.size + 1) 35 (w3.alloc (.cells #[.int .u8 1, .int .u8 2, .int .u8 3, .int .u8 4, .int .u8 5, .int .u8 6, .int .u8 7, .int .u8 8] 5)) rfl rfl (by simp)
 have hbi : Below w3.heap.size w3 ((w3.alloc (.cells #[.int .u8 1, .int .u8 2, .int .u8 3, .int .u8 4, .int .u8 5, .int .u8 6, .int .u8 7, .int .u8 8] 5)).alloc (.cells #[.int .u64 72623859790382856] 35)) := ((Below.refl _ _).alloc (Nat.le_refl _) _).alloc (by simp) _
 have hown := HOWN3.out.kept hbi
 have hrow := HROW3.out.below hbi HROW3.out.blk
 have hbel := HB3.out.trans (hbi.mono HB3.out.size)
 generalize ((w3.alloc (.cells #[.int .u8 1, .int .u8 2, .int .u8 3, .int .u8 4, .int .u8 5, .int .u8 6, .int .u8 7, .int .u8 8] 5)).alloc (.cells #[.int .u64 72623859790382856] 35)) = z1 at *
 have hpk := packed_ok (B.wM false 0) (some ⟨G, 0, none⟩) (some ⟨w3.heap.size, 0, none⟩) (some ⟨w3.heap.size + 1, 0, none⟩) 1 1 8 8 1 1 [1, 2, 3, 4, 5, 6, 7, 8] [72623859790382856] z1 (wf_w false 0 ⟨by omega, by omega⟩) hown.sigsAt (HU.out.below hbel (Nat.le_refl _)) (HT.out.below hbel (Nat.le_refl _)) (by rw [B.w1_no]) rfl rfl hA hV (by unfold B.Bytes; decide) (by unfold B.Words; decide)
 obtain ⟨r1, hr⟩ : ∃ r, B.run (B.wM false 0).packI [72623859790382856] 0 (B.start [1, 2, 3, 4, 5, 6, 7, 8] (B.wM false 0).sigs.length) = r := ⟨_, rfl⟩
 have hex : r1.failed = none ∧ r1.st.pay = [8, 7, 6, 5, 4, 3, 2, 1] := by
  rw [← hr]
  exact B.w1_run
 rw [hr] at hpk
 replace hpk := hpk.mono fun e w' h => (RanTold.atL (h.ok hex.1) (np := 8) (by rw [hex.2]; rfl) rfl rfl)
 rw [hex.2] at hpk
 have HOWNa1 := Lib.hid hown
 have HROWa1 := Lib.hid hrow
 have HBa1 := Lib.hid hbel
 clear hr hex hA hV hbi hown hrow hbel hrr1
 go_upto_region 4 with (go_at_call 11; refine hpk.mono ?_; rintro e x1 ⟨a1, c1, a2, c2, a3, c3, rfl, o1, _, _, hb⟩)
 have hbn : Below x1.heap.size x1 (x1.alloc (.cells #[.bool false, .int .i64 0, .slice a1 8 c1, .slice a2 r1.st.out.length c2, .slice a3 r1.st.has.length c3, .int .i64 (r1.steps : Int)] 44)) := (Below.refl _ _).alloc (Nat.le_refl _) _
 have hbox := RC.new #[.bool false, .int .i64 0, .slice a1 8 c1, .slice a2 r1.st.out.length c2, .slice a3 r1.st.has.length c3, .int .i64 (r1.steps : Int)] 44 x1 (n := 6) rfl rfl
 have hlist := o1.kept hbn
 have hbzn := hb.trans (hbn.mono hb.size)
 obtain ⟨Y1, hY⟩ : ∃ Y, x1.heap.size = Y := ⟨_, rfl⟩
 obtain ⟨w4, hd⟩ : ∃ d, x1.alloc (.cells #[.bool false, .int .i64 0, .slice a1 8 c1, .slice a2 r1.st.out.length c2, .slice a3 r1.st.has.length c3, .int .i64 (r1.steps : Int)] 44) = d := ⟨_, rfl⟩
 rw [hd] at hbn hbox hlist hbzn
 rw [hY] at hbox
 try rw [hd]
 try rw [hY]
 have HOWNb1 := Lib.hid (HOWNa1.out.kept hbzn)
 have HROWb1 := Lib.hid (HROWa1.out.below hbzn HROWa1.out.blk)
 have HBb1 := Lib.hid (HBa1.out.trans (hbzn.mono HBa1.out.size))
 have HBOX1 := Lib.hid hbox
 have HLI1 := Lib.hid hlist
 clear hd hY hbn hbox hlist hbzn o1 hb hpk HOWNa1 HROWa1 HBa1
 have hp : ([(B.sigL ⟨#[119]⟩ 0 0 0 64, .slice (some ⟨b1, 0, none⟩) 1 1)] : List (B.Sig × Value))[0]? = some (B.sigL ⟨#[119]⟩ 0 0 0 64, .slice (some ⟨b1, 0, none⟩) 1 1) := rfl
 have k7 : w4.cell? ⟨X, 7, none⟩ = some (.slice (some ⟨G, 0, none⟩) 1 1) := HROWb1.out.cell (j := 7) rfl
 have d7 : w4.cell? ⟨G, 7, none⟩ = some (.bool false) := HOWNb1.out.cell (i := 0) (j := 7) hp (by omega)
 have f7 : w4.frozen? ⟨G, 7, none⟩ = false := HOWNb1.out.free 7
 have hown5 : OwnSg (w4.setCell ⟨G, 7, none⟩ (.bool true)) w.heap.size (some ⟨G, 0, none⟩) 1 1 [({ B.sigL ⟨#[119]⟩ 0 0 0 64 with moto := true }, .slice (some ⟨b1, 0, none⟩) 1 1)] := HOWNb1.out.put (i := 0) (f := 7) hp (.bool true) _ _ (by omega) (fun j hj => by
  match j, hj with
  | 0, _ => rfl
  | 1, _ => rfl
  | 2, _ => rfl
  | 3, _ => rfl
  | 4, _ => rfl
  | 5, _ => rfl
  | 6, _ => rfl
  | 7, _ => rfl
  | 8, _ => rfl
  | 9, _ => rfl
  | 10, _ => rfl
  | 11, _ => rfl
  | 12, _ => rfl
  | 13, _ => rfl
  | 14, _ => rfl
  | 15, _ => rfl
  | 16, _ => rfl
  | 17, _ => rfl
  | 18, _ => rfl
  | n + 19, h => omega) (HOWNb1.out.to_ _ (List.mem_of_getElem? hp))
 have hg5 := grownBy_setCells G [.bool true] 7 w4
 obtain ⟨C4, hC4⟩ := HOWNb1.out.block
 have hrow5 := HROWb1.out.grownT (w' := w4.setCell ⟨G, 7, none⟩ (.bool true)) hC4 (by decide) hg5
 have hbox5 := HBOX1.out.grownT (w' := w4.setCell ⟨G, 7, none⟩ (.bool true)) hC4 (by decide) hg5
 have hb5 : Below w.heap.size w (w4.setCell ⟨G, 7, none⟩ (.bool true)) := HBb1.out.setCell HOWNb1.out.le _
 have hli5 := HLI1.out.grownT (w' := w4.setCell ⟨G, 7, none⟩ (.bool true)) hC4 (by decide) hg5
 go_upto_region 5 with fail
 obtain ⟨w5, hw5⟩ : ∃ w5, w4.setCell ⟨G, 7, none⟩ (.bool true) = w5 := ⟨_, rfl⟩
 rw [hw5] at hown5 hrow5 hbox5 hb5 hli5
 try rw [hw5]
 have HOWN5 := Lib.hid hown5
 have HROW5 := Lib.hid hrow5
 have HBOX5 := Lib.hid hbox5
 have HB5 := Lib.hid hb5
 have HLI5 := Lib.hid hli5
 clear hw5 hown5 hrow5 hbox5 hb5 hli5 hg5 hC4 k7 d7 f7 hp HOWNb1 HROWb1 HBOX1 HBb1 HLI1
 have hp : ([({ B.sigL ⟨#[119]⟩ 0 0 0 64 with moto := true }, .slice (some ⟨b1, 0, none⟩) 1 1)] : List (B.Sig × Value))[0]? = some ({ B.sigL ⟨#[119]⟩ 0 0 0 64 with moto := true }, .slice (some ⟨b1, 0, none⟩) 1 1) := rfl
 have k7 : w5.cell? ⟨X, 7, none⟩ = some (.slice (some ⟨G, 0, none⟩) 1 1) := HROW5.out.cell (j := 7) rfl
 have d7 : w5.cell? ⟨G, 5, none⟩ = some (.int .i64 0) := HOWN5.out.cell (i := 0) (j := 5) hp (by omega)
 have f7 : w5.frozen? ⟨G, 5, none⟩ = false := HOWN5.out.free 5
 have hown6 : OwnSg (w5.setCell ⟨G, 5, none⟩ (.int .i64 7)) w.heap.size (some ⟨G, 0, none⟩) 1 1 [({ B.sigL ⟨#[119]⟩ 0 0 7 64 with moto := true }, .slice (some ⟨b1, 0, none⟩) 1 1)] := HOWN5.out.put (i := 0) (f := 5) hp (.int .i64 7) _ _ (by omega) (fun j hj => by
  match j, hj with
  | 0, _ => rfl
  | 1, _ => rfl
  | 2, _ => rfl
  | 3, _ => rfl
  | 4, _ => rfl
  | 5, _ => rfl
  | 6, _ => rfl
  | 7, _ => rfl
  | 8, _ => rfl
  | 9, _ => rfl
  | 10, _ => rfl
  | 11, _ => rfl
  | 12, _ => rfl
  | 13, _ => rfl
  | 14, _ => rfl
  | 15, _ => rfl
  | 16, _ => rfl
  | 17, _ => rfl
  | 18, _ => rfl
  | n + 19, h => omega) (HOWN5.out.to_ _ (List.mem_of_getElem? hp))
 have hg6 := grownBy_setCells G [.int .i64 7] 5 w5
 obtain ⟨C5, hC5⟩ := HOWN5.out.block
 have hrow6 := HROW5.out.grownT (w' := w5.setCell ⟨G, 5, none⟩ (.int .i64 7)) hC5 (by decide) hg6
 have hbox6 := HBOX5.out.grownT (w' := w5.setCell ⟨G, 5, none⟩ (.int .i64 7)) hC5 (by decide) hg6
 have hb6 : Below w.heap.size w (w5.setCell ⟨G, 5, none⟩ (.int .i64 7)) := HB5.out.setCell HOWN5.out.le _
 have hli6 := HLI5.out.grownT (w' := w5.setCell ⟨G, 5, none⟩ (.int .i64 7)) hC5 (by decide) hg6
 go_upto_region 6 with fail
 obtain ⟨w6, hw6⟩ : ∃ w6, w5.setCell ⟨G, 5, none⟩ (.int .i64 7) = w6 := ⟨_, rfl⟩
 rw [hw6] at hown6 hrow6 hbox6 hb6 hli6
 try rw [hw6]
 have HOWN6 := Lib.hid hown6
 have HROW6 := Lib.hid hrow6
 have HBOX6 := Lib.hid hbox6
 have HB6 := Lib.hid hb6
 have HLI6 := Lib.hid hli6
 clear hw6 hown6 hrow6 hbox6 hb6 hli6 hg6 hC5 k7 d7 f7 hp HOWN5 HROW5 HBOX5 HB5 HLI5
 have hrr2 := RC.range HROW6.out
 go_wp2_with (refine wpList_load_mid (by rfl) 27 _ (by rfl) X 0 (by rfl) (#[.int .i64 0, .int .i64 0, .int .u32 0, .bool false, .string ⟨#[87]⟩, .int .i64 8, .string ⟨#[65]⟩, .slice (some ⟨G, 0, none⟩) 1 1] : Array Value).toList _ hrr2 Tryz.underlying27 (by rfl) (by kernel_rfl) ?_)
 have hA := (listAt_new ([1, 2, 3, 4, 5, 6, 7, 8].map u8V) #[.int .u8 1, .int .u8 2, .int .u8 3, .int .u8 4, .int .u8 5, .int .u8 6, .int .u8 7, .int .u8 8] 8 w6.heap.size 5 w6 rfl rfl rfl).below (w' := ((w6.alloc (.cells #[.int .u8 1, .int .u8 2, .int .u8 3, .int .u8 4, .int .u8 5, .int .u8 6, .int .u8 7, .int .u8 8] 5)).alloc (.cells #[.int .u64 72623859790382856] 35))) ((Below.refl _ _).alloc (Nat.le_refl _) _) (Nat.le_refl _)
 have hV := listAt_new ([72623859790382856].map u64V) #[.int .u64 72623859790382856] 1 (w6.heap.size + 1) 35 (w6.alloc (.cells #[.int .u8 1, .int .u8 2, .int .u8 3, .int .u8 4, .int .u8 5, .int .u8 6, .int .u8 7, .int .u8 8] 5)) rfl rfl (by simp)
 have hbi : Below w6.heap.size w6 ((w6.alloc (.cells #[.int .u8 1, .int .u8 2, .int .u8 3, .int .u8 4, .int .u8 5, .int .u8 6, .int .u8 7, .int .u8 8] 5)).alloc (.cells #[.int .u64 72623859790382856] 35)) := ((Below.refl _ _).alloc (Nat.le_refl _) _).alloc (by simp) _
 have hown := HOWN6.out.kept hbi
 have hrow := HROW6.out.below hbi HROW6.out.blk
 have hbel := HB6.out.trans (hbi.mono HB6.out.size)
 have HBOX6a := Lib.hid (HBOX6.out.below hbi HBOX6.out.blk)
 have HLI6a := Lib.hid (HLI6.out.kept hbi)
 generalize ((w6.alloc (.cells #[.int .u8 1, .int .u8 2, .int .u8 3, .int .u8 4, .int .u8 5, .int .u8 6, .int .u8 7, .int .u8 8] 5)).alloc (.cells #[.int .u64 72623859790382856] 35)) = z2 at *
 have hpk := packed_ok (B.wM true 7) (some ⟨G, 0, none⟩) (some ⟨w6.heap.size, 0, none⟩) (some ⟨w6.heap.size + 1, 0, none⟩) 1 1 8 8 1 1 [1, 2, 3, 4, 5, 6, 7, 8] [72623859790382856] z2 (wf_w true 7 ⟨by omega, by omega⟩) hown.sigsAt (HU.out.below hbel (Nat.le_refl _)) (HT.out.below hbel (Nat.le_refl _)) (by rw [B.w2_no]) rfl rfl hA hV (by unfold B.Bytes; decide) (by unfold B.Words; decide)
 obtain ⟨r2, hr⟩ : ∃ r, B.run (B.wM true 7).packI [72623859790382856] 0 (B.start [1, 2, 3, 4, 5, 6, 7, 8] (B.wM true 7).sigs.length) = r := ⟨_, rfl⟩
 have hex : r2.failed = none ∧ r2.st.pay = [1, 2, 3, 4, 5, 6, 7, 8] := by
  rw [← hr]
  exact B.w2_run
 rw [hr] at hpk
 replace hpk := hpk.mono fun e w' h => (RanTold.atL (h.ok hex.1) (np := 8) (by rw [hex.2]; rfl) rfl rfl)
 rw [hex.2] at hpk
 have HOWNa2 := Lib.hid hown
 have HROWa2 := Lib.hid hrow
 have HBa2 := Lib.hid hbel
 clear hr hex hA hV hbi hown hrow hbel hrr2
 go_upto_region 7 with (go_at_call 11; refine hpk.mono ?_; rintro e x2 ⟨g1, h1, g2, h2, g3, h3, rfl, o1, _, _, hb⟩)
 have hbn : Below x2.heap.size x2 (x2.alloc (.cells #[.bool false, .int .i64 0, .slice g1 8 h1, .slice g2 r2.st.out.length h2, .slice g3 r2.st.has.length h3, .int .i64 (r2.steps : Int)] 44)) := (Below.refl _ _).alloc (Nat.le_refl _) _
 have hbox := RC.new #[.bool false, .int .i64 0, .slice g1 8 h1, .slice g2 r2.st.out.length h2, .slice g3 r2.st.has.length h3, .int .i64 (r2.steps : Int)] 44 x2 (n := 6) rfl rfl
 have hlist := o1.kept hbn
 have hbzn := hb.trans (hbn.mono hb.size)
 obtain ⟨Y2, hY⟩ : ∃ Y, x2.heap.size = Y := ⟨_, rfl⟩
 obtain ⟨w7, hd⟩ : ∃ d, x2.alloc (.cells #[.bool false, .int .i64 0, .slice g1 8 h1, .slice g2 r2.st.out.length h2, .slice g3 r2.st.has.length h3, .int .i64 (r2.steps : Int)] 44) = d := ⟨_, rfl⟩
 rw [hd] at hbn hbox hlist hbzn
 rw [hY] at hbox
 try rw [hd]
 try rw [hY]
 have HOWNb2 := Lib.hid (HOWNa2.out.kept hbzn)
 have HROWb2 := Lib.hid (HROWa2.out.below hbzn HROWa2.out.blk)
 have HBb2 := Lib.hid (HBa2.out.trans (hbzn.mono HBa2.out.size))
 have HBOX2 := Lib.hid hbox
 have HBOX6b := Lib.hid (HBOX6a.out.below hbzn HBOX6a.out.blk)
 have HLI6b := Lib.hid (HLI6a.out.kept hbzn)
 have HLI2 := Lib.hid hlist
 clear hd hY hbn hbox hlist hbzn o1 hb hpk HOWNa2 HROWa2 HBa2
 clear HOWNb2 HROWb2
 have c12 : w7.cell? ⟨Y1, 2, none⟩ = some (.slice a1 8 c1) := HBOX6b.out.cell (j := 2) rfl
 have hba : Below w7.heap.size w7 (w7.alloc (.cells #[.int .u8 8, .int .u8 7, .int .u8 6, .int .u8 5, .int .u8 4, .int .u8 3, .int .u8 2, .int .u8 1] 5)) := (Below.refl _ _).alloc (Nat.le_refl _) _
 have hsb := sameBytes_any a1 (some ⟨w7.heap.size, 0, none⟩) 8 c1 8 8 [8, 7, 6, 5, 4, 3, 2, 1] [8, 7, 6, 5, 4, 3, 2, 1] (w7.alloc (.cells #[.int .u8 8, .int .u8 7, .int .u8 6, .int .u8 5, .int .u8 4, .int .u8 3, .int .u8 2, .int .u8 1] 5)) (ListAt.ofOwn (HLI6b.out.kept hba).own) (listAt_new ([8, 7, 6, 5, 4, 3, 2, 1].map u8V) #[.int .u8 8, .int .u8 7, .int .u8 6, .int .u8 5, .int .u8 4, .int .u8 3, .int .u8 2, .int .u8 1] 8 w7.heap.size 5 w7 rfl rfl rfl) (by omega)
 rw [show decide (([8, 7, 6, 5, 4, 3, 2, 1] : List Nat) = [8, 7, 6, 5, 4, 3, 2, 1]) = true from decide_eq_true rfl] at hsb
 have HBA := Lib.hid hba
 clear hba
 go_wp2_with fail
 refine hsb.mono ?_
 rintro e v8 ⟨rfl, hb8⟩
 have hb8' := HBA.out.trans (hb8.mono HBA.out.size)
 have HB8 := Lib.hid (HBb2.out.trans (hb8'.mono HBb2.out.size))
 have hbox8 := HBOX2.out.below hb8' HBOX2.out.blk
 have c22 : v8.cell? ⟨Y2, 2, none⟩ = some (.slice g1 8 h1) := hbox8.cell (j := 2) rfl
 have hli8 := HLI2.out.kept hb8'
 have hba : Below v8.heap.size v8 (v8.alloc (.cells #[.int .u8 1, .int .u8 2, .int .u8 3, .int .u8 4, .int .u8 5, .int .u8 6, .int .u8 7, .int .u8 8] 5)) := (Below.refl _ _).alloc (Nat.le_refl _) _
 have hsb2 := sameBytes_any g1 (some ⟨v8.heap.size, 0, none⟩) 8 h1 8 8 [1, 2, 3, 4, 5, 6, 7, 8] [1, 2, 3, 4, 5, 6, 7, 8] (v8.alloc (.cells #[.int .u8 1, .int .u8 2, .int .u8 3, .int .u8 4, .int .u8 5, .int .u8 6, .int .u8 7, .int .u8 8] 5)) (ListAt.ofOwn (hli8.kept hba).own) (listAt_new ([1, 2, 3, 4, 5, 6, 7, 8].map u8V) #[.int .u8 1, .int .u8 2, .int .u8 3, .int .u8 4, .int .u8 5, .int .u8 6, .int .u8 7, .int .u8 8] 8 v8.heap.size 5 v8 rfl rfl rfl) (by omega)
 rw [show decide (([1, 2, 3, 4, 5, 6, 7, 8] : List Nat) = [1, 2, 3, 4, 5, 6, 7, 8]) = true from decide_eq_true rfl] at hsb2
 have HBA2 := Lib.hid hba
 clear hba hbox8 hli8 hb8 hb8' HBA hsb HBOX2 HLI2 HBOX6b HLI6b HBOX6 HLI6 HBOX6a HLI6a
 go_wp2_with fail
 refine hsb2.mono ?_
 rintro e v9 ⟨rfl, hb9⟩
 have HB9 := Lib.hid (HB8.out.trans ((HBA2.out.trans (hb9.mono HBA2.out.size)).mono HB8.out.size))
 clear hb9 HBA2 hsb2 HB8 c22 c12
 have hsg : Calls Tryz.prog 39 #[.string ⟨#[120]⟩, .int .i64 1, .int .u64 0, .int .i64 0, .int .i64 6] v9 (fun e w' => ∃ b, e = .returned (.agg #[.int .i64 0, .int .i64 0, .string ⟨#[120]⟩, .int .i64 1, .int .u64 0, .int .i64 0, .int .i64 6, .bool false, .bool false, .int .i64 1, .int .i64 1, .int .i64 0, .int .i64 1, .int .i64 0, .int .i64 1, .int .i64 0, .int .i64 1, .string ⟨#[]⟩, .slice (some ⟨b, 0, none⟩) 1 1]) ∧ v9.heap.size ≤ b ∧ w'.heap[b]? = some (.cells #[.string ⟨#[65]⟩] 9 (0, 0)) ∧ Below v9.heap.size v9 w') := signal_any ⟨#[120]⟩ 1 0 0 6 v9
 have HSG := Lib.hid hsg
 clear hsg
 go_upto_region 10 with (go_at_call 39; refine HSG.out.mono ?_; rintro e u1 ⟨b2, rfl, hle2, hs2, hbv2⟩)
 have hbu1 := HB9.out.trans (hbv2.mono HB9.out.size)
 have hown2 := ownSg_one (w := u1) (base := w.heap.size) (s := B.sigL ⟨#[120]⟩ 1 0 0 6) (b := b2) (C := #[.int .i64 0, .int .i64 0, .string ⟨#[120]⟩, .int .i64 1, .int .u64 0, .int .i64 0, .int .i64 6, .bool false, .bool false, .int .i64 1, .int .i64 1, .int .i64 0, .int .i64 1, .int .i64 0, .int .i64 1, .int .i64 0, .int .i64 1, .string ⟨#[]⟩, .slice (some ⟨b2, 0, none⟩) 1 1]) rfl hbu1.size hs2 rfl
 have hbx2 : Below u1.heap.size u1 (u1.alloc (.cells #[.int .i64 0, .int .i64 0, .string ⟨#[120]⟩, .int .i64 1, .int .u64 0, .int .i64 0, .int .i64 6, .bool false, .bool false, .int .i64 1, .int .i64 1, .int .i64 0, .int .i64 1, .int .i64 0, .int .i64 1, .int .i64 0, .int .i64 1, .string ⟨#[]⟩, .slice (some ⟨b2, 0, none⟩) 1 1] 40)) := (Below.refl _ _).alloc (Nat.le_refl _) _
 have hz2 : (u1.alloc (.cells #[.int .i64 0, .int .i64 0, .string ⟨#[120]⟩, .int .i64 1, .int .u64 0, .int .i64 0, .int .i64 6, .bool false, .bool false, .int .i64 1, .int .i64 1, .int .i64 0, .int .i64 1, .int .i64 0, .int .i64 1, .int .i64 0, .int .i64 1, .string ⟨#[]⟩, .slice (some ⟨b2, 0, none⟩) 1 1] 40)).heap.size = u1.heap.size + 1 := by simp
 obtain ⟨u2, hw2⟩ : ∃ u, u1.alloc (.cells #[.int .i64 0, .int .i64 0, .string ⟨#[120]⟩, .int .i64 1, .int .u64 0, .int .i64 0, .int .i64 6, .bool false, .bool false, .int .i64 1, .int .i64 1, .int .i64 0, .int .i64 1, .int .i64 0, .int .i64 1, .int .i64 0, .int .i64 1, .string ⟨#[]⟩, .slice (some ⟨b2, 0, none⟩) 1 1] 40) = u := ⟨_, rfl⟩
 obtain ⟨GV, hG⟩ : ∃ G, u1.heap.size = G := ⟨_, rfl⟩
 rw [hw2] at hown2 hbx2 hz2
 rw [hG] at hown2 hz2
 try rw [hw2]
 try rw [hG]
 have hbw2 := hbu1.trans (hbx2.mono hbu1.size)
 have hown3 := hown2.kept (w' := u2.alloc (.cells #[.int .i64 0, .int .i64 0, .int .u32 0, .bool false, .string ⟨#[86]⟩, .int .i64 8, .string ⟨#[65]⟩, .slice (some ⟨GV, 0, none⟩) 1 1] 27)) ((Below.refl _ _).alloc (Nat.le_refl _) _)
 have hrow3 := RC.new #[.int .i64 0, .int .i64 0, .int .u32 0, .bool false, .string ⟨#[86]⟩, .int .i64 8, .string ⟨#[65]⟩, .slice (some ⟨GV, 0, none⟩) 1 1] 27 u2 (n := 8) rfl hz2.symm
 have hbw3 := hbw2.alloc hbw2.size (.cells #[.int .i64 0, .int .i64 0, .int .u32 0, .bool false, .string ⟨#[86]⟩, .int .i64 8, .string ⟨#[65]⟩, .slice (some ⟨GV, 0, none⟩) 1 1] 27)
 obtain ⟨u3, hw3⟩ : ∃ u, u2.alloc (.cells #[.int .i64 0, .int .i64 0, .int .u32 0, .bool false, .string ⟨#[86]⟩, .int .i64 8, .string ⟨#[65]⟩, .slice (some ⟨GV, 0, none⟩) 1 1] 27) = u := ⟨_, rfl⟩
 rw [hw3] at hown3 hrow3 hbw3
 try rw [hw3]
 obtain ⟨XV, hX⟩ : ∃ X, GV + 1 = X := ⟨_, rfl⟩
 have hxle : w.heap.size ≤ XV := by have := hbu1.size; omega
 rw [hX] at hrow3
 try rw [hX]
 have hbl : Below u3.heap.size u3 (u3.alloc (.cells #[.int .u64 41] 35)) := (Below.refl _ _).alloc (Nat.le_refl _) _
 have hvv := ownV_new 35 u3 (.int .u64 41) w.heap.size u3.heap.size rfl hbw3.size
 have HM0 : Hid (ManyAt 0 1 (some ⟨u3.heap.size, 0, none⟩) XV w (u3.alloc (.cells #[.int .u64 41] 35))) := Lib.hid ⟨_, _, _, hown3.kept hbl, rfl, hrow3.below hbl hrow3.blk, hvv, hbw3.alloc hbw3.size _, hxle⟩
 clear hw2 hG hw3 hX hown2 hbx2 hz2 hbw2 hown3 hrow3 hbw3 hbl hvv hxle hbu1 hs2 hbv2 hle2 HSG HB9
 go_wp2_with fail
 go_loopw [8, 9] (fun v i wr => ∃ (k c : Nat) (va : Option Addr), k ≤ 63 ∧ i = .int .i64 (k : Int) ∧ v = .slice va (k + 1) c ∧ Hid (ManyAt k c va XV w wr)) (fun _ i _ => 63 - (intOf i).toNat)
 case atStart => exact ⟨0, 1, _, by omega, rfl, rfl, HM0⟩
 case round =>
  obtain ⟨k, c, va, hk, rfl, rfl, HM⟩ := hrel
  clear HM0
  by_cases hlt : k < 63
  ·have e1 : ((k : Int) < 63) = True := by simp; omega
   obtain ⟨ga, cc, L, ho, hL, hrow, hv, hb, hx⟩ := HM.out
   have u1' := (name_u8 k (by omega) (k / 8) (by omega)).1
   have u2' := (name_u8 k (by omega) (k % 8) (by omega)).1
   rw [show ((k / 8 : Nat) : Int) = (k : Int) / 8 from rfl] at u1'
   rw [show ((k % 8 : Nat) : Int) = (k : Int) % 8 from rfl] at u2'
   obtain ⟨u3', u4'⟩ := wrap_k k hlt
   have hcv := name_conv k (by omega) wr
   have q0 : (0 : Int) ≤ (k : Int) := by omega
   have q1 : (k : Int) < 63 := by omega
   have HO := Lib.hid ho
   have HL := Lib.hid hL
   have HR := Lib.hid hrow
   have HV := Lib.hid hv
   have HB := Lib.hid hb
   clear ho hL hrow hv hb HM
   have HSG := Lib.hid (signal_any (B.turnName k) 2 (k : Int) 6 58 (wr.alloc (.cells #[.int .u8 (97 + (k : Int) / 8), .int .u8 (97 + (k : Int) % 8)] 5)))
   go_upto_region 15 with (first
    | (go_at_call 39; refine HSG.out.mono ?_; rintro e v1 ⟨b1, rfl, hle1, hs1, hbv1⟩)
    | (refine wpList_store_mid (by rfl) 40 _ _ (by rfl) v1.heap.size 0 (sigC (B.sigL (B.turnName k) 2 (k : Int) 6 58) (.slice (some ⟨b1, 0, none⟩) 1 1)) (by rfl) (by rfl) (there_alloc _ _ _ (by rfl)) (by rw [infoN40]; rfl) (ones_sig _ _ _ _) ?_; generalize hy1 : World.setCells _ _ _ _ = y1))
   have hby1 : Below v1.heap.size v1 y1 := by
    rw [← hy1]
    exact ((Below.refl _ _).alloc (Nat.le_refl _) _).grown (grownBy_setCells _ _ _ _) (by simp) (fun k hk => by cases hk; exact Nat.le_refl _)
   have hrow1 : RC y1 v1.heap.size 40 19 (sigC (B.sigL (B.turnName k) 2 (k : Int) 6 58) (.slice (some ⟨b1, 0, none⟩) 1 1)) := by rw [← hy1]; exact RC.over _ _ _ _ (by rfl) rfl
   obtain ⟨K, hK⟩ : ∃ K, v1.heap.size = K := ⟨_, rfl⟩
   have hal : Below wr.heap.size wr (wr.alloc (.cells #[.int .u8 (97 + (k : Int) / 8), .int .u8 (97 + (k : Int) % 8)] 5)) := (Below.refl _ _).alloc (Nat.le_refl _) _
   have hbr1 : Below wr.heap.size wr v1 := hal.trans (hbv1.mono hal.size)
   have hlK : wr.heap.size ≤ K := by rw [← hK]; exact hbr1.size
   have hlb : b1 < K := by rw [← hK]; exact lt_of_block hs1
   have hbw1 : Below wr.heap.size wr y1 := hbr1.trans (hby1.mono hbr1.size)
   have hs2 := (hby1.block _ (lt_of_block hs1)).trans hs1
   rw [hK] at hrow1 ⊢
   have d8 : y1.cell? ⟨K, 8, none⟩ = some (.bool false) := hrow1.cell (j := 8) rfl
   have f8 : y1.frozen? ⟨K, 8, none⟩ = false := CellsAt.free hrow1.1 8
   have HROW1 := Lib.hid hrow1
   have HBW1 := Lib.hid hbw1
   have HS2 := Lib.hid hs2
   have HLB := Lib.hid hlb
   clear hy1 hby1 hrow1 hK hal hbr1 hbw1 hs2 hlb hs1 hbv1 hle1 HSG hcv u1' u2'
   go_upto_region 16 with fail
   have hrow2 : RC (y1.setCell ⟨K, 8, none⟩ (.bool true)) K 40 19 #[.int .i64 0, .int .i64 0, .string (B.turnName k), .int .i64 2, .int .u64 (k : Int), .int .i64 6, .int .i64 58, .bool false, .bool true, .int .i64 1, .int .i64 1, .int .i64 0, .int .i64 1, .int .i64 0, .int .i64 1, .int .i64 0, .int .i64 1, .string ⟨#[]⟩, .slice (some ⟨b1, 0, none⟩) 1 1] := HROW1.out.putL 8 _ rfl (fun j hj => by
    match j, hj with
    | 0, _ => rfl
    | 1, _ => rfl
    | 2, _ => rfl
    | 3, _ => rfl
    | 4, _ => rfl
    | 5, _ => rfl
    | 6, _ => rfl
    | 7, _ => rfl
    | 8, _ => rfl
    | 9, _ => rfl
    | 10, _ => rfl
    | 11, _ => rfl
    | 12, _ => rfl
    | 13, _ => rfl
    | 14, _ => rfl
    | 15, _ => rfl
    | 16, _ => rfl
    | 17, _ => rfl
    | 18, _ => rfl
    | n + 19, h => omega)
   have hbw2 : Below wr.heap.size wr (y1.setCell ⟨K, 8, none⟩ (.bool true)) := HBW1.out.setCell hlK _
   have hs3 : (y1.setCell ⟨K, 8, none⟩ (.bool true)).heap[b1]? = some (.cells #[.string ⟨#[65]⟩] 9 (0, 0)) := ((grownBy_setCells K [.bool true] 8 y1).block _ (lt_of_block HS2.out) (fun e => by cases e; exact Nat.lt_irrefl _ HLB.out)).trans HS2.out
   obtain ⟨y2, hy2⟩ : ∃ y, y1.setCell ⟨K, 8, none⟩ (.bool true) = y := ⟨_, rfl⟩
   rw [hy2] at hrow2 hbw2 hs3
   try rw [hy2]
   have hrr2 := RC.range hrow2
   have ho2 := HO.out.kept hbw2
   have hr2 := HR.out.below hbw2 HR.out.blk
   have hv2 := HV.out.kept hbw2
   have hb2 : Below w.heap.size w y2 := HB.out.trans (hbw2.mono HB.out.size)
   have hto2 : ToAt y2 (.slice (some ⟨b1, 0, none⟩) 1 1) (B.manyB k).dest := toAt_one hs3
   obtain ⟨xs, hxs, hxat⟩ := ho2.own
   have hxl : xs.length = (k + 1) * 19 := hxs.1
   have k7 : y2.cell? ⟨XV, 7, none⟩ = some (.slice ga (k + 1) cc) := hr2.cell (j := 7) rfl
   have hz2 : w.heap.size ≤ y2.heap.size := hb2.size
   have HO2 := Lib.hid ho2
   have HR2 := Lib.hid hr2
   have HV2 := Lib.hid hv2
   have HB2 := Lib.hid hb2
   have HTO2 := Lib.hid hto2
   have HXS := Lib.hid hxs
   have HXA := Lib.hid hxat
   have HXL := Lib.hid hxl
   clear hy2 hrow2 hbw2 hs3 ho2 hr2 hv2 hb2 hto2 hxs hxat hxl d8 f8 HROW1 HBW1 HS2 HLB HO HR HV HB hlK
   go_upto_region 17 with (first
    | refine wpList_load_mid (by rfl) 40 _ (by rfl) K 0 (by rfl) (#[.int .i64 0, .int .i64 0, .string (B.turnName k), .int .i64 2, .int .u64 (k : Int), .int .i64 6, .int .i64 58, .bool false, .bool true, .int .i64 1, .int .i64 1, .int .i64 0, .int .i64 1, .int .i64 0, .int .i64 1, .int .i64 0, .int .i64 1, .string ⟨#[]⟩, .slice (some ⟨b1, 0, none⟩) 1 1] : Array Value).toList _ hrr2 Tryz.underlying40 (by rfl) (by rw [infoN40]; rfl) ?_
    | (at_builtin; refine app_gen Tryz.underlying25 infoSg (by rfl) (by decide) rfl _ _ rfl w.heap.size rfl HXS.out rfl rfl (sigC_one (B.manyB k) _ _ _) (by omega) (by omega) hz2 ?_; intro ao6 c6 w6 hown6 hg6 hb6 hs6; have hal : Below y2.heap.size y2 (y2.alloc (.cells #[.int .i64 0, .int .i64 0, .string (B.turnName k), .int .i64 2, .int .u64 (k : Int), .int .i64 6, .int .i64 58, .bool false, .bool true, .int .i64 1, .int .i64 1, .int .i64 0, .int .i64 1, .int .i64 0, .int .i64 1, .int .i64 0, .int .i64 1, .string ⟨#[]⟩, .slice (some ⟨b1, 0, none⟩) 1 1] 40)) := (Below.refl _ _).alloc (Nat.le_refl _) _; have hsn := HO2.out.snoc hal (B.manyB k) _ (HTO2.out.below hal (Nat.le_refl _)) HXA.out HXL.out hown6 hg6; have hr6 := (HR2.out.below hal HR2.out.blk).grownS (HO2.out.kept hal) (by decide) hg6; have hv6 := (HV2.out.kept hal).grownS (HO2.out.kept hal) (by decide) hg6; have d7 : w6.cell? ⟨XV, 7, none⟩ = some (.slice ga (k + 1) cc) := hr6.cell (j := 7) rfl; have f7 : w6.frozen? ⟨XV, 7, none⟩ = false := CellsAt.free hr6.1 7; have HSN := Lib.hid hsn; have HR6 := Lib.hid hr6; have HV6 := Lib.hid hv6; have HB6 := Lib.hid (HB2.out.trans hb6); clear hsn hr6 hv6 hal hown6 hg6 hb6 hs6))
   obtain ⟨C6, hC6, _⟩ := HR6.out.1
   have hg7 := grownBy_setCells XV [.slice ao6 (k + 1 + 1) c6] 7 w6
   have ho7 : OwnSg (w6.setCell ⟨XV, 7, none⟩ (.slice ao6 (k + 1 + 1) c6)) w.heap.size ao6 (k + 1 + 1) c6 _ := HSN.out.grownT hC6 (by decide) (by decide) hg7
   have hr7 : RC (w6.setCell ⟨XV, 7, none⟩ (.slice ao6 (k + 1 + 1) c6)) XV 27 8 #[.int .i64 0, .int .i64 0, .int .u32 0, .bool false, .string ⟨#[86]⟩, .int .i64 8, .string ⟨#[65]⟩, .slice ao6 (k + 1 + 1) c6] := HR6.out.putL 7 _ rfl (fun j hj => by
    match j, hj with
    | 0, _ => rfl
    | 1, _ => rfl
    | 2, _ => rfl
    | 3, _ => rfl
    | 4, _ => rfl
    | 5, _ => rfl
    | 6, _ => rfl
    | 7, _ => rfl
    | n + 8, h => omega)
   have hv7 : One.OwnV 35 (w6.setCell ⟨XV, 7, none⟩ (.slice ao6 (k + 1 + 1) c6)) w.heap.size va (k + 1) c ((B.manyV k).map u64V) := HV6.out.grownT hC6 (by decide) hg7
   have hb7 : Below w.heap.size w (w6.setCell ⟨XV, 7, none⟩ (.slice ao6 (k + 1 + 1) c6)) := HB6.out.setCell hx _
   obtain ⟨y7, hy7⟩ : ∃ y, w6.setCell ⟨XV, 7, none⟩ (.slice ao6 (k + 1 + 1) c6) = y := ⟨_, rfl⟩
   rw [hy7] at ho7 hr7 hv7 hb7
   try rw [hy7]
   have hz7 : w.heap.size ≤ y7.heap.size := hb7.size
   have HO7 := Lib.hid ho7
   have HR7 := Lib.hid hr7
   have HV7 := Lib.hid hv7
   have HB7 := Lib.hid hb7
   clear hy7 ho7 hr7 hv7 hb7 hg7 hC6 HSN HR6 HV6 HB6 HO2 HR2 HV2 HB2 HTO2 HXS HXA HXL k7 d7 f7 hrr2 hz2
   go_upto_region 13 with (at_builtin; refine One.app_one Tryz.underlying29 infoSl (by rfl) rfl _ _ rfl w.heap.size rfl HV7.out (by rfl) rfl (by omega) (by omega) hz7 ?_; intro ao5 cap5 v5 hown5 hkeep5 _ hb5)
   have HOWN5 := Lib.hid hown5
   have HK5 := Lib.hid hkeep5
   have HB5 := Lib.hid hb5
   clear hown5 hkeep5 hb5
   go_wp2_with fail
   go_roundw
   case rel =>
    refine ⟨k + 1, cap5, ao5, by omega, by go_num, rfl, Lib.hid ⟨ao6, c6, _, HO7.out.keepV HV7.out (by decide) (by decide) HK5.out, ?_, HR7.out.keepV HV7.out (by decide) HK5.out, ?_, HB7.out.trans HB5.out, hx⟩⟩
    ·rw [List.map_append, HL.out, B.manyS_succ]
     rfl
    ·have ev : List.map u64V [18446744073709551615 - k] = [.int .u64 (18446744073709551615 - (k : Int))] := by simp [u64V]; omega
     rw [B.manyV_succ, List.map_append, ev]
     exact HOWN5.out
   case measure => simp [intOf]; omega
  ·obtain rfl : k = 63 := by omega
   have e0 : (((63 : Nat) : Int) < 63) = False := by simp
   clear hk hlt
   obtain ⟨ga, cc, L, ho, hL, hrow, hv, hb, hx⟩ := HM.out
   have ho : OwnSg wr w.heap.size ga 64 cc L := ho
   have hrow : RC wr XV 27 8 #[.int .i64 0, .int .i64 0, .int .u32 0, .bool false, .string ⟨#[86]⟩, .int .i64 8, .string ⟨#[65]⟩, .slice ga 64 cc] := hrow
   have hv : One.OwnV 35 wr w.heap.size va 64 c ((B.manyV 63).map u64V) := hv
   have hsg : SigsAt wr ga 64 (B.manyM 63).sigs := by
    have := ho.sigsAt
    rw [hL] at this
    exact this
   have hbi : Below wr.heap.size wr (wr.alloc (.cells #[.int .u8 0, .int .u8 0, .int .u8 0, .int .u8 0, .int .u8 0, .int .u8 0, .int .u8 0, .int .u8 0] 5)) := (Below.refl _ _).alloc (Nat.le_refl _) _
   have hA := listAt_new ([0, 0, 0, 0, 0, 0, 0, 0].map u8V) #[.int .u8 0, .int .u8 0, .int .u8 0, .int .u8 0, .int .u8 0, .int .u8 0, .int .u8 0, .int .u8 0] 8 wr.heap.size 5 wr rfl rfl rfl
   have hbel := hb.trans (hbi.mono hb.size)
   have hpk := packed_ok (B.manyM 63) ga (some ⟨wr.heap.size, 0, none⟩) va 64 cc 8 8 64 c [0, 0, 0, 0, 0, 0, 0, 0] (B.manyV 63) _ wf_many (hsg.below hbi (Nat.le_refl _)) (HU.out.below hbel (Nat.le_refl _)) (HT.out.below hbel (Nat.le_refl _)) many_no0 rfl rfl hA ((ListAt.ofOwn hv.own).below hbi (Nat.le_refl _)) many_bytes many_words
   obtain ⟨s1, n1, e1, l1, y1, hun⟩ := B.many_run (wf_many.ok many_no0)
   rw [many_len, e1] at hpk
   replace hpk := hpk.mono fun e w' h => RanTold.atL (f := false) (sl := 0) (pay := s1.pay) (out := s1.out) (has := s1.has) (st := n1) (RanUni.ok h rfl) l1 rfl rfl
   have hrr := RC.range hrow
   obtain ⟨s2, n2, e2, h2h, h2l, h2v⟩ := hun (List.replicate 64 77)
   have HV := Lib.hid (hv.kept hbi)
   have HR := Lib.hid (hrow.below hbi hrow.blk)
   have HS := Lib.hid (hsg.below hbi (Nat.le_refl _))
   have HB := Lib.hid hbel
   have HY1 := Lib.hid y1
   have HE2 := Lib.hid e2
   have HH := Lib.hid h2h
   have HHL := Lib.hid h2l
   have HHV := Lib.hid h2v
   have HL1 := Lib.hid l1
   have HPK := Lib.hid hpk
   clear ho hL hrow hv hb hsg hbi hA hbel e1 l1 y1 hun e2 h2h h2l h2v hpk HM
   go_upto_region 19 with (first
    | refine wpList_load_mid (by rfl) 27 _ (by rfl) XV 0 (by rfl) (#[.int .i64 0, .int .i64 0, .int .u32 0, .bool false, .string ⟨#[86]⟩, .int .i64 8, .string ⟨#[65]⟩, .slice ga 64 cc] : Array Value).toList _ hrr Tryz.underlying27 (by rfl) (by kernel_rfl) ?_
    | (go_at_call 11; refine HPK.out.mono ?_; rintro e x3 ⟨a1, c1, a2, c2, a3, c3, rfl, o1, _, _, hb3⟩))
   have hbn : Below x3.heap.size x3 (x3.alloc (.cells #[.bool false, .int .i64 0, .slice a1 8 c1, .slice a2 s1.out.length c2, .slice a3 s1.has.length c3, .int .i64 (n1 : Int)] 44)) := (Below.refl _ _).alloc (Nat.le_refl _) _
   have hbox := RC.new #[.bool false, .int .i64 0, .slice a1 8 c1, .slice a2 s1.out.length c2, .slice a3 s1.has.length c3, .int .i64 (n1 : Int)] 44 x3 (n := 6) rfl rfl
   have ho1 := o1.kept hbn
   have hbzn := hb3.trans (hbn.mono hb3.size)
   obtain ⟨YM, hY⟩ : ∃ Y, x3.heap.size = Y := ⟨_, rfl⟩
   obtain ⟨x4, hd⟩ : ∃ d, x3.alloc (.cells #[.bool false, .int .i64 0, .slice a1 8 c1, .slice a2 s1.out.length c2, .slice a3 s1.has.length c3, .int .i64 (n1 : Int)] 44) = d := ⟨_, rfl⟩
   rw [hd] at hbn hbox ho1 hbzn
   rw [hY] at hbox
   try rw [hd]
   try rw [hY]
   have HV4 := Lib.hid (HV.out.kept hbzn)
   have HR4 := Lib.hid (HR.out.below hbzn HR.out.blk)
   have HS4 := Lib.hid (HS.out.below hbzn (Nat.le_refl _))
   have HB4 := Lib.hid (HB.out.trans (hbzn.mono HB.out.size))
   have m0 : x4.cell? ⟨YM, 0, none⟩ = some (.bool false) := hbox.cell (j := 0) rfl
   have m2 : x4.cell? ⟨YM, 2, none⟩ = some (.slice a1 8 c1) := hbox.cell (j := 2) rfl
   have hrr4 := RC.range HR4.out
   have hlp := ListAt.ofOwn ho1.own
   have hunp := unpacked_ok (B.manyM 63) ga a1 64 cc 8 c1 s1.pay x4 wf_many HS4.out (HU.out.below HB4.out (Nat.le_refl _)) (HT.out.below HB4.out (Nat.le_refl _)) many_no0 rfl hlp HY1.out
   rw [many_len, HE2.out] at hunp
   replace hunp := hunp.mono fun e w' h => RanTold.atN (f := false) (sl := 0) (pay := s2.pay) (out := s2.out) (has := s2.has) (st := n2) (n := 64) (RanUni.ok h rfl) HHL.out (by rw [HH.out]; simp [B.Msg.actives, many_len])
   have HUN := Lib.hid hunp
   clear hd hY hbn hbox ho1 hbzn hlp hunp o1 hb3 HV HR HS HB hrr HPK
   go_upto_region 22 with (first
    | refine wpList_load_mid (by rfl) 27 _ (by rfl) XV 0 (by rfl) (#[.int .i64 0, .int .i64 0, .int .u32 0, .bool false, .string ⟨#[86]⟩, .int .i64 8, .string ⟨#[65]⟩, .slice ga 64 cc] : Array Value).toList _ hrr4 Tryz.underlying27 (by rfl) (by kernel_rfl) ?_
    | (go_at_call 13; refine HUN.out.mono ?_; rintro e x5 ⟨b1, d1, b2, d2, b3, d3, rfl, _, p2, p3, hb5⟩))
   have hbn : Below x5.heap.size x5 (x5.alloc (.cells #[.bool false, .int .i64 0, .slice b1 s2.pay.length d1, .slice b2 64 d2, .slice b3 64 d3, .int .i64 (n2 : Int)] 44)) := (Below.refl _ _).alloc (Nat.le_refl _) _
   have hbox := RC.new #[.bool false, .int .i64 0, .slice b1 s2.pay.length d1, .slice b2 64 d2, .slice b3 64 d3, .int .i64 (n2 : Int)] 44 x5 (n := 6) rfl rfl
   have hp2 := ListAt.ofOwn (p2.kept hbn).own
   have hp3 := ListAt.ofOwn (p3.kept hbn).own
   have hbzn := hb5.trans (hbn.mono hb5.size)
   obtain ⟨YU, hY⟩ : ∃ Y, x5.heap.size = Y := ⟨_, rfl⟩
   obtain ⟨x6, hd⟩ : ∃ d, x5.alloc (.cells #[.bool false, .int .i64 0, .slice b1 s2.pay.length d1, .slice b2 64 d2, .slice b3 64 d3, .int .i64 (n2 : Int)] 44) = d := ⟨_, rfl⟩
   rw [hd] at hbn hbox hp2 hp3 hbzn
   rw [hY] at hbox
   try rw [hd]
   try rw [hY]
   have HV6 := Lib.hid (ListAt.ofOwn (HV4.out.kept hbzn).own)
   have HR6 := Lib.hid (HR4.out.below hbzn HR4.out.blk)
   have HS6 := Lib.hid (HS4.out.below hbzn (Nat.le_refl _))
   have HB6' := Lib.hid (HB4.out.trans (hbzn.mono HB4.out.size))
   have HBOXU := Lib.hid hbox
   have HP2 := Lib.hid hp2
   have HP3 := Lib.hid hp3
   clear hd hY hbn hbox hp2 hp3 hbzn hb5 p2 p3 hrr4 m0 m2 HUN HV4 HR4 HS4 HB4
   refine wp_region_held_drew (S := Below x6.heap.size x6) (by kernel_rfl) (Below.refl _ _).drew (fun hS1 => ?_)
   refine take_slot (i := 0) (d := 113) (v := .bool true) rfl rfl (by kernel_rfl) (by kernel_rfl) (by kernel_rfl) (fun _ _ _ h => h) (Or.inl ⟨by rfl, fun w' h => by go_simp⟩) hS1 ?_
   try simp only [Act.put, List.setIfInBounds_toArray, List.set_cons_zero, List.set_cons_succ]
   refine take_slot (i := 1) (d := 114) (v := .bool true) rfl rfl (by kernel_rfl) (by kernel_rfl) (by kernel_rfl) (fun _ _ _ h => h) (Or.inl ⟨by rfl, fun w' h => by go_simp⟩) hS1 ?_
   try simp only [Act.put, List.setIfInBounds_toArray, List.set_cons_zero, List.set_cons_succ]
   refine take_slot (i := 2) (d := 115) (v := .agg #[.bool false, .int .i64 0, .slice b1 s2.pay.length d1, .slice b2 64 d2, .slice b3 64 d3, .int .i64 (n2 : Int)]) rfl rfl (by kernel_rfl) (by kernel_rfl) (by kernel_rfl) (fun _ _ _ h => h) (yieldsIf_load_mid (by rfl) 44 (.tmp 12) rfl YU 0 rfl (#[.bool false, .int .i64 0, .slice b1 s2.pay.length d1, .slice b2 64 d2, .slice b3 64 d3, .int .i64 (n2 : Int)] : Array Value).toList _ (fun w' h => RC.range (HBOXU.out.below h HBOXU.out.blk)) Tryz.underlying44 rfl (by kernel_rfl)) hS1 ?_
   try simp only [Act.put, List.setIfInBounds_toArray, List.set_cons_zero, List.set_cons_succ]
   refine take_slot (i := 3) (d := 116) (v := .slice va 64 c) rfl rfl (by kernel_rfl) (by kernel_rfl) (by kernel_rfl) (fun _ _ _ h => h) (Or.inl ⟨by rfl, fun w' h => by go_simp⟩) hS1 ?_
   try simp only [Act.put, List.setIfInBounds_toArray, List.set_cons_zero, List.set_cons_succ]
   refine take_slot (i := 4) (d := 117) (v := .agg #[.int .i64 0, .int .i64 0, .int .u32 0, .bool false, .string ⟨#[86]⟩, .int .i64 8, .string ⟨#[65]⟩, .slice ga 64 cc]) rfl rfl (by kernel_rfl) (by kernel_rfl) (by kernel_rfl) (fun _ _ _ h => h) (yieldsIf_load_mid (by rfl) 27 (.tmp 7) rfl XV 0 rfl (#[.int .i64 0, .int .i64 0, .int .u32 0, .bool false, .string ⟨#[86]⟩, .int .i64 8, .string ⟨#[65]⟩, .slice ga 64 cc] : Array Value).toList _ (fun w' h => RC.range (HR6.out.below h HR6.out.blk)) Tryz.underlying27 rfl (by kernel_rfl)) hS1 ?_
   try simp only [Act.put, List.setIfInBounds_toArray, List.set_cons_zero, List.set_cons_succ]
   refine wpAnyH_ready (rs := [5]) (by kernel_rfl) (by simp) ?_
   refine AllReadyH.cons rfl (fun K hK => ?_) AllReadyH.nil
   go_simp
   refine (actives_any (B.manyM 63) 41 ga 64 cc _ (HS6.out.below hS1 (Nat.le_refl _)) (by omega)).mono ?_
   rintro e y2 ⟨ha, hc, rfl, hoa, hc2⟩
   refine hK.out _ _ (hS1.trans (hc2.mono hS1.size)) (fun hS3 => ?_)
   clear hK K
   try simp only [Act.put, List.setIfInBounds_toArray, List.set_cons_zero, List.set_cons_succ]
   have hal : ((B.manyM 63).actives 41).length = 64 := by simp [B.Msg.actives, many_len]
   rw [hal] at hoa ⊢
   have hla := ListAt.ofOwn hoa.own
   rw [← HH.out] at hla
   clear hoa hal
   refine wpAnyH_ready (rs := [6]) (by kernel_rfl) (by simp) ?_
   refine AllReadyH.cons rfl (fun K hK => ?_) AllReadyH.nil
   go_simp
   refine (same_yes false 0 (n2 : Int) b1 b2 b3 va ha s2.pay.length d1 64 d2 d3 c hc s2.out (B.manyV 63) s2.has _ (HP2.out.below hS3 (Nat.le_refl _)) (HP3.out.below hS3 (Nat.le_refl _)) (HV6.out.below hS3 (Nat.le_refl _)) hla (by rw [HH.out]; exact HHV.out) (by omega)).mono ?_
   rintro e y3 ⟨rfl, hc3⟩
   refine hK.out _ _ (hS3.trans (hc3.mono hS3.size)) (fun hS9 => ?_)
   clear hK K
   try simp only [Act.put, List.setIfInBounds_toArray, List.set_cons_zero, List.set_cons_succ]
   refine take_slot (i := 7) (d := 120) (v := .bool true) rfl rfl (by kernel_rfl) (by kernel_rfl) (by kernel_rfl) (fun _ _ _ h => h) (Or.inl ⟨by rfl, fun w' h => by go_simp⟩) hS9 ?_
   try simp only [Act.put, List.setIfInBounds_toArray, List.set_cons_zero, List.set_cons_succ]
   refine take_slot (i := 8) (d := 0) (v := .bool true) rfl rfl (by kernel_rfl) (by kernel_rfl) (by kernel_rfl) (fun _ _ _ h => h) (Or.inl ⟨by rfl, fun w' h => by go_simp⟩) hS9 ?_
   try simp only [Act.put, List.setIfInBounds_toArray, List.set_cons_zero, List.set_cons_succ]
   refine wpAnyH_done (by kernel_rfl) ?_ _
   go_wp2_with fail
   go_ret
   exact ⟨rfl, HB6'.out.trans (hS9.mono HB6'.out.size)⟩

end Code
end Go.Proofs.YtdpjbnjlognmeaaGreatDoor
