/- 'FuseRuns': what any program becomes, in any size, with any number of slots, is what the document tells, twice over, and so is the error; what is answered lies apart, and what is handed in stays: the statement holds of every input. No condition beyond the card's own: the listed variables hold what the program's text lays. -/
import Derived.Test.YtmpeipdeablkdaaGreatDoorFrame
import Derived.Test.YtmpeipdeablkdaaGreatDoorDoor
import Derived.Test.YtmpeipdeablkdaaGreatDoorFactFuseRuns
import Derived.Test.YtmpeipdeablkdaaGreatDoorFrQ
import Derived.Test.YtmpeipdeablkdaaGreatDoorFusQ
import Derived.Test.YtmpeipdeablkdaaGreatDoorLivF
import Derived.Test.YtmpeipdeablkdaaGreatDoorLdrQ
import Derived.Test.YtmpeipdeablkdaaGreatDoorRefW
import Derived.Test.YtmpeipdeablkdaaGreatDoorMore
import Derived.Test.YtmpeipdeablkdaaGreatDoorKitA
import Derived.Test.YtmpeipdeablkdaaGreatDoorErrQ
namespace Go.Proofs.YtmpeipdeablkdaaGreatDoor
open Go.ChangeShapes Go.WideShapes Go.ChangeAt Go.RowKit Go.Proofs.YtmpeipdeablkdaaGreatDoor.Code

namespace LawFuseRuns

attribute [local go_sem ↓] Go.wp_at_zero Go.wp_at_succ

theorem er_plain {n : Int} (h : 0 ≤ n ∧ n ≤ 26) : plainB (erOf (n, none)) n = true := by
 unfold plainB erOf
 by_cases h0 : n = 0
 ·subst h0; rfl
 ·simp only [if_neg h0, Er.num, Er.place]
  have : ((n.toNat : Nat) : Int) = n := by omega
  simp [this]

theorem er_at {n : Int} (h : 0 ≤ n ∧ n ≤ 26) (i : Nat) : atB (erOf (n, some i)) n 0 i = true := by
 unfold atB erOf
 by_cases h0 : n = 0
 ·subst h0; rfl
 ·simp only [if_neg h0, Er.num, Er.place]
  have : ((n.toNat : Nat) : Int) = n := by omega
  simp [this]

set_option maxRecDepth 100000 in
set_option maxHeartbeats 1600000 in
theorem told_plain (e : Er) (h : e.ok) (n : Int) (w : World) (hg : ErrVar w) : Calls Tryz.prog 18 #[e.val, .int .i64 n, .int .i64 (-1)] w (BoolOut (plainB e n) w) := by
 have HC := Lib.hid (plain_any e h n w hg)
 generalize e.val = v at *
 clear hg
 go_enter Tryz.func18, Tryz.ntmps18
 go_wp2_with fail
 refine HC.out.mono ?_
 rintro e w1 ⟨rfl, hb1⟩
 have HB := Lib.hid hb1
 clear hb1 HC
 go_wp2_with fail
 go_ret
 exact ⟨rfl, HB.out⟩

set_option maxRecDepth 100000 in
set_option maxHeartbeats 1600000 in
theorem told_at (e : Er) (h : e.ok) (n : Int) (i : Nat) (w : World) (hg : ErrVar w) : Calls Tryz.prog 18 #[e.val, .int .i64 n, .int .i64 (i : Int)] w (BoolOut (atB e n 0 i) w) := by
 have HC := Lib.hid (at_any e h n 0 i w hg)
 generalize e.val = v at *
 clear hg
 have i0 : ¬ ((i : Int) < 0) := by omega
 go_enter Tryz.func18, Tryz.ntmps18
 go_wp2_with fail
 refine HC.out.mono ?_
 rintro e w1 ⟨rfl, hb1⟩
 have HB := Lib.hid hb1
 clear hb1 HC
 go_wp2_with fail
 go_ret
 exact ⟨rfl, HB.out⟩

theorem program_nz {ps : List B.Ins} {size slots : Int} (hm : ¬ B.MayRun ps size slots) : (B.program ps size slots).1 ≠ 0 := by
 intro h0
 apply hm
 rw [← B.program_ok]
 generalize hq : B.program ps size slots = r at h0 ⊢
 obtain ⟨n, o⟩ := r
 simp only at h0
 subst h0
 cases o with
 | none => rfl
 | some i =>
  exfalso
  unfold B.program at hq
  split at hq
  ·simp at hq
  ·split at hq
   ·simp at hq
   ·cases hf : B.firstTouch size slots ps.length 0 ps with
    | some p =>
     obtain ⟨e, j⟩ := p
     rw [hf] at hq
     simp at hq
     exact firstTouch_ne _ _ _ _ hf hq.1
    | none =>
     rw [hf] at hq
     cases hfr : B.firstRead ps with
     | none => rw [hfr] at hq; simp at hq
     | some k => rw [hfr] at hq; simp at hq

/-- two lists of one's own -/
theorem lists_two {w : World} {N : Nat} {a1 a2 : Option Addr} {m c1 c2 : Nat} {q : List B.Ins} (h1 : OwnP w N a1 m c1 q) (h2 : OwnP w N a2 m c2 q) (hne : ∀ g, a1 = some ⟨g, 0, none⟩ → a2 ≠ some ⟨g, 0, none⟩) :
    Lists N w.heap.size (fun k => if k = 0 then a1 else a2) (fun _ => m) (fun k => if k = 0 then c1 else c2) (fun _ => q) (w.alloc (.cells #[.slice a1 m c1, .slice a2 m c2] 26)) := by
 refine ⟨heap_alloc_new w _, fun k hk => ?_, fun j k g hj hk hjk => ?_⟩
 ·by_cases e : k = 0
  ·subst e; exact h1.kept ((Below.refl _ _).alloc (Nat.le_refl _) _)
  ·simp only [if_neg e]; exact h2.kept ((Below.refl _ _).alloc (Nat.le_refl _) _)
 ·have : (j = 0 ∧ k = 1) ∨ (j = 1 ∧ k = 0) := by omega
  rcases this with ⟨rfl, rfl⟩ | ⟨rfl, rfl⟩
  ·exact hne g
  ·intro h2 h1; exact hne g h1 h2

theorem progAt_nil (w : World) : ProgAt w none 0 [] := ⟨rfl, fun i x h => by simp at h⟩
set_option maxRecDepth 100000 in
set_option maxHeartbeats 3200000 in
theorem law (a0 : Option Addr) (len0 cap0 : Nat) (ps0 : List B.Ins) (n1 : Int) (n2 : Int) (w : World) (hp0 : ProgAt w a0 len0 ps0) (hwf0 : ∀ y ∈ ps0, y.Wf) (hl0 : len0 * 40 ≤ 140737488351232) (hn0 : a0 = none → cap0 = 0) (hR : Ready w) (hi1 : B.In64 n1) (hi2 : B.In64 n2) :
    Calls Tryz.prog 5 #[.slice a0 len0 cap0, .int .i64 n1, .int .i64 n2] w (BoolOut true w) := by
 have _U0 := Lib.hid hn0
 have _U1 := Lib.hid hi1
 have _U2 := Lib.hid hi2
 have HP := Lib.hid hp0
 have HWF := Lib.hid hwf0
 have HR := Lib.hid hR
 have HL0 := Lib.hid hl0
 have hlw : len0 ≤ 9223372036854775807 := by omega
 clear hp0 hwf0 hn0 hR hi1 hi2 hl0
 by_cases hm : B.MayRun ps0 n1 n2
 ·have HM := Lib.hid hm
  have hlen : len0 ≤ 16384 := by rw [HP.out.len]; exact hm.len
  have hql : (B.fuse ps0).length ≤ 16384 := by have h1 := B.fuse_len hm.ok; have := hm.len; omega
  clear hm
  go_enter Tryz.func5, Tryz.ntmps5
  go_wp2_with fail
  refine (lent_any a0 len0 cap0 ps0 _ HP.out HL0.out).mono ?_
  rintro e w1 ⟨ao, cp, rfl, hown, hb1⟩
  have HO := Lib.hid hown
  have HCP : Hid (len0 ≤ cp) := Lib.hid (by have := hown.capLe2; omega)
  have HB1 := Lib.hid hb1
  have hs1 := hb1.size
  clear hown hb1
  go_wp2_with fail
  refine (fuse_yes ao len0 cp HCP.out ps0 n1 n2 _ (HO.out.ahead HP.out.len) HWF.out (HR.out.tabs.below HB1.out (Nat.le_refl _)) HM.out).mono ?_
  rintro e w2 ⟨ao1, cp1, rfl, hown, hb2⟩
  have HX2 := Lib.hid (HO.out.kept hb2)
  have HD1 := Lib.hid hown
  have HN2 := Lib.hid hb2
  have HB2 := Lib.hid (HB1.out.trans (hb2.mono hs1))
  have hs2 := HB2.out.size
  have hs12 := hb2.size
  clear hown hb2
  go_wp2_with fail
  refine (fuse_yes ao len0 cp HCP.out ps0 n1 n2 _ (HX2.out.ahead HP.out.len) HWF.out (HR.out.tabs.below HB2.out (Nat.le_refl _)) HM.out).mono ?_
  rintro e w3 ⟨ao2, cp2, rfl, hown, hb3⟩
  have HD13 := Lib.hid (HD1.out.kept hb3)
  have HNE : Hid (∀ g, ao1 = some ⟨g, 0, none⟩ → ao2 ≠ some ⟨g, 0, none⟩) := Lib.hid (fun g h1 h2 => by
   have q1 := HD1.out.own.lt g (by rw [h1]; rfl)
   have q2 := hown.own.lt g (by rw [h2]; rfl)
   omega)
  have HD2 : Hid (OwnP w3 w1.heap.size ao2 (B.fuse ps0).length cp2 (B.fuse ps0)) := Lib.hid ⟨hown.len, own_mono18 hown.own hs12⟩
  have HN3 := Lib.hid (HN2.out.trans (hb3.mono hs12))
  have HB3 := Lib.hid (HB2.out.trans (hb3.mono hs2))
  have hs3 := HB3.out.size
  clear hown hb3 HX2 HN2 HD1
  go_wp2_with fail
  refine (fuse18_yes a0 len0 cap0 ps0 n1 n2 _ (HP.out.below HB3.out (Nat.le_refl _)) HWF.out HM.out).mono ?_
  rintro e w4 ⟨ao3, cp3, rfl, hown, hb4⟩
  have HD3 := Lib.hid hown
  have HN4 := Lib.hid (HN3.out.trans (hb4.mono HN3.out.size))
  have HB4 := Lib.hid (HB3.out.trans (hb4.mono hs3))
  have HE1 := Lib.hid (HD13.out.kept hb4)
  have HE2 := Lib.hid (HD2.out.kept hb4)
  have hs4 := HB4.out.size
  clear hown hb4 HN3 HD13 HD2
  go_wp2_with fail
  refine (sameInstrs_yes ao1 ao3 _ cp1 _ cp3 (B.fuse ps0) _ HE1.out.progAt HD3.out.progAt (by omega)).mono ?_
  rintro e w5 ⟨rfl, hb⟩
  have HN5 := Lib.hid (HN4.out.trans (hb.mono HN4.out.size))
  have HB5 := Lib.hid (HB4.out.trans (hb.mono hs4))
  have HF1 := Lib.hid (HE1.out.kept hb)
  have HF2 := Lib.hid (HE2.out.kept hb)
  have HF3 := Lib.hid (HD3.out.kept hb)
  have hs5 := HB5.out.size
  clear hb HN4 HE1 HE2 HD3
  have HE1 := HF1
  have HE2 := HF2
  have HD3 := HF3
  clear HF1 HF2 HF3
  go_wp2_with fail
  refine (sameInstrs_yes ao2 ao3 _ cp2 _ cp3 (B.fuse ps0) _ HE2.out.progAt HD3.out.progAt (by omega)).mono ?_
  rintro e w6 ⟨rfl, hb⟩
  have HN6 := Lib.hid (HN5.out.trans (hb.mono HN5.out.size))
  have HB6 := Lib.hid (HB5.out.trans (hb.mono hs5))
  have HF1 := Lib.hid (HE1.out.kept hb)
  have HF2 := Lib.hid (HE2.out.kept hb)
  have hs6 := HB6.out.size
  clear hb HN5 HE1 HE2
  have HE1 := HF1
  have HE2 := HF2
  clear HF1 HF2
  go_wp2_with fail
  refine (told_plain .nil trivial 0 _ (HR.out.err.below HB6.out (Nat.le_refl _))).mono ?_
  rintro e w7 ⟨rfl, hb⟩
  have HN7 := Lib.hid (HN6.out.trans (hb.mono HN6.out.size))
  have HB7 := Lib.hid (HB6.out.trans (hb.mono hs6))
  have HF1 := Lib.hid (HE1.out.kept hb)
  have HF2 := Lib.hid (HE2.out.kept hb)
  have hs7 := HB7.out.size
  clear hb HN6 HE1 HE2
  have HE1 := HF1
  have HE2 := HF2
  clear HF1 HF2
  rw [show plainB .nil 0 = true from rfl]
  go_wp2_with fail
  refine (told_plain .nil trivial 0 _ (HR.out.err.below HB7.out (Nat.le_refl _))).mono ?_
  rintro e w8 ⟨rfl, hb⟩
  have HN8 := Lib.hid (HN7.out.trans (hb.mono HN7.out.size))
  have HB8 := Lib.hid (HB7.out.trans (hb.mono hs7))
  have HF1 := Lib.hid (HE1.out.kept hb)
  have HF2 := Lib.hid (HE2.out.kept hb)
  have hs8 := HB8.out.size
  clear hb HN7 HE1 HE2
  have HE1 := HF1
  have HE2 := HF2
  clear HF1 HF2
  rw [show plainB .nil 0 = true from rfl]
  have HLS := Lib.hid (lists_two HE1.out HE2.out HNE.out)
  have hn18 := HN8.out.size
  have HAP := Lib.hid (apart_any w1.heap.size w8.heap.size _ _ _ _ _ HLS.out (fun _ => by omega) (by simp; omega) (by simp) hn18)
  have HN9 := Lib.hid (HN8.out.alloc hn18 (.cells #[.slice ao1 (B.fuse ps0).length cp1, .slice ao2 (B.fuse ps0).length cp2] 26))
  clear HLS
  go_wp2_with fail
  refine HAP.out.mono ?_
  rintro e w9 ⟨rfl, hb⟩
  have HX9 := Lib.hid (HO.out.kept (HN9.out.trans hb))
  have HB9 := Lib.hid (HB1.out.trans ((HN9.out.trans hb).mono hs1))
  have hs9 := HB9.out.size
  clear hb HAP HN9
  go_wp2_with fail
  refine (kept_any ao cp a0 len0 cap0 _ ps0 _ HX9.out (HP.out.below HB9.out (Nat.le_refl _)) HL0.out).mono ?_
  rintro e w10 ⟨rfl, hb⟩
  have HB10 := Lib.hid (HB9.out.trans (hb.mono hs9))
  clear hb
  go_wp2_with fail
  go_ret
  exact ⟨rfl, HB10.out⟩
 ·have HMN := Lib.hid hm
  have HZ := Lib.hid (program_nz hm)
  have HRG := Lib.hid (program_range ps0 n1 n2)
  have HOK := Lib.hid (progEr_ok ps0 n1 n2)
  have HER : Hid (progEr ps0 n1 n2 = erOf (B.program ps0 n1 n2)) := Lib.hid rfl
  have HRF : Hid (∀ w1, ProgAt w1 a0 len0 ps0 → Calls Tryz.prog 16 #[.slice a0 len0 cap0, .int .i64 n1, .int .i64 n2] w1 (RFuseNo (B.program ps0 n1 n2) w1)) := Lib.hid (fun w1 h1 => fuse18_no a0 len0 cap0 ps0 n1 n2 w1 h1 HWF.out hlw HZ.out)
  obtain ⟨r, hr⟩ : ∃ r, B.program ps0 n1 n2 = r := ⟨_, rfl⟩
  rw [hr] at HRF HRG HER
  clear hr hm HZ
  obtain ⟨no, o⟩ := r
  go_enter Tryz.func5, Tryz.ntmps5
  go_wp2_with fail
  refine (lent_any a0 len0 cap0 ps0 _ HP.out HL0.out).mono ?_
  rintro e w1 ⟨ao, cp, rfl, hown, hb1⟩
  have HO := Lib.hid hown
  have HB1 := Lib.hid hb1
  have hs1 := hb1.size
  clear hown hb1
  go_wp2_with fail
  refine (fuse_no ao len0 cp ps0 n1 n2 _ (HO.out.ahead HP.out.len) HWF.out (HR.out.tabs.below HB1.out (Nat.le_refl _)) hlw HMN.out).mono ?_
  rintro e w2 ⟨rfl, hb⟩
  have HN2 := Lib.hid hb
  have HX2 := Lib.hid (HO.out.kept hb)
  have HB2 := Lib.hid (HB1.out.trans (hb.mono hs1))
  have hs2 := HB2.out.size
  clear hb
  go_wp2_with fail
  refine (fuse_no ao len0 cp ps0 n1 n2 _ (HX2.out.ahead HP.out.len) HWF.out (HR.out.tabs.below HB2.out (Nat.le_refl _)) hlw HMN.out).mono ?_
  rintro e w3 ⟨rfl, hb⟩
  have HN3 := Lib.hid (HN2.out.trans (hb.mono HN2.out.size))
  have HB3 := Lib.hid (HB2.out.trans (hb.mono hs2))
  have hs3 := HB3.out.size
  clear hb HN2
  clear HX2
  go_wp2_with fail
  refine (HRF.out _ (HP.out.below HB3.out (Nat.le_refl _))).mono ?_
  rintro e w4 ⟨rfl, hb⟩
  have HN4 := Lib.hid (HN3.out.trans (hb.mono HN3.out.size))
  have HB4 := Lib.hid (HB3.out.trans (hb.mono hs3))
  have hs4 := HB4.out.size
  clear hb HN3
  clear HRF
  go_wp2_with fail
  refine (sameInstrs_yes none none 0 0 0 0 [] _ (progAt_nil _) (progAt_nil _) (by omega)).mono ?_
  rintro e w5 ⟨rfl, hb⟩
  have HN5 := Lib.hid (HN4.out.trans (hb.mono HN4.out.size))
  have HB5 := Lib.hid (HB4.out.trans (hb.mono hs4))
  have hs5 := HB5.out.size
  clear hb HN4
  go_wp2_with fail
  refine (sameInstrs_yes none none 0 0 0 0 [] _ (progAt_nil _) (progAt_nil _) (by omega)).mono ?_
  rintro e w6 ⟨rfl, hb⟩
  have HN6 := Lib.hid (HN5.out.trans (hb.mono HN5.out.size))
  have HB6 := Lib.hid (HB5.out.trans (hb.mono hs5))
  have hs6 := HB6.out.size
  clear hb HN5
  go_wp2_with fail
  cases o with
  | none =>
   have HPL := Lib.hid (er_plain HRG.out)
   rw [← HER.out] at HPL
   refine (told_plain (progEr ps0 n1 n2) HOK.out no _ (HR.out.err.below HB6.out (Nat.le_refl _))).mono ?_
   rintro e w7 ⟨rfl, hb⟩
   have HN7 := Lib.hid (HN6.out.trans (hb.mono HN6.out.size))
   have HB7 := Lib.hid (HB6.out.trans (hb.mono hs6))
   have hs7 := HB7.out.size
   clear hb HN6
   rw [HPL.out]
   go_wp2_with fail
   refine (told_plain (progEr ps0 n1 n2) HOK.out no _ (HR.out.err.below HB7.out (Nat.le_refl _))).mono ?_
   rintro e w8 ⟨rfl, hb⟩
   have HN8 := Lib.hid (HN7.out.trans (hb.mono HN7.out.size))
   have HB8 := Lib.hid (HB7.out.trans (hb.mono hs7))
   have hs8 := HB8.out.size
   clear hb HN7
   rw [HPL.out]
   have HLS := Lib.hid (lists_two (OwnP.nil w8 w1.heap.size) (OwnP.nil w8 w1.heap.size) (fun g h => by cases h))
   have hn18 := HN8.out.size
   have HAP := Lib.hid (apart_any w1.heap.size w8.heap.size _ _ _ _ _ HLS.out (fun _ => by simp) (by simp; omega) (by simp) hn18)
   have HN9 := Lib.hid (HN8.out.alloc hn18 (.cells #[.slice none 0 0, .slice none 0 0] 26))
   clear HLS
   go_wp2_with fail
   refine HAP.out.mono ?_
   rintro e w9 ⟨rfl, hb⟩
   have HX9 := Lib.hid (HO.out.kept (HN9.out.trans hb))
   have HB9 := Lib.hid (HB1.out.trans ((HN9.out.trans hb).mono hs1))
   have hs9 := HB9.out.size
   clear hb HAP HN9
   go_wp2_with fail
   refine (kept_any ao cp a0 len0 cap0 _ ps0 _ HX9.out (HP.out.below HB9.out (Nat.le_refl _)) HL0.out).mono ?_
   rintro e w10 ⟨rfl, hb⟩
   have HB10 := Lib.hid (HB9.out.trans (hb.mono hs9))
   clear hb
   go_wp2_with fail
   go_ret
   exact ⟨rfl, HB10.out⟩
  | some i =>
   have HPL := Lib.hid (er_at HRG.out i)
   rw [← HER.out] at HPL
   refine (told_at (progEr ps0 n1 n2) HOK.out no i _ (HR.out.err.below HB6.out (Nat.le_refl _))).mono ?_
   rintro e w7 ⟨rfl, hb⟩
   have HN7 := Lib.hid (HN6.out.trans (hb.mono HN6.out.size))
   have HB7 := Lib.hid (HB6.out.trans (hb.mono hs6))
   have hs7 := HB7.out.size
   clear hb HN6
   rw [HPL.out]
   go_wp2_with fail
   refine (told_at (progEr ps0 n1 n2) HOK.out no i _ (HR.out.err.below HB7.out (Nat.le_refl _))).mono ?_
   rintro e w8 ⟨rfl, hb⟩
   have HN8 := Lib.hid (HN7.out.trans (hb.mono HN7.out.size))
   have HB8 := Lib.hid (HB7.out.trans (hb.mono hs7))
   have hs8 := HB8.out.size
   clear hb HN7
   rw [HPL.out]
   have HLS := Lib.hid (lists_two (OwnP.nil w8 w1.heap.size) (OwnP.nil w8 w1.heap.size) (fun g h => by cases h))
   have hn18 := HN8.out.size
   have HAP := Lib.hid (apart_any w1.heap.size w8.heap.size _ _ _ _ _ HLS.out (fun _ => by simp) (by simp; omega) (by simp) hn18)
   have HN9 := Lib.hid (HN8.out.alloc hn18 (.cells #[.slice none 0 0, .slice none 0 0] 26))
   clear HLS
   go_wp2_with fail
   refine HAP.out.mono ?_
   rintro e w9 ⟨rfl, hb⟩
   have HX9 := Lib.hid (HO.out.kept (HN9.out.trans hb))
   have HB9 := Lib.hid (HB1.out.trans ((HN9.out.trans hb).mono hs1))
   have hs9 := HB9.out.size
   clear hb HAP HN9
   go_wp2_with fail
   refine (kept_any ao cp a0 len0 cap0 _ ps0 _ HX9.out (HP.out.below HB9.out (Nat.le_refl _)) HL0.out).mono ?_
   rintro e w10 ⟨rfl, hb⟩
   have HB10 := Lib.hid (HB9.out.trans (hb.mono hs9))
   clear hb
   go_wp2_with fail
   go_ret
   exact ⟨rfl, HB10.out⟩

set_option maxRecDepth 100000 in
theorem lifted (os : Os) (started : os.Started) (H : Type) (enc : TypeId × Value → H) :
    ReturnsInHanded {} Tryz.checked os 5 .any (fun w args => (Rows.fuseRunsSpec.pre enc Tryz.prog Tryz.f5 Rows.fuseRunsRow.domain false w args ∧ laidMetH Tryz.prog laid2 w) ∧ sizedMet enc Tryz.prog Tryz.f5 (OpenSpec.ofChange Rows.fuseRunsSpec) false w args)
     (Rows.fuseRunsSpec.post enc Tryz.prog Tryz.f5 false true false false) := by
 refine returnsInHanded_of_change_and (C := Tryz.checked) (X := fun w _ => laidMetH Tryz.prog laid2 w) (fun _ _ _ hh h => h.of_heap hh) own started (by kernel_rfl) Tryz.func5
  (ChangeSpec.witness_shaped (enc := enc) (C := Tryz.checked) (os := os) (X := fun w _ => laidMetH Tryz.prog laid2 w) false (World.doorLaid Tryz.prog 93 os) #[.slice none 0 0, .int .i64 0, .int .i64 0] 8 rfl (World.shaped_of_RefB (by kernel_rfl) (by kernel_rfl)) (by kernel_rfl) (by kernel_rfl) (by kernel_rfl) (door_met2 os _)) ?_
 intro W base args ds gs before hval0 hW hcnd hsz0 hL _
 have hval : ∀ (j : Nat) t v, Tryz.f5.params[j]? = some t → args[j]? = some v → Value.okWide Tryz.prog W .any base t v := hval0
 have hsz : (DataW.weightsEach Tryz.prog (Tryz.f5.params.toList ++ Rows.fuseRunsSpec.plain.varTypes Tryz.prog) (ds ++ gs)).all (· ≤ reachBytes) = true := hsz0
 have hW' := hW
 obtain ⟨p, q, hA0, hV, rfl, hfz, hnd⟩ := hW
 have hA : DataW.TrodAll enc Tryz.prog W 0 (fun _ => true) true Tryz.f5.params.toList args.toList ds p := hA0
 rw [Tryz.params5] at hA hval hsz
 have hA1 := hA
 obtain ⟨v0, vs0, d0, ds0, p0, q0, hargs, rfl, rfl, h0, r0⟩ := trodAll_cons hA
 obtain ⟨v1, vs1, d1, ds1, p1, q1, rfl, rfl, rfl, h1, r1⟩ := trodAll_cons r0
 obtain ⟨v2, vs2, d2, ds2, p2, q2, rfl, rfl, rfl, h2, r2⟩ := trodAll_cons r1
 obtain ⟨rfl, rfl, rfl⟩ := trodAll_nil r2
 obtain rfl : args = #[v0, v1, v2] := by cases args; simp_all
 obtain ⟨rfl, rfl⟩ := trodVars_none hV
 obtain ⟨a0, len0, cap0, rfl⟩ := okWide_slice Tryz.underlying26 (hval 0 26 v0 rfl rfl)
 obtain ⟨fuel0, hf0⟩ := h0
 have hn0 := open_nil hf0
 obtain ⟨ps0, hp0, hwf0, hreach0⟩ := open_prog hf0
 have hr0 := hreach0 _ _ 0 hsz rfl rfl
 obtain ⟨n1, rfl, rfl, rfl, wf1⟩ := open_int Tryz.underlying3 (hval 1 3 v1 rfl rfl) h1
 obtain ⟨n2, rfl, rfl, rfl, wf2⟩ := open_int Tryz.underlying3 (hval 2 3 v2 rfl rfl) h2
 have lt0 := trodAll_lt _ _ _ _ hA1
 clear hA0 hval0 hsz0
 refine (law a0 len0 cap0 ps0 n1 n2 W hp0 hwf0 hr0 hn0 (ready_laid hL) (wf_i64_in wf1) (wf_i64_in wf2)).mono fun e W' ⟨he, bel⟩ => ?_
 subst he
 exact ⟨_, rfl, _, _, _, [], _, [], hW', trodAll_mk1 (shut_bool Tryz.underlying4 _), below_trodAll laidOut bel _ _ _ _ (by kernel_rfl) hA1 lt0, rfl, bel.frame _, fun h => by cases h⟩

theorem said : Rows.FuseRunsSaid :=
 OpenClaim.holds_of_wide 5 Tryz.f5 rfl rfl rfl rfl rfl rfl rfl ⟨rfl, rfl, rfl, rfl, rfl⟩ rfl rfl rfl rfl rfl found Tryz.func5 joined instanced wrapped
  (fun os started H enc _ => lifted os started H enc)

theorem plain (f : FuncId) (fn : Func) (hf : Tryz.pinned.checked.prog.funcNamed "busbar/busbarlaw18.FuseRuns" = some f) (hfn : Tryz.pinned.checked.prog.funcs[f]? = some fn) :
    true = Tryz.pinned.checked.prog.looks [] ∧ ∀ (j : Nat) t, fn.params[j]? = some t → Tryz.pinned.checked.prog.wantsStandIn t = false := by
 obtain rfl : f = 5 := Option.some.inj (found.symm.trans hf) |>.symm
 obtain rfl : fn = Tryz.f5 := (Option.some.inj (Tryz.func5.symm.trans hfn)).symm
 refine ⟨by kernel_rfl, fun j t ht => ?_⟩
 rw [Tryz.params5] at ht
 have hm : t ∈ ([26, 3, 3] : List TypeId) := by simpa using Array.mem_of_getElem? ht
 have hall : (([26, 3, 3] : List TypeId).all fun u => !Tryz.prog.wantsStandIn u) = true := by kernel_rfl
 exact (show Tryz.prog.wantsStandIn t = false by simpa using List.all_eq_true.1 hall t hm)

theorem card : Rows.FuseRunsCardSaid :=
 Claim7.holds_tied_plain_at .later [] _ _ _ _ said (fun _ h => by cases h) (by kernel_rfl) (fun _ h => by cases h) fuseRuns_row_tie rfl ⟨rfl, rfl⟩ (by kernel_rfl) rfl plain (by kernel_rfl)
#print axioms card

end LawFuseRuns
end Go.Proofs.YtmpeipdeablkdaaGreatDoor
