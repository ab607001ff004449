/- busbarref16: what is read from each place on. -/
import Derived.Test.YtmpeipdeablkdaaGreatDoorLdrQ
import Derived.Test.YtmpeipdeablkdaaGreatDoorFuX
import Derived.Deep.RegionHeld3
namespace Go.Proofs.YtmpeipdeablkdaaGreatDoor
open Go.RowKit

namespace Code

attribute [local go_sem ↓] Go.wp_at_zero Go.wp_at_succ

theorem insRangeR {w : World} {b o : Nat} {x : B.Ins} (h : InsAt w b o x) : w.rangeAt b o (cellsI x) := by
 obtain ⟨h0, h1, h2, h3, h4⟩ := h
 intro j v hv
 have hj : j < 5 := by have := (List.getElem?_eq_some_iff.1 hv).1; rw [cellsI_length] at this; exact this
 have : j = 0 ∨ j = 1 ∨ j = 2 ∨ j = 3 ∨ j = 4 := by omega
 rcases this with rfl | rfl | rfl | rfl | rfl <;> (simp [cellsI] at hv; subst hv; assumption)

/-- from the end down to a place all is known -/
structure LvAt (ps : List B.Ins) (g n c k : Nat) (w wr : World) : Prop where
 rd : RgAt wr w.heap.size g n c (fun j r => decide (k ≤ j) && B.ndL ps j r)
 bel : Below w.heap.size w wr

def LvOut (ps : List B.Ins) (w : World) (e : Ending) (w' : World) : Prop :=
 ∃ g c, e = .returned (.slice (some ⟨g, 0, none⟩) (ps.length + 1) c) ∧ RgAt w' w.heap.size g (ps.length + 1) c (B.ndL ps) ∧ Below w.heap.size w w'

set_option maxRecDepth 100000 in
set_option maxHeartbeats 12800000 in
theorem live18_any (a : Option Addr) (len cap : Nat) (ps : List B.Ins) (size slots : Int) (w : World) (hp : ProgAt w a len ps) (hok : B.OkTouch ps size slots) (hl : len ≤ 16384) :
    Calls Tryz.prog 134 #[.slice a len cap] w (LvOut ps w) := by
 have HP := Lib.hid hp
 have HOK := Lib.hid hok
 clear hp hok
 go_enter Tryz.func134, Tryz.ntmps134
 go_wp2_with fail
 go_loopw [3, 4] (fun v i wr => ∃ (q : Nat) (a1 : Option Addr) (c1 : Nat), i = .int .i64 q ∧ q ≤ len + 1 ∧ v = .slice a1 q c1 ∧ wr.ownsRow w.heap.size 191 16 (.slice a1 q c1) q (rgV q (fun _ _ => false)) ∧ Below w.heap.size w wr) (fun _ i _ => len + 1 - (intOf i).toNat)
 case atStart => exact ⟨0, none, 0, rfl, Nat.zero_le _, rfl, World.ownsRow_nil _ _ _ _, Below.refl _ _⟩
 case round =>
  obtain ⟨q, a1, c1, rfl, hq, rfl, hown, hb⟩ := hrel
  have hsz := hb.size
  have HB := Lib.hid hb
  have HOW := Lib.hid hown
  clear hb hown
  by_cases hlt : q ≤ len
  ·go_wp2_with (at_builtin; refine app_gen Tryz.underlying192 infoI191 rfl (by omega) rfl _ _ rfl w.heap.size rfl HOW.out rfl (by rfl) (by simp [Value.oneCell']) (by omega) (by omega) hsz ?_; intro ao3 cap3 w3 hown3 hg3 hb3 hs3)
   have H3 : Hid (w3.ownsRow w.heap.size 191 16 (.slice ao3 (q + 1) cap3) (q + 1) (rgV (q + 1) (fun _ _ => false))) := Lib.hid (by rw [rgV_succ]; exact hown3)
   have HB3 := Lib.hid (HB.out.trans hb3)
   clear hown3 hg3 hb3
   go_wp2_with fail
   go_roundw
   case rel => exact ⟨q + 1, ao3, cap3, by go_num, by omega, rfl, H3.out, HB3.out⟩
   case measure => simp [intOf]; omega
  ·obtain ⟨n, hn⟩ : ∃ n, n = q := ⟨q, rfl⟩
   obtain ⟨g, rfl⟩ : ∃ g, a1 = some ⟨g, 0, none⟩ := by
    rcases HOW.out.2 with ⟨h0, h1⟩ | ⟨g, cap', cur, h0, _⟩
    ·exfalso; omega
    ·injection h0 with h0 _ _
     exact ⟨g, h0⟩
   subst hn
   have hn1 : len + 1 ≤ n := by omega
   have hn2 : n ≤ len + 1 := by omega
   have HD : Hid (LvAt ps g n c1 len w wr) := by
    refine Lib.hid ⟨RgAt.congr (rd := fun _ _ => false) HOW.out (fun j r hj hr => ?_), HB.out⟩
    by_cases h : len ≤ j
    ·rw [B.ndL_far _ _ _ (by have := HP.out.len; omega)]; simp
    ·simp [h]
   clear HOW HB
   go_wp2_with fail
   obtain ⟨wo, hwo⟩ : ∃ wo : World, wo = wr := ⟨_, rfl⟩
   subst hwo
   go_loopg [5] len (fun k i wr => i = .int .i64 ((k : Int) - 1) ∧ k ≤ len ∧ LvAt ps g n c1 k w wr)
   case atStart => exact ⟨rfl, Nat.le_refl _, HD.out⟩
   case round =>
    obtain ⟨rfl, hk, hd⟩ := hrel
    have HDR := Lib.hid hd
    clear hd HD
    by_cases hz : gk = 0
    ·subst hz
     rw [show (((0 : Nat) : Int) - 1) = (-1 : Int) by omega]
     have HF : Hid (RgAt wr w.heap.size g n c1 (B.ndL ps)) := Lib.hid (HDR.out.rd.congr (fun j r _ _ => by simp))
     have HBF := Lib.hid HDR.out.bel
     clear HDR
     go_wp2_with fail
     go_ret
     obtain rfl : n = len + 1 := by omega
     have hle := HP.out.len
     subst hle
     exact ⟨g, c1, rfl, HF.out, HBF.out⟩
    ·obtain ⟨I, rfl⟩ : ∃ I, gk = I + 1 := ⟨gk - 1, by omega⟩
     rw [show (((I + 1 : Nat) : Int) - 1) = (I : Int) by omega]
     have hIl : I < len := by omega
     have hx : ps[I]? = some (ps[I]'(by have := HP.out.len; omega)) := List.getElem?_eq_getElem _
     generalize ps[I]'(by have := HP.out.len; omega) = x at hx
     have HX := Lib.hid hx
     obtain ⟨b, off, rfl, hbl, hat⟩ := HP.out.at_ I x hx
     have HAT := Lib.hid hat
     have HRT := Lib.hid (HOK.out.right I x hx)
     obtain ⟨N, hN⟩ : ∃ N : Nat, x.n = N := ⟨x.n.toNat, by have := B.right_bounds HRT.out; omega⟩
     have HN := Lib.hid hN
     have HGO : Hid (x.skips = true → I + 1 + x.n.toNat ≤ len) := by
      refine Lib.hid (fun hs => ?_)
      have hop : x.op = 18 ∨ x.op = 19 := by have := hs; unfold B.Ins.skips at this; simpa using this
      have := goal_le HOK.out HX.out hop HN.out
      rw [HN.out, Int.toNat_natCast]
      have := HP.out.len
      omega
     have hgl2 := HDR.out.rd.blk
     have HBD := Lib.hid HDR.out.bel.drew
     have HRD : Hid (RgAt wr.drew w.heap.size g n c1 (fun j r => decide (I + 1 ≤ j) && B.ndL ps j r)) := Lib.hid (HDR.out.rd.below (Below.refl _ _).drew)
     have HC := Lib.hid (behind_any (some ⟨b, off, none⟩) len cap I ps x g n c1 (fun j r => decide (I + 1 ≤ j) && B.ndL ps j r) wr.drew (HP.out.below HBD.out (Nat.le_refl _)) HX.out HRT.out hgl2.2 (fun j hj => HRD.out.row hj) (by omega) (fun hs => by have := HGO.out hs; omega) hl)
     obtain ⟨f, hf⟩ : ∃ f : Nat → Bool, (fun r => B.behind x I (fun j r => decide (I + 1 ≤ j) && B.ndL ps j r) r) = f := ⟨_, rfl⟩
     rw [hf] at HC
     have HFE : Hid (∀ r, B.behind x I (B.ndL ps) r = f r) := Lib.hid (fun r => by
      rw [← hf]
      exact (B.behind_congr (fun j r hj => by rw [show decide (I + 1 ≤ j) = true from decide_eq_true hj, Bool.true_and]) r).symm)
     have HAH : Hid (∀ W, Calls Tryz.prog 178 #[.agg (cellsI x).toArray, .agg (regsF f)] W (RegsOut (aheadF x f) W)) := Lib.hid (fun W => ahead16_any x HRT.out f W)
     clear hf hx hat hN hk hz
     have i0 : (0 : Int) ≤ (I : Int) := by omega
     have il : (I : Int) < (len : Int) := by omega
     have iN : (I : Int) < (n : Int) := by omega
     go_upto_region 9 with fail
     refine wp_region_held_drew (S := Below w.heap.size w) (by kernel_rfl) HBD.out (fun hS1 => ?_)
     refine takeS (i := 0) (d := 23) (v := .slice (some ⟨g, 0, none⟩) n c1) rfl rfl rfl (by kernel_rfl) (by kernel_rfl) (by kernel_rfl) (fun _ _ _ h => h) (fun w' _ => by go_simp) hS1 ?_
     simp only [Act.put, List.setIfInBounds_toArray, List.set_cons_zero, List.set_cons_succ]
     refine takeS (i := 1) (d := 24) (v := .int .i64 (I : Int)) rfl rfl rfl (by kernel_rfl) (by kernel_rfl) (by kernel_rfl) (fun _ _ _ h => h) (fun w' _ => by go_simp) hS1 ?_
     simp only [Act.put, List.setIfInBounds_toArray, List.set_cons_zero, List.set_cons_succ]
     refine takeS (i := 2) (d := 25) (v := .slice (some ⟨b, off, none⟩) len cap) rfl rfl rfl (by kernel_rfl) (by kernel_rfl) (by kernel_rfl) (fun _ _ _ h => h) (fun w' _ => by go_simp) hS1 ?_
     simp only [Act.put, List.setIfInBounds_toArray, List.set_cons_zero, List.set_cons_succ]
     refine takeS (i := 3) (d := 26) (v := .int .i64 (I : Int)) rfl rfl rfl (by kernel_rfl) (by kernel_rfl) (by kernel_rfl) (fun _ _ _ h => h) (fun w' _ => by go_simp) hS1 ?_
     simp only [Act.put, List.setIfInBounds_toArray, List.set_cons_zero, List.set_cons_succ]
     refine takeS (i := 4) (d := 27) (v := .pointer (some ⟨b, off + I * 5, none⟩)) rfl rfl rfl (by kernel_rfl) (by kernel_rfl) (by kernel_rfl) (fun _ _ _ h => h) (fun w' _ => by go_simp) hS1 ?_
     simp only [Act.put, List.setIfInBounds_toArray, List.set_cons_zero, List.set_cons_succ]
     refine takeM (i := 5) (d := 28) 24 _ b (off + I * 5) (cellsI x).toArray _ rfl rfl rfl rfl (by rfl) Tryz.underlying24 rfl (by kernel_rfl) (by kernel_rfl) (by kernel_rfl) (by kernel_rfl) (fun _ _ _ h => h) (fun w' h => insRangeR (HAT.out.below h hbl)) hS1 ?_
     simp only [Act.put, List.setIfInBounds_toArray, List.set_cons_zero, List.set_cons_succ]
     refine takeS (i := 6) (d := 29) (v := .slice (some ⟨b, off, none⟩) len cap) rfl rfl rfl (by kernel_rfl) (by kernel_rfl) (by kernel_rfl) (fun _ _ _ h => h) (fun w' _ => by go_simp) hS1 ?_
     simp only [Act.put, List.setIfInBounds_toArray, List.set_cons_zero, List.set_cons_succ]
     refine takeS (i := 7) (d := 30) (v := .int .i64 (I : Int)) rfl rfl rfl (by kernel_rfl) (by kernel_rfl) (by kernel_rfl) (fun _ _ _ h => h) (fun w' _ => by go_simp) hS1 ?_
     simp only [Act.put, List.setIfInBounds_toArray, List.set_cons_zero, List.set_cons_succ]
     refine takeS (i := 8) (d := 31) (v := .slice (some ⟨g, 0, none⟩) n c1) rfl rfl rfl (by kernel_rfl) (by kernel_rfl) (by kernel_rfl) (fun _ _ _ h => h) (fun w' _ => by go_simp) hS1 ?_
     simp only [Act.put, List.setIfInBounds_toArray, List.set_cons_zero, List.set_cons_succ]
     refine wpAnyH_ready (rs := [9]) (by kernel_rfl) (by simp) ?_
     refine AllReadyH.cons rfl (fun K hK => ?_) AllReadyH.nil
     go_simp
     refine HC.out.mono ?_
     rintro e w2 ⟨rfl, hb2⟩
     refine hK.out _ _ (hS1.trans (hb2.mono hS1.size)) (fun hS2 => ?_)
     clear hK K
     have HR2 := Lib.hid (HRD.out.below hb2)
     refine wpAnyH_ready (rs := [10]) (by kernel_rfl) (by simp) ?_
     refine AllReadyH.cons rfl (fun K hK => ?_) AllReadyH.nil
     go_simp
     refine (HAH.out _).mono ?_
     rintro e w3 ⟨rfl, hb3⟩
     refine hK.out _ _ (hS2.trans (hb3.mono hS2.size)) (fun hS3 => ?_)
     clear hK K
     have HR3 := Lib.hid (HR2.out.below hb3)
     refine takeS (i := 11) (d := 34) (v := .pointer (some ⟨g, I * 16, none⟩)) rfl rfl rfl (by kernel_rfl) (by kernel_rfl) (by kernel_rfl) (fun _ _ _ h => h) (fun w' _ => by go_simp) hS3 ?_
     simp only [Act.put, List.setIfInBounds_toArray, List.set_cons_zero, List.set_cons_succ]
     refine wpAnyH_ready (rs := [12]) (by kernel_rfl) (by simp) ?_
     refine AllReadyH.cons rfl (fun K hK => ?_) AllReadyH.nil
     rw [if_pos (by rfl)]
     refine wp_store_mid 191 _ _ (by rfl) g (I * 16) (regsF (aheadF x f)) (by rfl) (by rfl) (RgAt.there HR3.out (j := I) (by omega)) (by rw [info191]; rfl) (regsF_ones _) ?_
     have hB4 : Below w.heap.size w (w3.setCells g (I * 16) (regsF (aheadF x f)).toList) := hS3.grown (grownBy_setCells g (regsF (aheadF x f)).toList (I * 16) w3) hS3.size (fun k hk => by have := Option.some.inj hk; omega)
     have HD4 : Hid (LvAt ps g n c1 I w (w3.setCells g (I * 16) (regsF (aheadF x f)).toList)) := by
      refine Lib.hid ⟨(RgAt.store HR3.out I (aheadF x f)).congr (fun j r hj hr => ?_), hB4⟩
      by_cases e : j = I
      ·subst e
       rw [if_pos rfl, B.nd_eq HX.out r]
       unfold aheadF
       rw [HFE.out]; simp
      ·rw [if_neg e, show decide (I + 1 ≤ j) = decide (I ≤ j) by rw [decide_eq_decide]; omega]
     generalize w3.setCells g (I * 16) (regsF (aheadF x f)).toList = w4 at hB4 HD4 ⊢
     refine hK.out _ _ hB4 (fun hS4 => ?_)
     clear hK K
     refine wpAnyH_done (by kernel_rfl) ?_ _
     go_wp2_with fail
     go_roundg I
     case measure => omega
     case rel => exact ⟨rfl, by omega, HD4.out⟩

end Code
end Go.Proofs.YtmpeipdeablkdaaGreatDoor
