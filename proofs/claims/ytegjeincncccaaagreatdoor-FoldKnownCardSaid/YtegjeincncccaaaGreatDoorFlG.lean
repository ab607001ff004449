/- Package fold: its walk. -/
import Derived.Test.YtegjeincncccaaaGreatDoorFlF
namespace Go.Proofs.YtegjeincncccaaaGreatDoor
open Go.RowKit Go.Maps

namespace Code

attribute [local go_sem ↓] Go.wp_at_zero Go.wp_at_succ

theorem still_midF {op : Oper} {a : Act} {w : World} {K : Act → Prop} (ty : TypeId) (x : Operand) (ho : op.op = .load ty x) (b o : Nat) (hx : a.eval x = .pointer (some ⟨b, o, none⟩)) (cs : Array Value) (d : TypeDesc) (hc : w.rangeAt b o cs.toList)
    (hu : Tryz.prog.underlying ty = some d) (hd : d.isRow = true) (hi : (Tryz.prog.info? ty).map (·.size) = some cs.toList.length) (h : K (a.put op.dst (.agg cs))) : op.still Tryz.prog a w K := by
 unfold Oper.still
 have e : (execOp a.eval op).run Tryz.prog w = .ok (.value (.agg cs)) w := by
  unfold execOp
  simp only [ho, hx, Instr.loadAt, Instr.sureAddr, Sem.run_bind, Sem.run_pure, Result.andThen_ok, run_loadVar_mid w b o ty cs.toList d hc hu hd hi]
 rw [e, Oper.stillUpon_value]
 exact h

theorem ins_range {w : World} {b o : Nat} {x : B.Ins} (h : InsAt w b o x) : w.rangeAt b o (insF x).toList := by
 obtain ⟨c0, c1, c2, c3, c4⟩ := h
 intro j v hj
 have hl := (List.getElem?_eq_some_iff.1 hj).1
 have : j < 5 := hl
 have : j = 0 ∨ j = 1 ∨ j = 2 ∨ j = 3 ∨ j = 4 := by omega
 rcases this with rfl | rfl | rfl | rfl | rfl <;> (cases hj; assumption)
theorem own_there {w : World} {base g n c i : Nat} {qs : List B.Ins} (h : OwnP w base (some ⟨g, 0, none⟩) n c qs) (hi : i < n) : w.there g (i * 5) 5 := by
 obtain ⟨x, hx⟩ : ∃ x, qs[i]? = some x := ⟨_, List.getElem?_eq_getElem (by rw [← h.len]; exact hi)⟩
 obtain ⟨g', e, _, _, hat⟩ := h.insAt hx
 cases e
 have hfr : ∀ j, w.frozen? ⟨g, j, none⟩ = false := fun j => by
  rcases h.own.2 with ⟨e, _⟩ | ⟨g', c, cur, e, hb, hh, h3⟩
  ·cases e
  ·injection e with e _ _
   cases e
   exact frozen_blk hh
 intro j hj
 refine ⟨?_, hfr _⟩
 obtain ⟨c0, c1, c2, c3, c4⟩ := hat
 have : j = 0 ∨ j = 1 ∨ j = 2 ∨ j = 3 ∨ j = 4 := by omega
 rcases this with rfl | rfl | rfl | rfl | rfl
 ·rw [Nat.add_zero, c0]; rfl
 ·rw [c1]; rfl
 ·rw [c2]; rfl
 ·rw [c3]; rfl
 ·rw [c4]; rfl

set_option maxRecDepth 100000 in
set_option maxHeartbeats 6400000 in
theorem fold_yes (a : Option Addr) (len cap : Nat) (ps : List B.Ins) (size slots : Int) (w : World) (hp : ProgAt w a len ps) (hwf : ∀ y ∈ ps, y.Wf) (ht : Tabs w) (hm : B.MayRun ps size slots) (h0 : 0 < len) :
    Calls Tryz.prog 13 #[.slice a len cap, .int .i64 size, .int .i64 slots] w (FoldOut ps len w) := by
 have HP := Lib.hid hp
 have HM := Lib.hid hm
 have HWF := Lib.hid hwf
 have HT := Lib.hid ht
 have hl : len ≤ 16384 := by have := hm.len; have := hp.len; omega
 have hlw : IntKind.i64.wrap ((len : Int) + 1) = (len : Int) + 1 := IntWalk.i64_in _ (by omega)
 obtain ⟨b, off, rfl⟩ : ∃ b off, a = some ⟨b, off, none⟩ := by
  obtain ⟨x, hx⟩ : ∃ x, ps[0]? = some x := ⟨_, List.getElem?_eq_getElem (by have := hp.len; omega)⟩
  obtain ⟨b, off, e, _⟩ := hp.at_ 0 x hx
  exact ⟨b, off, e⟩
 have HH0 := Lib.hid h0
 have hq := fun w m => run_eql_map_nil_sl (P := Tryz.prog) w 97 _ _ m Tryz.underlying97
 clear hp hwf ht hm h0
 go_enter Tryz.func13, Tryz.ntmps13
 go_wp2_with fail
 refine (program_yes (some ⟨b, off, none⟩) len cap ps size slots _ HP.out HWF.out HT.out (by omega) HM.out).mono ?_
 rintro e w1 ⟨rfl, hb1⟩
 have HB1 := Lib.hid hb1
 have hs1 := hb1.size
 clear hb1
 go_wp2_with fail
 refine (cloneIns_any b off len cap ps _ (HP.out.below HB1.out (Nat.le_refl _)) HH0.out hl).mono ?_
 rintro e w2 ⟨g, c, rfl, hown, hb2⟩
 have hs2 := hb2.size
 obtain ⟨C1, hmk1, hC1, hC1'⟩ := maps_made w2 len (by omega)
 have hgl : w1.heap.size ≤ g ∧ g < w2.heap.size := by
  obtain ⟨x, hx⟩ : ∃ x, ps[0]? = some x := ⟨_, List.getElem?_eq_getElem (by have := HP.out.len; have := HH0.out; omega)⟩
  obtain ⟨g', e, h1, h2, _⟩ := hown.insAt hx
  cases e
  exact ⟨h1, h2⟩
 have hown' : OwnP w2 w.heap.size (some ⟨g, 0, none⟩) len c ps := by
  refine ⟨hown.len, hown.own.1, ?_⟩
  rcases hown.own.2 with h2 | ⟨g', c, cur, e, hb, hh, h3⟩
  ·exact .inl h2
  ·exact .inr ⟨g', c, cur, e, by omega, hh, h3⟩
 have hst := FoldAt.start (A := w2.heap.size) (M := w2.heap.size + 1) hown' (by omega) hgl.2 (HB1.out.trans (hb2.mono hs1)) hC1 hC1' rfl rfl
 have HST := Lib.hid hst
 have hC0 : w2.heap.size ≤ w2.heap.size := Nat.le_refl _
 have ht0 : ((w2.alloc (.cells C1 97)).alloc (.map #[] 0)).cell? ⟨w2.heap.size, 0, none⟩ = some (.map none) := by
  rw [World.cell?_alloc2_first]; exact hC1' 0 (by omega)
 have hmm : ∀ W : World, (Instr.makeMap 97 none).run Tryz.prog W = .ok (.map (some W.heap.size)) (W.alloc (.map #[] 0)) := fun W => by
  simp [Instr.makeMap, go_sem]
 clear hst hown hown' hC1 hC1' hb2 hC0
 go_wp2_with fail
 clear hmm hmk1 ht0 hs1 hs2 hgl HB1
 generalize hA : w2.heap.size = A at *
 have HAS := Lib.hid hA
 clear hA
 go_loopw [32] (fun i wr => ∃ (k : Nat) (bs : Nat → Option Nat), k ≤ len ∧ i = .int .i64 (k : Int) ∧ Hid (FoldAt len g c A k (B.foldN ps k) bs w wr)) (fun i _ => len - (intOf i).toNat)
 case atStart => exact ⟨0, _, Nat.zero_le _, rfl, HST⟩
 case round =>
  obtain ⟨k, bs, hk, rfl, HF⟩ := hrel
  clear HST HAS
  by_cases hlt : k < len
  ·have FO := Lib.hid (B.foldN_ok HM.out.ok k)
   have hql : (B.foldN ps k).q.length = len := by rw [B.foldN_len, HP.out.len]
   obtain ⟨x, hx⟩ : ∃ x, (B.foldN ps k).q[k]? = some x := ⟨_, List.getElem?_eq_getElem (by omega)⟩
   have hnx : B.foldN ps (k + 1) = B.foldStep k (B.foldN ps k) := rfl
   obtain ⟨s, hs⟩ : ∃ s, B.foldN ps k = s := ⟨_, rfl⟩
   rw [hs] at hnx HF FO hx hql
   have e0 : ((k : Int) < len) = True := by simp; omega
   have k0 : (0 : Int) ≤ (k : Int) := by omega
   have k1 : (k : Int) < (len : Int) := by omega
   have k2 : (k : Int) < (len : Int) + 1 := by omega
   have k3 : (k : Int) < ((len + 1 : Nat) : Int) := by omega
   have hat : wr.cell? ⟨A, k, none⟩ = some (.map (bs k)) := CellsAt.cell HF.out.tab (j := k) (by omega)
   have hth := HF.out.there k hk
   clear hs
   cases hbk : bs k with
   | none =>
    rw [hbk] at hat hth
    have hkn : s.known k = none := by
     cases h : s.known k with
     | none => rfl
     | some K => rw [h] at hth; cases hth
    have hsame : B.foldN ps (k + 1) = s := by
     rw [hnx]
     unfold B.foldStep
     rw [hx, hkn]
    have HSM := Lib.hid hsame
    have HFM := Lib.hid (HF.out.mono (Nat.le_succ k))
    clear hnx hx hql hkn hsame hth FO hbk
    go_wp2_with fail
    go_roundw
    case rel => exact ⟨k + 1, bs, hlt, by go_num, by rw [HSM.out]; exact HFM⟩
    case measure => simp [intOf]; omega
   | some b' =>
    rw [hbk] at hat hth
    obtain ⟨K, hkn⟩ : ∃ K, s.known k = some K := Option.isSome_iff_exists.1 hth.symm
    obtain ⟨hK, hKb⟩ := HF.out.map k b' K hk hbk hkn
    obtain ⟨g', eg, _, _, hins⟩ := HF.out.own.insAt hx
    cases eg
    have hrr := ins_range hins
    have HXR := Lib.hid (FO.out.ok.right k x hx)
    have HKO := Lib.hid (FO.out.known k K hkn)
    have HBET := Lib.hid (better_any x HXR.out b' k K HKO.out wr.drew (hK.below (Below.refl wr.heap.size wr).drew (Nat.le_refl _)))
    obtain ⟨y, hy⟩ : ∃ y, x.better K = y := ⟨_, rfl⟩
    rw [hy] at HBET
    have HYR : Hid (y.right = true) := Lib.hid (by rw [← hy]; exact (B.better_ok HXR.out HKO.out).1)
    have hstep : B.foldN ps (k + 1) = (let k' := y.afterK K
        let a1 := if y.next = true then B.updK s.known (k + 1) (B.meetK (s.known (k + 1)) k') else s.known
        let a2 := if y.skips = true then B.updK a1 (k + 1 + y.n.toNat) (B.meetK (a1 (k + 1 + y.n.toNat)) k') else a1
        ⟨s.q.set k y, a2⟩) := by
     rw [hnx]
     unfold B.foldStep
     rw [hx, hkn, ← hy]
    have HSTEP := Lib.hid hstep
    have HYT : Hid (y.touch size slots ((len : Int) - k - 1) = 0) := Lib.hid (by
     rw [← hy]
     have := FO.out.ok.touch k x hx
     rw [hql] at this
     exact (B.better_ok HXR.out HKO.out).2 _ _ _ (by omega) this)
    have HKK := Lib.hid hK
    have HBK := Lib.hid hbk
    have HKN := Lib.hid hkn
    clear hnx hx hql hkn hstep hth hbk hK hKb hins hy FO
    go_upto_region 11 with fail
    refine wp_region_held_drew (S := fun _ => True) (by kernel_rfl) trivial (fun hS0 => ?_)
    refine takeS (i := 0) (d := 40) (v := (.slice (some ⟨g, 0, none⟩) len c)) rfl rfl rfl (by kernel_rfl) (by kernel_rfl) (by kernel_rfl) (fun _ _ _ h => h) (fun w' _ => by go_simp) hS0 ?_
    simp only [Act.put, List.setIfInBounds_toArray, List.set_cons_zero, List.set_cons_succ]
    refine takeS (i := 1) (d := 41) (v := (.int .i64 (k : Int))) rfl rfl rfl (by kernel_rfl) (by kernel_rfl) (by kernel_rfl) (fun _ _ _ h => h) (fun w' _ => by go_simp) hS0 ?_
    simp only [Act.put, List.setIfInBounds_toArray, List.set_cons_zero, List.set_cons_succ]
    refine takeS (i := 2) (d := 42) (v := (.slice (some ⟨g, 0, none⟩) len c)) rfl rfl rfl (by kernel_rfl) (by kernel_rfl) (by kernel_rfl) (fun _ _ _ h => h) (fun w' _ => by go_simp) hS0 ?_
    simp only [Act.put, List.setIfInBounds_toArray, List.set_cons_zero, List.set_cons_succ]
    refine takeS (i := 3) (d := 43) (v := (.int .i64 (k : Int))) rfl rfl rfl (by kernel_rfl) (by kernel_rfl) (by kernel_rfl) (fun _ _ _ h => h) (fun w' _ => by go_simp) hS0 ?_
    simp only [Act.put, List.setIfInBounds_toArray, List.set_cons_zero, List.set_cons_succ]
    refine takeS (i := 4) (d := 44) (v := (.pointer (some ⟨g, k * 5, none⟩))) rfl rfl rfl (by kernel_rfl) (by kernel_rfl) (by kernel_rfl) (fun _ _ _ h => h) (fun w' _ => by go_simp) hS0 ?_
    simp only [Act.put, List.setIfInBounds_toArray, List.set_cons_zero, List.set_cons_succ]
    refine takeS (i := 6) (d := 46) (v := (.slice (some ⟨A, 0, none⟩) (len + 1) (len + 1))) rfl rfl rfl (by kernel_rfl) (by kernel_rfl) (by kernel_rfl) (fun _ _ _ h => h) (fun w' _ => by go_simp) hS0 ?_
    simp only [Act.put, List.setIfInBounds_toArray, List.set_cons_zero, List.set_cons_succ]
    refine takeS (i := 7) (d := 47) (v := (.int .i64 (k : Int))) rfl rfl rfl (by kernel_rfl) (by kernel_rfl) (by kernel_rfl) (fun _ _ _ h => h) (fun w' _ => by go_simp) hS0 ?_
    simp only [Act.put, List.setIfInBounds_toArray, List.set_cons_zero, List.set_cons_succ]
    refine takeS (i := 8) (d := 48) (v := (.pointer (some ⟨A, k, none⟩))) rfl rfl rfl (by kernel_rfl) (by kernel_rfl) (by kernel_rfl) (fun _ _ _ h => h) (fun w' _ => by go_simp) hS0 ?_
    simp only [Act.put, List.setIfInBounds_toArray, List.set_cons_zero, List.set_cons_succ]
    have hrrd : wr.drew.rangeAt g (k * 5) (insF x).toList := hrr
    have hatd : wr.drew.cell? ⟨A, k, none⟩ = some (.map (some b')) := hat
    refine (fun (tail : ?T) => ?main) ?tail
    case main =>
     refine wpAnyH_ready (rs := [5, 9]) (by kernel_rfl) (by simp) ?_
     refine AllReadyH.cons rfl (fun K hK => ?_) (AllReadyH.cons rfl (fun K hK => ?_) AllReadyH.nil)
     ·rw [if_pos (by rfl)]
      refine wp_load_mid 24 _ rfl g (k * 5) rfl _ _ hrrd Tryz.underlying24 rfl (by rw [infoF24]; rfl) ?_
      refine hK.out _ _ trivial (fun _ => ?_)
      clear hK K
      try simp only [Act.put, List.setIfInBounds_toArray]
      refine wpAnyH_ready (rs := [9]) (by kernel_rfl) (by simp) ?_
      refine AllReadyH.cons rfl (fun K hK => ?_) AllReadyH.nil
      go_simp
      refine hK.out _ _ trivial (fun _ => ?_)
      clear hK K
      try simp only [Act.put, List.setIfInBounds_toArray, List.set_cons_zero, List.set_cons_succ]
      exact tail
     ·go_simp
      refine hK.out _ _ trivial (fun _ => ?_)
      clear hK K
      try simp only [Act.put, List.setIfInBounds_toArray, List.set_cons_zero, List.set_cons_succ]
      refine wpAnyH_ready (rs := [5]) (by kernel_rfl) (by simp) ?_
      refine AllReadyH.cons rfl (fun K hK => ?_) AllReadyH.nil
      rw [if_pos (by rfl)]
      refine wp_load_mid 24 _ rfl g (k * 5) rfl _ _ hrrd Tryz.underlying24 rfl (by rw [infoF24]; rfl) ?_
      refine hK.out _ _ trivial (fun _ => ?_)
      clear hK K
      try simp only [Act.put, List.setIfInBounds_toArray]
      exact tail
    case tail =>
     refine wpAnyH_ready (rs := [10]) (by kernel_rfl) (by simp) ?_
     refine AllReadyH.cons rfl (fun K hK => ?_) AllReadyH.nil
     go_simp
     refine HBET.out.mono ?_
     rintro e w3 ⟨rfl, hb3⟩
     refine hK.out _ _ trivial (fun _ => ?_)
     clear hK K
     try simp only [Act.put, List.setIfInBounds_toArray, List.set_cons_zero, List.set_cons_succ]
     refine takeS (i := 11) (d := 51) (v := (.pointer (some ⟨g, k * 5, none⟩))) rfl rfl rfl (by kernel_rfl) (by kernel_rfl) (by kernel_rfl) (fun _ _ _ h => h) (fun w' _ => by go_simp) hS0 ?_
     try simp only [Act.put, List.setIfInBounds_toArray, List.set_cons_zero, List.set_cons_succ]
     refine wpAnyH_ready (rs := [12]) (by kernel_rfl) (by simp) ?_
     refine AllReadyH.cons rfl (fun K hK => ?_) AllReadyH.nil
     rw [if_pos (by rfl)]
     have HF3 : Hid (FoldAt len g c A k s bs w w3) := Lib.hid (FoldAt.below HF.out ((Below.refl wr.heap.size wr).drew.trans hb3))
     refine wp_store_mid 24 _ _ (by rfl) g (k * 5) (insF y) (by rfl) (by rfl) (own_there HF3.out.own hlt) (by rw [infoF24]; rfl) (by simp [insF, Value.oneCell']) ?_
     have HF4 := Lib.hid (FoldAt.put HF3.out hlt y)
     refine hK.out _ _ trivial (fun _ => ?_)
     clear hK K hat hrr hrrd hatd
     try simp only [Act.put, List.setIfInBounds_toArray]
     refine wpAnyH_done (by kernel_rfl) ?_ _
     obtain ⟨w4, hw4⟩ : ∃ w4, w3.setCells g (k * 5) (insF y).toList = w4 := ⟨_, rfl⟩
     rw [hw4] at HF4
     rw [hw4]
     clear hw4 HF3 hb3
     have hins : InsAt w4 g (k * 5) y := by
      obtain ⟨g', eg, _, _, h⟩ := HF4.out.own.insAt (i := k) (x := y) (by
       show (s.q.set k y)[k]? = some y
       rw [List.getElem?_set_self]
       have := HF4.out.own.len
       simp only [List.length_set] at this
       omega)
      cases eg
      exact h
     have hrr := ins_range hins
     obtain ⟨X, hX⟩ : ∃ X, w4.heap.size = X := ⟨_, rfl⟩
     obtain ⟨w5, hw5⟩ : ∃ w5, w4.alloc (.cells (insF y) 24) = w5 := ⟨_, rfl⟩
     have hw5' : w4.alloc (.cells #[.int .i64 y.op, .int .i64 y.a, .int .i64 y.b, .int .i64 y.n, .int .u64 y.imm] 24) = w5 := hw5
     have HX5 : Hid (I5 w5 X (insF y)) := by rw [← hw5]; exact Lib.hid (I5.new (insF y) rfl w4 hX.symm)
     have hb5 : Below w4.heap.size w4 w5 := by rw [← hw5]; exact (Below.refl _ _).alloc (Nat.le_refl _) _
     have HF5 := Lib.hid (FoldAt.below HF4.out hb5)
     have HK5 : Hid (KnAt w5 b' k K) := Lib.hid (HF5.out.map k b' K hk HBK.out HKN.out).1
     have hat : w5.cell? ⟨A, k, none⟩ = some (.map (some b')) := by
      have := CellsAt.cell HF5.out.tab (j := k) (by omega)
      rw [HBK.out] at this
      exact this
     have hwa : B.In64 y.a := by have := B.right_bounds HYR.out; unfold B.In64; omega
     have hwi : B.InU64 y.imm := by have := B.right_bounds HYR.out; unfold B.InU64; omega
     have HAF : Hid _ := Lib.hid (after_any y b' k K w5.drew hwa hwi (HK5.out.below (Below.refl w5.heap.size w5).drew (Nat.le_refl _)) (by omega))
     clear hins hw5 hb5 hwa hwi
     go_upto_region 13 with (refine wpList_load_mid (by rfl) 24 _ (by rfl) g (k * 5) (by rfl) [.int .i64 y.op, .int .i64 y.a, .int .i64 y.b, .int .i64 y.n, .int .u64 y.imm] _ hrr Tryz.underlying24 (by rfl) (by rw [infoF24]; rfl) ?_)
     try rw [hw5']
     clear hw5' hrr
     have hxr := I5.range HX5.out rfl
     refine wp_region_still_tail 5 (by kernel_rfl) (by kernel_rfl) ?_
     simp only [List.take_succ_cons, List.take_zero, List.drop_succ_cons, List.drop_zero]
     refine wpStill_step (fun K hK => ?_)
     rw [if_pos (by rfl)]
     refine still_midF 24 _ rfl X 0 rfl _ _ hxr Tryz.underlying24 rfl (by rw [infoF24]; rfl) ?_
     refine hK _ ?_
     clear hK K
     still_step
     still_step
     still_step
     still_step
     refine wpStill_nil ?_
     change wpList _ _ _ _ _ w5.drew
     go_wp2_with fail
     refine HAF.out.mono ?_
     rintro e w6 ⟨kb, rfl, hkb, hkk, hb6⟩
     have hb6' : Below w5.heap.size w5 w6 := (Below.refl w5.heap.size w5).drew.trans hb6
     have HF6 := Lib.hid ((FoldAt.below HF5.out hb6').mono (Nat.le_succ k))
     have HX6 : Hid (I5 w6 X (insF y)) := Lib.hid (CellsAt.below HX5.out hb6' (CellsAt.blk HX5.out))
     have HFR := Lib.hid (FoldAt.fresh HF5.out (kb := kb) hkb)
     obtain ⟨K', hK'⟩ : ∃ K', y.afterK K = K' := ⟨_, rfl⟩
     have HKAF := Lib.hid hK'
     rw [hK'] at hkk
     have HKB := Lib.hid hkk
     have HXM : Hid (∀ m b, m ≤ len → bs m = some b → b ≠ X) := Lib.hid (fun m b hm hb e => by
      have hth := HF4.out.there m hm
      rw [hb] at hth
      obtain ⟨kk, hkk'⟩ := Option.isSome_iff_exists.1 hth.symm
      have := (HF4.out.map m b kk hm hb hkk').1.lt
      omega)
     have HXA : Hid (X ≠ A ∧ kb ≠ A) := Lib.hid (by
      have h1 := CellsAt.blk HF4.out.tab
      have h2 := CellsAt.blk HF5.out.tab
      have h3 : w5.drew.heap.size = w5.heap.size := rfl
      omega)
     have HBD := Lib.hid (B.right_bounds HYR.out)
     have c0 : w6.cell? ⟨X, 0, none⟩ = some (.int .i64 y.op) := CellsAt.cell HX6.out (j := 0) (by omega)
     have s1 : IntKind.i64.wrap ((k : Int) + 1) = (k : Int) + 1 := IntWalk.i64_in _ (by omega)
     have i0 : (0 : Int) ≤ (k : Int) + 1 := by omega
     have i1 : (k : Int) + 1 < ((len + 1 : Nat) : Int) := by omega
     have i2 : (k : Int) + 1 < (len : Int) + 1 := by omega
     have i3 : ((k : Int) + 1).toNat = k + 1 := by omega
     clear hkb hkk hb6 hb6' hK' HF4 HF5 HX5 HK5 HAF hat hxr HF HKK hX
     by_cases h18 : y.op = 18
     ·have e1 : (y.op == 18) = true := by simp [h18]
      have e2 : (y.op != 18) = false := by simp [h18]
      have e3 : (y.op == 0) = false := by simp [h18]
      have e4 : (y.op != 0) = true := by simp [h18]
      have hnx : y.next = false := by unfold B.Ins.next; simp [h18]
      have hsk : y.skips = true := by unfold B.Ins.skips; simp [h18]
      obtain ⟨n, hn⟩ : ∃ n : Nat, y.n = (n : Int) := ⟨y.n.toNat, by have := HBD.out; omega⟩
      have hjl : k + 1 + n ≤ len := by
       have ht := HYT.out
       unfold B.Ins.touch at ht
       rw [if_neg (by omega), if_neg (by omega), if_pos (by omega)] at ht
       split at ht
       ·omega
       ·omega
      have c3 : w6.cell? ⟨X, 3, none⟩ = some (.int .i64 (n : Int)) := by
       have := CellsAt.cell HX6.out (j := 3) (by omega)
       rw [this]
       show some (Value.int .i64 y.n) = _
       rw [hn]
      have hatj : w6.drew.cell? ⟨A, k + 1 + n, none⟩ = some (.map (bs (k + 1 + n))) := CellsAt.cell HF6.out.tab (j := k + 1 + n) (by omega)
      have HME := Lib.hid (FoldAt.meets (FoldAt.below HF6.out (Below.refl w6.heap.size w6).drew) (j := k + 1 + n) hjl (HKB.out.below (Below.refl w6.heap.size w6).drew (Nat.le_refl _)) (HFR.out (k + 1 + n) hjl))
      have HFD := Lib.hid (FoldAt.below HF6.out (Below.refl w6.heap.size w6).drew)
      have HXD : Hid (I5 w6.drew X (insF y)) := Lib.hid (CellsAt.of HX6.out rfl)
      obtain ⟨Wd, hWd⟩ : ∃ Wd, w6.drew = Wd := ⟨_, rfl⟩
      have c3d : w6.drew.cell? ⟨X, 3, none⟩ = some (.int .i64 (n : Int)) := c3
      have s4 : IntKind.i64.wrap ((k : Int) + 1 + (n : Int)) = (k : Int) + 1 + (n : Int) := IntWalk.i64_in _ (by omega)
      have s5 : IntKind.i64.wrap ((k : Int) + (1 + (n : Int))) = (k : Int) + 1 + (n : Int) := by rw [← Int.add_assoc]; exact s4
      have j0 : (0 : Int) ≤ (k : Int) + 1 + (n : Int) := by omega
      have j1 : (k : Int) + 1 + (n : Int) < ((len + 1 : Nat) : Int) := by omega
      have j2 : (k : Int) + 1 + (n : Int) < (len : Int) + 1 := by omega
      have j3 : ((k : Int) + 1 + (n : Int)).toNat = k + 1 + n := by omega
      have HN := Lib.hid hn
      have HJ := Lib.hid hjl
      rw [hWd] at HME HFD HXD hatj c3d
      clear hn hjl c3
      go_upto_region 17 with fail
      refine wp_region_held_drew (S := fun w' => w'.cell? ⟨X, 3, none⟩ = some (.int .i64 (n : Int))) (by kernel_rfl) (by rw [hWd]; exact c3d) (fun hS0 => ?_)
      rw [hWd] at hS0 ⊢
      clear hWd
      refine takeS (i := 0) (d := 89) (v := (.slice (some ⟨A, 0, none⟩) (len + 1) (len + 1))) rfl rfl rfl (by kernel_rfl) (by kernel_rfl) (by kernel_rfl) (fun _ _ _ h => h) (fun w' _ => by go_simp) hS0 ?_
      try simp only [Act.put, List.setIfInBounds_toArray, List.set_cons_zero, List.set_cons_succ]
      refine takeS (i := 1) (d := 90) (v := (.int .i64 (k : Int))) rfl rfl rfl (by kernel_rfl) (by kernel_rfl) (by kernel_rfl) (fun _ _ _ h => h) (fun w' _ => by go_simp) hS0 ?_
      try simp only [Act.put, List.setIfInBounds_toArray, List.set_cons_zero, List.set_cons_succ]
      refine takeS (i := 2) (d := 91) (v := (.int .i64 ((k : Int) + 1))) rfl rfl rfl (by kernel_rfl) (by kernel_rfl) (by kernel_rfl) (fun _ _ _ h => h) (fun w' _ => by go_simp) hS0 ?_
      try simp only [Act.put, List.setIfInBounds_toArray, List.set_cons_zero, List.set_cons_succ]
      refine takeS (i := 3) (d := 92) (v := (.pointer (some ⟨X, 3, none⟩))) rfl rfl rfl (by kernel_rfl) (by kernel_rfl) (by kernel_rfl) (fun _ _ _ h => h) (fun w' _ => by go_simp) hS0 ?_
      try simp only [Act.put, List.setIfInBounds_toArray, List.set_cons_zero, List.set_cons_succ]
      refine takeS (i := 4) (d := 93) (v := (.int .i64 (n : Int))) rfl rfl rfl (by kernel_rfl) (by kernel_rfl) (by kernel_rfl) (fun _ _ _ h => h) (fun w' hw => by have hc := hw; go_simp) hS0 ?_
      try simp only [Act.put, List.setIfInBounds_toArray, List.set_cons_zero, List.set_cons_succ]
      refine takeS (i := 5) (d := 94) (v := (.int .i64 ((k : Int) + 1 + (n : Int)))) rfl rfl rfl (by kernel_rfl) (by kernel_rfl) (by kernel_rfl) (fun _ _ _ h => h) (fun w' _ => by go_simp) hS0 ?_
      try simp only [Act.put, List.setIfInBounds_toArray, List.set_cons_zero, List.set_cons_succ]
      refine takeS (i := 6) (d := 95) (v := (.slice (some ⟨A, 0, none⟩) (len + 1) (len + 1))) rfl rfl rfl (by kernel_rfl) (by kernel_rfl) (by kernel_rfl) (fun _ _ _ h => h) (fun w' _ => by go_simp) hS0 ?_
      try simp only [Act.put, List.setIfInBounds_toArray, List.set_cons_zero, List.set_cons_succ]
      refine takeS (i := 7) (d := 96) (v := (.int .i64 (k : Int))) rfl rfl rfl (by kernel_rfl) (by kernel_rfl) (by kernel_rfl) (fun _ _ _ h => h) (fun w' _ => by go_simp) hS0 ?_
      try simp only [Act.put, List.setIfInBounds_toArray, List.set_cons_zero, List.set_cons_succ]
      refine takeS (i := 8) (d := 97) (v := (.int .i64 ((k : Int) + 1))) rfl rfl rfl (by kernel_rfl) (by kernel_rfl) (by kernel_rfl) (fun _ _ _ h => h) (fun w' _ => by go_simp) hS0 ?_
      try simp only [Act.put, List.setIfInBounds_toArray, List.set_cons_zero, List.set_cons_succ]
      refine takeS (i := 9) (d := 98) (v := (.pointer (some ⟨X, 3, none⟩))) rfl rfl rfl (by kernel_rfl) (by kernel_rfl) (by kernel_rfl) (fun _ _ _ h => h) (fun w' _ => by go_simp) hS0 ?_
      try simp only [Act.put, List.setIfInBounds_toArray, List.set_cons_zero, List.set_cons_succ]
      refine takeS (i := 10) (d := 99) (v := (.int .i64 (n : Int))) rfl rfl rfl (by kernel_rfl) (by kernel_rfl) (by kernel_rfl) (fun _ _ _ h => h) (fun w' hw => by have hc := hw; go_simp) hS0 ?_
      try simp only [Act.put, List.setIfInBounds_toArray, List.set_cons_zero, List.set_cons_succ]
      refine takeS (i := 11) (d := 100) (v := (.int .i64 ((k : Int) + 1 + (n : Int)))) rfl rfl rfl (by kernel_rfl) (by kernel_rfl) (by kernel_rfl) (fun _ _ _ h => h) (fun w' _ => by go_simp) hS0 ?_
      try simp only [Act.put, List.setIfInBounds_toArray, List.set_cons_zero, List.set_cons_succ]
      refine takeS (i := 12) (d := 101) (v := (.pointer (some ⟨A, k + 1 + n, none⟩))) rfl rfl rfl (by kernel_rfl) (by kernel_rfl) (by kernel_rfl) (fun _ _ _ h => h) (fun w' _ => by go_simp) hS0 ?_
      try simp only [Act.put, List.setIfInBounds_toArray, List.set_cons_zero, List.set_cons_succ]
      refine takeS (i := 14) (d := 103) (v := (.map (some kb))) rfl rfl rfl (by kernel_rfl) (by kernel_rfl) (by kernel_rfl) (fun _ _ _ h => h) (fun w' _ => by go_simp) hS0 ?_
      try simp only [Act.put, List.setIfInBounds_toArray, List.set_cons_zero, List.set_cons_succ]

      refine wpAnyH_ready (rs := [13]) (by kernel_rfl) (by simp) ?_
      refine AllReadyH.cons rfl (fun K hK => ?_) AllReadyH.nil
      go_simp
      refine hK.out _ _ hS0 (fun _ => ?_)
      clear hK K
      try simp only [Act.put, List.setIfInBounds_toArray, List.set_cons_zero, List.set_cons_succ]
      refine wpAnyH_ready (rs := [15]) (by kernel_rfl) (by simp) ?_
      refine AllReadyH.cons rfl (fun K hK => ?_) AllReadyH.nil
      go_simp
      refine HME.out.mono ?_
      rintro e w9 ⟨x9, rfl, hm9, hx9, hg9, hk9, hne9⟩
      have hx9A : A ≠ x9 ∧ X ≠ x9 := by
       rcases hx9 with h | h
       ·have hth := HFD.out.there (k + 1 + n) HJ.out
        rw [h] at hth
        obtain ⟨kk, hkk⟩ := Option.isSome_iff_exists.1 hth.symm
        exact ⟨fun e => (HFD.out.map (k + 1 + n) x9 kk HJ.out h hkk).2.2.2 e.symm, fun e => HXM.out (k + 1 + n) x9 HJ.out h e.symm⟩
       ·have := CellsAt.blk HFD.out.tab
        have := CellsAt.blk HXD.out
        omega
      have hX9 : I5 w9 X (insF y) := CellsAt.grown HXD.out hg9 hx9A.2
      have hS9 : w9.cell? ⟨X, 3, none⟩ = some (.int .i64 (n : Int)) := by
       have := CellsAt.cell hX9 (j := 3) (by omega)
       rw [this]
       show some (Value.int .i64 y.n) = _
       rw [HN.out]
      have htab9 := CellsAt.grown HFD.out.tab hg9 hx9A.1
      have hc9 : w9.cell? ⟨A, k + 1 + n, none⟩ = some (.map (bs (k + 1 + n))) := CellsAt.cell htab9 (j := k + 1 + n) (by have := HJ.out; omega)
      have hf9 : w9.frozen? ⟨A, k + 1 + n, none⟩ = false := CellsAt.free htab9 _
      have HF10 := Lib.hid (FoldAt.meet HFD.out (j := k + 1 + n) HJ.out hm9 hx9 hg9)
      have hS10 : (w9.setCell ⟨A, k + 1 + n, none⟩ (.map (some x9))).cell? ⟨X, 3, none⟩ = some (.int .i64 (n : Int)) := by
       rw [World.cell?_setCell_other _ _ _ _ (fun e => by have h := congrArg Addr.block e; first | exact HXA.out.1 h | exact HXA.out.1 h.symm)]
       exact hS9
      refine hK.out _ _ hS9 (fun _ => ?_)
      clear hK K hm9 hx9 hg9 hk9 hne9 htab9 hatj HME HFD HXD hS0
      have hS0 := hS9
      try simp only [Act.put, List.setIfInBounds_toArray, List.set_cons_zero, List.set_cons_succ]
      refine takeS (i := 16) (d := 105) (v := (.pointer (some ⟨A, k + 1 + n, none⟩))) rfl rfl rfl (by kernel_rfl) (by kernel_rfl) (by kernel_rfl) (fun _ _ _ h => h) (fun w' _ => by go_simp) hS0 ?_
      try simp only [Act.put, List.setIfInBounds_toArray, List.set_cons_zero, List.set_cons_succ]

      refine wpAnyH_ready (rs := [17]) (by kernel_rfl) (by simp) ?_
      refine AllReadyH.cons rfl (fun K hK => ?_) AllReadyH.nil
      go_simp
      refine hK.out _ _ hS10 (fun _ => ?_)
      clear hK K
      try simp only [Act.put, List.setIfInBounds_toArray, List.set_cons_zero, List.set_cons_succ]
      refine wpAnyH_done (by kernel_rfl) ?_ _
      clear hS10 hS9 hc9 hf9 hS0 c3d
      obtain ⟨w10, hw10⟩ : ∃ w10, w9.setCell ⟨A, k + 1 + n, none⟩ (.map (some x9)) = w10 := ⟨_, rfl⟩
      rw [hw10] at HF10
      try rw [hw10]
      clear hw10
      have HEND : Hid (FoldAt len g c A (k + 1) (B.foldN ps (k + 1)) (fun m => if m = k + 1 + n then some x9 else bs m) w w10) := Lib.hid (by
       have := HF10.out
       rw [HSTEP.out]
       simp only [HKAF.out, hnx, hsk, if_true, HN.out, Int.toNat_natCast] at this ⊢
       exact this)
      clear HF10
      go_wp2_with fail
      go_roundw
      case rel => exact ⟨k + 1, _, hlt, by go_num, HEND⟩
      case measure => simp [intOf]; omega
     ·have e1 : (y.op == 18) = false := by simp [h18]
      have e2 : (y.op != 18) = true := by simp [h18]
      by_cases h0 : y.op = 0
      ·have e3 : (y.op == 0) = true := by simp [h0]
       have e4 : (y.op != 0) = false := by simp [h0]
       have e5 : (y.op == 19) = false := by simp [h0]
       have hnx : y.next = false := by unfold B.Ins.next; simp [h0]
       have hsk : y.skips = false := by unfold B.Ins.skips; simp [h0]
       have HEND : Hid (FoldAt len g c A (k + 1) (B.foldN ps (k + 1)) bs w w6) := Lib.hid (by
        have := HF6.out
        rw [HSTEP.out]
        simp only [hnx, hsk, Bool.false_eq_true, if_false] at this ⊢
        exact this)
       clear h0 h18 hnx hsk
       go_wp2_with fail
       go_roundw
       case rel => exact ⟨k + 1, _, hlt, by go_num, HEND⟩
       case measure => simp [intOf]; omega
      ·have e3 : (y.op == 0) = false := by simp [h0]
       have e4 : (y.op != 0) = true := by simp [h0]
       have hnx : y.next = true := by unfold B.Ins.next; simp [h0, h18]
       by_cases h19 : y.op = 19
       ·have e5 : (y.op == 19) = true := by simp [h19]
        have hsk : y.skips = true := by unfold B.Ins.skips; simp [h19]
        have hat6 : w6.cell? ⟨A, k + 1, none⟩ = some (.map (bs (k + 1))) := CellsAt.cell HF6.out.tab (j := k + 1) (by omega)
        have HME := Lib.hid (FoldAt.meets HF6.out (j := k + 1) (by omega) HKB.out (HFR.out (k + 1) (by omega)))
        go_wp2_with fail
        refine HME.out.mono ?_
        rintro e w7 ⟨x7, rfl, hm7, hx7, hg7, hk7, hne7⟩
        have hA7 : A ≠ x7 := fun e => by
         rcases hx7 with h | h
         ·have hth := HF6.out.there (k + 1) (by omega)
          rw [h] at hth
          obtain ⟨kk, hkk⟩ := Option.isSome_iff_exists.1 hth.symm
          exact (HF6.out.map (k + 1) x7 kk (by omega) h hkk).2.2.2 e.symm
         ·have := CellsAt.blk HF6.out.tab
          omega
        have htab7 := CellsAt.grown HF6.out.tab hg7 hA7
        have hc7 : w7.cell? ⟨A, k + 1, none⟩ = some (.map (bs (k + 1))) := CellsAt.cell htab7 (j := k + 1) (by omega)
        have hf7 : w7.frozen? ⟨A, k + 1, none⟩ = false := CellsAt.free htab7 (k + 1)
        have HF8 := Lib.hid (FoldAt.meet HF6.out (j := k + 1) (by omega) hm7 hx7 hg7)
        have HX8 : Hid (I5 (w7.setCell ⟨A, k + 1, none⟩ (.map (some x7))) X (insF y)) := Lib.hid (by
         have hXA := HXA.out
         refine CellsAt.other (CellsAt.grown HX6.out hg7 (fun e => ?_)) _ _ hXA.1
         rcases hx7 with h | h
         ·have hth := HF6.out.there (k + 1) (by omega)
          rw [h] at hth
          obtain ⟨kk, hkk⟩ := Option.isSome_iff_exists.1 hth.symm
          have := (HF6.out.map (k + 1) x7 kk (by omega) h hkk).1
          exact HXM.out (k + 1) x7 (by omega) h e.symm
         ·have := CellsAt.blk HX6.out
          omega)
        have HK8 : Hid (KnAt (w7.setCell ⟨A, k + 1, none⟩ (.map (some x7))) kb (k + 1) K') := Lib.hid (hk7.kept (grownBy_set w7 A (k + 1) _) (fun e => HXA.out.2 (Option.some.inj e)))
        have HFR8 : Hid (∀ m, m ≤ len → (fun m => if m = k + 1 then some x7 else bs m) m ≠ some kb) := Lib.hid (fun m hm => by
         by_cases e : m = k + 1
         ·simp only [e, if_true]
          exact fun h => hne7 (Option.some.inj h).symm
         ·simp only [e, if_false]
          exact HFR.out m hm)
        have HXM8 : Hid (∀ m b, m ≤ len → (fun m => if m = k + 1 then some x7 else bs m) m = some b → b ≠ X) := Lib.hid (fun m b hm hb => by
         by_cases e : m = k + 1
         ·simp only [e, if_true] at hb
          cases hb
          intro ee
          rcases hx7 with h | h
          ·exact HXM.out (k + 1) x7 (by omega) h ee
          ·have := CellsAt.blk HX6.out
           omega
         ·simp only [e, if_false] at hb
          exact HXM.out m b hm hb)
        clear hm7 hx7 hg7 hk7 hne7 hA7 htab7 hat6 HME
        go_upto_region 16 with fail
        obtain ⟨w8, hw8⟩ : ∃ w8, w7.setCell ⟨A, k + 1, none⟩ (.map (some x7)) = w8 := ⟨_, rfl⟩
        rw [hw8] at HF8 HX8 HK8
        try rw [hw8]
        clear hw8 hc7 hf7 c0 HF6 HX6 HKB HFR HXM
        have c0 : w8.cell? ⟨X, 0, none⟩ = some (.int .i64 y.op) := CellsAt.cell HX8.out (j := 0) (by omega)
        obtain ⟨bs8, hbs8⟩ : ∃ bs8 : Nat → Option Nat, (fun m => if m = k + 1 then some x7 else bs m) = bs8 := ⟨_, rfl⟩
        rw [hbs8] at HF8
        have HFR8' : Hid (∀ m, m ≤ len → bs8 m ≠ some kb) := by rw [← hbs8]; exact HFR8
        have HXM8' : Hid (∀ m b, m ≤ len → bs8 m = some b → b ≠ X) := by rw [← hbs8]; exact HXM8
        clear hbs8 HFR8 HXM8
        obtain ⟨n, hn⟩ : ∃ n : Nat, y.n = (n : Int) := ⟨y.n.toNat, by have := HBD.out; omega⟩
        have hjl : k + 1 + n ≤ len := by
         have ht := HYT.out
         unfold B.Ins.touch at ht
         rw [if_neg (by omega), if_neg (by omega), if_pos (by omega)] at ht
         split at ht
         ·omega
         ·omega
        have c3 : w8.cell? ⟨X, 3, none⟩ = some (.int .i64 (n : Int)) := by
         have := CellsAt.cell HX8.out (j := 3) (by omega)
         rw [this]
         show some (Value.int .i64 y.n) = _
         rw [hn]
        have hatj : w8.drew.cell? ⟨A, k + 1 + n, none⟩ = some (.map (bs8 (k + 1 + n))) := CellsAt.cell HF8.out.tab (j := k + 1 + n) (by omega)
        have HME := Lib.hid (FoldAt.meets (FoldAt.below HF8.out (Below.refl w8.heap.size w8).drew) (j := k + 1 + n) hjl (HK8.out.below (Below.refl w8.heap.size w8).drew (Nat.le_refl _)) (HFR8'.out (k + 1 + n) hjl))
        have HFD := Lib.hid (FoldAt.below HF8.out (Below.refl w8.heap.size w8).drew)
        have HXD : Hid (I5 w8.drew X (insF y)) := Lib.hid (CellsAt.of HX8.out rfl)
        obtain ⟨Wd, hWd⟩ : ∃ Wd, w8.drew = Wd := ⟨_, rfl⟩
        have c3d : w8.drew.cell? ⟨X, 3, none⟩ = some (.int .i64 (n : Int)) := c3
        have s4 : IntKind.i64.wrap ((k : Int) + 1 + (n : Int)) = (k : Int) + 1 + (n : Int) := IntWalk.i64_in _ (by omega)
        have s5 : IntKind.i64.wrap ((k : Int) + (1 + (n : Int))) = (k : Int) + 1 + (n : Int) := by rw [← Int.add_assoc]; exact s4
        have j0 : (0 : Int) ≤ (k : Int) + 1 + (n : Int) := by omega
        have j1 : (k : Int) + 1 + (n : Int) < ((len + 1 : Nat) : Int) := by omega
        have j2 : (k : Int) + 1 + (n : Int) < (len : Int) + 1 := by omega
        have j3 : ((k : Int) + 1 + (n : Int)).toNat = k + 1 + n := by omega
        have HN := Lib.hid hn
        have HJ := Lib.hid hjl
        rw [hWd] at HME HFD HXD hatj c3d
        clear hn hjl c3
        go_upto_region 17 with fail
        refine wp_region_held_drew (S := fun w' => w'.cell? ⟨X, 3, none⟩ = some (.int .i64 (n : Int))) (by kernel_rfl) (by rw [hWd]; exact c3d) (fun hS0 => ?_)
        rw [hWd] at hS0 ⊢
        clear hWd
        refine takeS (i := 0) (d := 89) (v := (.slice (some ⟨A, 0, none⟩) (len + 1) (len + 1))) rfl rfl rfl (by kernel_rfl) (by kernel_rfl) (by kernel_rfl) (fun _ _ _ h => h) (fun w' _ => by go_simp) hS0 ?_
        try simp only [Act.put, List.setIfInBounds_toArray, List.set_cons_zero, List.set_cons_succ]
        refine takeS (i := 1) (d := 90) (v := (.int .i64 (k : Int))) rfl rfl rfl (by kernel_rfl) (by kernel_rfl) (by kernel_rfl) (fun _ _ _ h => h) (fun w' _ => by go_simp) hS0 ?_
        try simp only [Act.put, List.setIfInBounds_toArray, List.set_cons_zero, List.set_cons_succ]
        refine takeS (i := 2) (d := 91) (v := (.int .i64 ((k : Int) + 1))) rfl rfl rfl (by kernel_rfl) (by kernel_rfl) (by kernel_rfl) (fun _ _ _ h => h) (fun w' _ => by go_simp) hS0 ?_
        try simp only [Act.put, List.setIfInBounds_toArray, List.set_cons_zero, List.set_cons_succ]
        refine takeS (i := 3) (d := 92) (v := (.pointer (some ⟨X, 3, none⟩))) rfl rfl rfl (by kernel_rfl) (by kernel_rfl) (by kernel_rfl) (fun _ _ _ h => h) (fun w' _ => by go_simp) hS0 ?_
        try simp only [Act.put, List.setIfInBounds_toArray, List.set_cons_zero, List.set_cons_succ]
        refine takeS (i := 4) (d := 93) (v := (.int .i64 (n : Int))) rfl rfl rfl (by kernel_rfl) (by kernel_rfl) (by kernel_rfl) (fun _ _ _ h => h) (fun w' hw => by have hc := hw; go_simp) hS0 ?_
        try simp only [Act.put, List.setIfInBounds_toArray, List.set_cons_zero, List.set_cons_succ]
        refine takeS (i := 5) (d := 94) (v := (.int .i64 ((k : Int) + 1 + (n : Int)))) rfl rfl rfl (by kernel_rfl) (by kernel_rfl) (by kernel_rfl) (fun _ _ _ h => h) (fun w' _ => by go_simp) hS0 ?_
        try simp only [Act.put, List.setIfInBounds_toArray, List.set_cons_zero, List.set_cons_succ]
        refine takeS (i := 6) (d := 95) (v := (.slice (some ⟨A, 0, none⟩) (len + 1) (len + 1))) rfl rfl rfl (by kernel_rfl) (by kernel_rfl) (by kernel_rfl) (fun _ _ _ h => h) (fun w' _ => by go_simp) hS0 ?_
        try simp only [Act.put, List.setIfInBounds_toArray, List.set_cons_zero, List.set_cons_succ]
        refine takeS (i := 7) (d := 96) (v := (.int .i64 (k : Int))) rfl rfl rfl (by kernel_rfl) (by kernel_rfl) (by kernel_rfl) (fun _ _ _ h => h) (fun w' _ => by go_simp) hS0 ?_
        try simp only [Act.put, List.setIfInBounds_toArray, List.set_cons_zero, List.set_cons_succ]
        refine takeS (i := 8) (d := 97) (v := (.int .i64 ((k : Int) + 1))) rfl rfl rfl (by kernel_rfl) (by kernel_rfl) (by kernel_rfl) (fun _ _ _ h => h) (fun w' _ => by go_simp) hS0 ?_
        try simp only [Act.put, List.setIfInBounds_toArray, List.set_cons_zero, List.set_cons_succ]
        refine takeS (i := 9) (d := 98) (v := (.pointer (some ⟨X, 3, none⟩))) rfl rfl rfl (by kernel_rfl) (by kernel_rfl) (by kernel_rfl) (fun _ _ _ h => h) (fun w' _ => by go_simp) hS0 ?_
        try simp only [Act.put, List.setIfInBounds_toArray, List.set_cons_zero, List.set_cons_succ]
        refine takeS (i := 10) (d := 99) (v := (.int .i64 (n : Int))) rfl rfl rfl (by kernel_rfl) (by kernel_rfl) (by kernel_rfl) (fun _ _ _ h => h) (fun w' hw => by have hc := hw; go_simp) hS0 ?_
        try simp only [Act.put, List.setIfInBounds_toArray, List.set_cons_zero, List.set_cons_succ]
        refine takeS (i := 11) (d := 100) (v := (.int .i64 ((k : Int) + 1 + (n : Int)))) rfl rfl rfl (by kernel_rfl) (by kernel_rfl) (by kernel_rfl) (fun _ _ _ h => h) (fun w' _ => by go_simp) hS0 ?_
        try simp only [Act.put, List.setIfInBounds_toArray, List.set_cons_zero, List.set_cons_succ]
        refine takeS (i := 12) (d := 101) (v := (.pointer (some ⟨A, k + 1 + n, none⟩))) rfl rfl rfl (by kernel_rfl) (by kernel_rfl) (by kernel_rfl) (fun _ _ _ h => h) (fun w' _ => by go_simp) hS0 ?_
        try simp only [Act.put, List.setIfInBounds_toArray, List.set_cons_zero, List.set_cons_succ]
        refine takeS (i := 14) (d := 103) (v := (.map (some kb))) rfl rfl rfl (by kernel_rfl) (by kernel_rfl) (by kernel_rfl) (fun _ _ _ h => h) (fun w' _ => by go_simp) hS0 ?_
        try simp only [Act.put, List.setIfInBounds_toArray, List.set_cons_zero, List.set_cons_succ]

        refine wpAnyH_ready (rs := [13]) (by kernel_rfl) (by simp) ?_
        refine AllReadyH.cons rfl (fun K hK => ?_) AllReadyH.nil
        go_simp
        refine hK.out _ _ hS0 (fun _ => ?_)
        clear hK K
        try simp only [Act.put, List.setIfInBounds_toArray, List.set_cons_zero, List.set_cons_succ]
        refine wpAnyH_ready (rs := [15]) (by kernel_rfl) (by simp) ?_
        refine AllReadyH.cons rfl (fun K hK => ?_) AllReadyH.nil
        go_simp
        refine HME.out.mono ?_
        rintro e w9 ⟨x9, rfl, hm9, hx9, hg9, hk9, hne9⟩
        have hx9A : A ≠ x9 ∧ X ≠ x9 := by
         rcases hx9 with h | h
         ·have hth := HFD.out.there (k + 1 + n) HJ.out
          rw [h] at hth
          obtain ⟨kk, hkk⟩ := Option.isSome_iff_exists.1 hth.symm
          exact ⟨fun e => (HFD.out.map (k + 1 + n) x9 kk HJ.out h hkk).2.2.2 e.symm, fun e => HXM8'.out (k + 1 + n) x9 HJ.out h e.symm⟩
         ·have := CellsAt.blk HFD.out.tab
          have := CellsAt.blk HXD.out
          omega
        have hX9 : I5 w9 X (insF y) := CellsAt.grown HXD.out hg9 hx9A.2
        have hS9 : w9.cell? ⟨X, 3, none⟩ = some (.int .i64 (n : Int)) := by
         have := CellsAt.cell hX9 (j := 3) (by omega)
         rw [this]
         show some (Value.int .i64 y.n) = _
         rw [HN.out]
        have htab9 := CellsAt.grown HFD.out.tab hg9 hx9A.1
        have hc9 : w9.cell? ⟨A, k + 1 + n, none⟩ = some (.map (bs8 (k + 1 + n))) := CellsAt.cell htab9 (j := k + 1 + n) (by have := HJ.out; omega)
        have hf9 : w9.frozen? ⟨A, k + 1 + n, none⟩ = false := CellsAt.free htab9 _
        have HF10 := Lib.hid (FoldAt.meet HFD.out (j := k + 1 + n) HJ.out hm9 hx9 hg9)
        have hS10 : (w9.setCell ⟨A, k + 1 + n, none⟩ (.map (some x9))).cell? ⟨X, 3, none⟩ = some (.int .i64 (n : Int)) := by
         rw [World.cell?_setCell_other _ _ _ _ (fun e => by have h := congrArg Addr.block e; first | exact HXA.out.1 h | exact HXA.out.1 h.symm)]
         exact hS9
        refine hK.out _ _ hS9 (fun _ => ?_)
        clear hK K hm9 hx9 hg9 hk9 hne9 htab9 hatj HME HFD HXD hS0
        have hS0 := hS9
        try simp only [Act.put, List.setIfInBounds_toArray, List.set_cons_zero, List.set_cons_succ]
        refine takeS (i := 16) (d := 105) (v := (.pointer (some ⟨A, k + 1 + n, none⟩))) rfl rfl rfl (by kernel_rfl) (by kernel_rfl) (by kernel_rfl) (fun _ _ _ h => h) (fun w' _ => by go_simp) hS0 ?_
        try simp only [Act.put, List.setIfInBounds_toArray, List.set_cons_zero, List.set_cons_succ]

        refine wpAnyH_ready (rs := [17]) (by kernel_rfl) (by simp) ?_
        refine AllReadyH.cons rfl (fun K hK => ?_) AllReadyH.nil
        go_simp
        refine hK.out _ _ hS10 (fun _ => ?_)
        clear hK K
        try simp only [Act.put, List.setIfInBounds_toArray, List.set_cons_zero, List.set_cons_succ]
        refine wpAnyH_done (by kernel_rfl) ?_ _
        clear hS10 hS9 hc9 hf9 hS0 c3d
        obtain ⟨w10, hw10⟩ : ∃ w10, w9.setCell ⟨A, k + 1 + n, none⟩ (.map (some x9)) = w10 := ⟨_, rfl⟩
        rw [hw10] at HF10
        try rw [hw10]
        clear hw10
        have HEND : Hid (FoldAt len g c A (k + 1) (B.foldN ps (k + 1)) (fun m => if m = k + 1 + n then some x9 else bs8 m) w w10) := Lib.hid (by
         have := HF10.out
         rw [HSTEP.out]
         simp only [HKAF.out, hnx, hsk, if_true, HN.out, Int.toNat_natCast] at this ⊢
         exact this)
        clear HF10
        go_wp2_with fail
        go_roundw
        case rel => exact ⟨k + 1, _, hlt, by go_num, HEND⟩
        case measure => simp [intOf]; omega
       ·have e5 : (y.op == 19) = false := by simp [h19]
        have hsk : y.skips = false := by unfold B.Ins.skips; simp [h18, h19]
        have hat6 : w6.cell? ⟨A, k + 1, none⟩ = some (.map (bs (k + 1))) := CellsAt.cell HF6.out.tab (j := k + 1) (by omega)
        have HME := Lib.hid (FoldAt.meets HF6.out (j := k + 1) (by omega) HKB.out (HFR.out (k + 1) (by omega)))
        go_wp2_with fail
        refine HME.out.mono ?_
        rintro e w7 ⟨x7, rfl, hm7, hx7, hg7, hk7, hne7⟩
        have hA7 : A ≠ x7 := fun e => by
         rcases hx7 with h | h
         ·have hth := HF6.out.there (k + 1) (by omega)
          rw [h] at hth
          obtain ⟨kk, hkk⟩ := Option.isSome_iff_exists.1 hth.symm
          exact (HF6.out.map (k + 1) x7 kk (by omega) h hkk).2.2.2 e.symm
         ·have := CellsAt.blk HF6.out.tab
          omega
        have htab7 := CellsAt.grown HF6.out.tab hg7 hA7
        have hc7 : w7.cell? ⟨A, k + 1, none⟩ = some (.map (bs (k + 1))) := CellsAt.cell htab7 (j := k + 1) (by omega)
        have hf7 : w7.frozen? ⟨A, k + 1, none⟩ = false := CellsAt.free htab7 (k + 1)
        have HF8 := Lib.hid (FoldAt.meet HF6.out (j := k + 1) (by omega) hm7 hx7 hg7)
        have HX8 : Hid (I5 (w7.setCell ⟨A, k + 1, none⟩ (.map (some x7))) X (insF y)) := Lib.hid (by
         have hXA := HXA.out
         refine CellsAt.other (CellsAt.grown HX6.out hg7 (fun e => ?_)) _ _ hXA.1
         rcases hx7 with h | h
         ·have hth := HF6.out.there (k + 1) (by omega)
          rw [h] at hth
          obtain ⟨kk, hkk⟩ := Option.isSome_iff_exists.1 hth.symm
          have := (HF6.out.map (k + 1) x7 kk (by omega) h hkk).1
          exact HXM.out (k + 1) x7 (by omega) h e.symm
         ·have := CellsAt.blk HX6.out
          omega)
        have HK8 : Hid (KnAt (w7.setCell ⟨A, k + 1, none⟩ (.map (some x7))) kb (k + 1) K') := Lib.hid (hk7.kept (grownBy_set w7 A (k + 1) _) (fun e => HXA.out.2 (Option.some.inj e)))
        have HFR8 : Hid (∀ m, m ≤ len → (fun m => if m = k + 1 then some x7 else bs m) m ≠ some kb) := Lib.hid (fun m hm => by
         by_cases e : m = k + 1
         ·simp only [e, if_true]
          exact fun h => hne7 (Option.some.inj h).symm
         ·simp only [e, if_false]
          exact HFR.out m hm)
        have HXM8 : Hid (∀ m b, m ≤ len → (fun m => if m = k + 1 then some x7 else bs m) m = some b → b ≠ X) := Lib.hid (fun m b hm hb => by
         by_cases e : m = k + 1
         ·simp only [e, if_true] at hb
          cases hb
          intro ee
          rcases hx7 with h | h
          ·exact HXM.out (k + 1) x7 (by omega) h ee
          ·have := CellsAt.blk HX6.out
           omega
         ·simp only [e, if_false] at hb
          exact HXM.out m b hm hb)
        clear hm7 hx7 hg7 hk7 hne7 hA7 htab7 hat6 HME
        go_upto_region 16 with fail
        obtain ⟨w8, hw8⟩ : ∃ w8, w7.setCell ⟨A, k + 1, none⟩ (.map (some x7)) = w8 := ⟨_, rfl⟩
        rw [hw8] at HF8 HX8 HK8
        try rw [hw8]
        clear hw8 hc7 hf7 c0 HF6 HX6 HKB HFR HXM
        have c0 : w8.cell? ⟨X, 0, none⟩ = some (.int .i64 y.op) := CellsAt.cell HX8.out (j := 0) (by omega)
        have HEND : Hid (FoldAt len g c A (k + 1) (B.foldN ps (k + 1)) (fun m => if m = k + 1 then some x7 else bs m) w w8) := Lib.hid (by
         have := HF8.out
         rw [HSTEP.out]
         simp only [HKAF.out, hnx, hsk, if_true, Bool.false_eq_true, if_false] at this ⊢
         exact this)
        clear h0 h18 h19 hnx hsk HF8
        go_wp2_with fail
        go_roundw
        case rel => exact ⟨k + 1, _, hlt, by go_num, HEND⟩
        case measure => simp [intOf]; omega
  ·have e0 : ((k : Int) < len) = False := by simp; omega
   have hfo : (B.foldN ps k).q = B.fold ps := by
    unfold B.fold
    rw [show ps.length = k by have := HP.out.len; omega]
   have HFO := Lib.hid hfo
   clear hfo hlt
   go_wp2_with fail
   go_ret2
   exact ⟨g, c, rfl, by rw [← HFO.out]; exact HF.out.own, HF.out.bel⟩

end Code
end Go.Proofs.YtegjeincncccaaaGreatDoor
