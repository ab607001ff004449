/- Plain Lean: what fold keeps: instructions that are right and touch what there is, numbers of 64 bits. -/
import Derived.Test.YtegjeincncccaaaGreatDoorFlP
import Derived.Test.YtegjeincncccaaaGreatDoorPlainV
namespace Go.Proofs.YtegjeincncccaaaGreatDoor.B

/-- what is known are numbers of 64 bits -/
def Kn.Ok (K : Kn) : Prop := ∀ r v, K r = some v → v < 18446744073709551616

theorem made_lt {x : Ins} {K : Kn} (hr : x.right = true) (h : K.Ok) {v : Nat} (hv : x.made K = some v) : v < 18446744073709551616 := by
 have hb := right_bounds hr
 unfold Ins.made at hv
 have both_lt : ∀ f : Nat → Nat → Nat, (∀ a b, a < 18446744073709551616 → b < 18446744073709551616 → f a b < 18446744073709551616) → both f (K x.a) (K x.b) = some v → v < 18446744073709551616 := by
  intro f hf hv
  unfold both at hv
  cases ha : K x.a with
  | none => rw [ha] at hv; cases hv
  | some a =>
   cases hb' : K x.b with
   | none => rw [ha, hb'] at hv; cases hv
   | some b =>
    rw [ha, hb'] at hv
    cases hv
    exact hf a b (h _ _ ha) (h _ _ hb')
 have map_lt : ∀ f : Nat → Nat, (∀ a, a < 18446744073709551616 → f a < 18446744073709551616) → (K x.a).map f = some v → v < 18446744073709551616 := by
  intro f hf hv
  cases ha : K x.a with
  | none => rw [ha] at hv; cases hv
  | some a =>
   rw [ha] at hv
   cases hv
   exact hf a (h _ _ ha)
 split at hv
 ·exact h _ _ hv
 ·split at hv
  ·exact both_lt _ (fun a b h1 _ => and_lt64 h1) hv
  ·split at hv
   ·exact both_lt _ (fun a b h1 h2 => or_lt64 h1 h2) hv
   ·split at hv
    ·exact both_lt _ (fun a b h1 h2 => xor_lt64 h1 h2) hv
    ·split at hv
     ·exact map_lt _ (fun a _ => Nat.mod_lt _ (by omega)) hv
     ·split at hv
      ·exact map_lt _ (fun a h1 => Nat.lt_of_le_of_lt (Nat.div_le_self _ _) h1) hv
      ·split at hv
       ·exact map_lt _ (fun a h1 => and_lt64 h1) hv
       ·split at hv
        ·rename_i h14
         refine map_lt _ (fun a h1 => extend_lt true ?_ h1) hv
         unfold Ins.right at hr
         rw [h14] at hr
         simp [isOp, hasA, hiB, loN, hiN, hiImm] at hr
         omega
        ·cases hv

theorem better_ok {x : Ins} {K : Kn} (hr : x.right = true) (h : K.Ok) : (x.better K).right = true ∧ ∀ size slots left : Int, 0 ≤ left → x.touch size slots left = 0 → (x.better K).touch size slots left = 0 := by
 have hb := right_bounds hr
 unfold Ins.better
 cases hm : x.made K with
 | some v =>
  have hv := made_lt hr h hm
  refine ⟨?_, fun size slots left _ _ => by simp [Ins.touch]⟩
  simp only [Ins.right, isOp, hasA, hiB, loN, hiN, hiImm]
  simp
  omega
 | none =>
  simp only
  cases K x.a with
  | none => exact ⟨hr, fun _ _ _ _ ht => ht⟩
  | some v =>
   simp only
   split
   ·rename_i h1
    refine ⟨?_, fun size slots left _ ht => ?_⟩
    ·simp [Ins.right, isOp, hasA, hiB, loN, hiN, hiImm]; omega
    ·simp only [Ins.touch, h1.1] at ht ⊢
     simpa using ht
   ·split
    ·refine ⟨by rfl, fun size slots left hl ht => ?_⟩
     simp [Ins.touch]; omega
    ·exact ⟨hr, fun _ _ _ _ ht => ht⟩

theorem afterK_ok {x : Ins} {K : Kn} (hr : x.right = true) (h : K.Ok) : (x.afterK K).Ok := by
 have hb := right_bounds hr
 intro r v hv
 unfold Ins.afterK at hv
 split at hv
 ·split at hv
  ·cases hv; omega
  ·cases hv
 ·exact h r v hv

theorem meetK_ok {a : Option Kn} {K : Kn} (ha : ∀ k, a = some k → k.Ok) (h : K.Ok) : (meetK a K).Ok := by
 cases a with
 | none => exact h
 | some k =>
  intro r v hv
  simp only [meetK] at hv
  split at hv
  ·exact ha k rfl r v hv
  ·cases hv

/-- how far the first instructions go -/
structure FsOk (size slots : Int) (len : Nat) (s : Fs) : Prop where
 len : s.q.length = len
 ok : OkTouch s.q size slots
 known : ∀ j k, s.known j = some k → k.Ok

theorem updK_ok {f : Nat → Option Kn} {j : Nat} {k : Kn} (h : ∀ j k, f j = some k → k.Ok) (hk : k.Ok) : ∀ i m, updK f j k i = some m → m.Ok := by
 intro i m hm
 unfold updK at hm
 split at hm
 ·cases hm; exact hk
 ·exact h i m hm

theorem set_ok {p : List Ins} {size slots : Int} (ok : OkTouch p size slots) {i : Nat} {x y : Ins} (hx : p[i]? = some x) (h1 : y.right = true) (h2 : y.touch size slots ((p.length : Int) - i - 1) = 0) : OkTouch (p.set i y) size slots := by
 have hi := (List.getElem?_eq_some_iff.1 hx).1
 constructor
 ·intro k z hz
  rw [List.getElem?_set] at hz
  split at hz
  ·cases hz; exact h1
  ·exact ok.right k z hz
 ·intro k z hz
  rw [List.length_set]
  rw [List.getElem?_set] at hz
  split at hz
  ·rename_i e
   cases hz; rw [← e]; exact h2
  ·exact ok.touch k z hz

theorem foldStep_ok {size slots : Int} {len i : Nat} {s : Fs} (h : FsOk size slots len s) : FsOk size slots len (foldStep i s) := by
 have hl := foldStep_len i s
 unfold foldStep at hl ⊢
 cases hx : s.q[i]? with
 | none => simpa using h
 | some x =>
  cases hk : s.known i with
  | none => simpa using h
  | some k =>
   simp only [hx, hk] at hl ⊢
   have hr := h.ok.right i x hx
   have hi := (List.getElem?_eq_some_iff.1 hx).1
   obtain ⟨b1, b2⟩ := better_ok hr (h.known i k hk)
   have b3 := b2 size slots ((s.q.length : Int) - i - 1) (by omega) (h.ok.touch i x hx)
   have ha := afterK_ok b1 (h.known i k hk)
   refine ⟨by rw [hl]; exact h.len, set_ok h.ok hx b1 b3, ?_⟩
   have h1 : ∀ j m, (if (x.better k).next = true then updK s.known (i + 1) (meetK (s.known (i + 1)) ((x.better k).afterK k)) else s.known) j = some m → m.Ok := by
    split
    ·exact updK_ok h.known (meetK_ok (fun m hm => h.known _ m hm) ha)
    ·exact h.known
   split
   ·exact updK_ok h1 (meetK_ok (fun m hm => h1 _ m hm) ha)
   ·exact h1

theorem foldN_ok {p : List Ins} {size slots : Int} (ok : OkTouch p size slots) : ∀ i, FsOk size slots p.length (foldN p i)
 | 0 => ⟨rfl, ok, fun j k hk => by
     simp only [foldN] at hk
     split at hk
     ·cases hk; intro r v hv; cases hv
     ·cases hk⟩
 | i + 1 => foldStep_ok (foldN_ok ok i)

theorem fold_ok {p : List Ins} {size slots : Int} (ok : OkTouch p size slots) : OkTouch (fold p) size slots ∧ (fold p).length = p.length := ⟨(foldN_ok ok p.length).ok, foldN_len p p.length⟩

end Go.Proofs.YtegjeincncccaaaGreatDoor.B
