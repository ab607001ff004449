/- Package bits: a bit of a payload. -/
import Derived.Test.YtdpjbnjlognmeaaGreatDoorLwE
import Derived.Test.YtdpjbnjlognmeaaGreatDoorVmP
namespace Go.Proofs.YtdpjbnjlognmeaaGreatDoor
open Go.RowKit

namespace Code

attribute [local go_sem ↓] Go.wp_at_zero Go.wp_at_succ

theorem bit8 : ∀ (x : Fin 256) (k : Fin 8), (bits BinOp.and IntKind.u8 ((x.val : Int) / 2 ^ k.val) 1 == 1) = x.val.testBit k.val := by decide +kernel

theorem bthere_any (pa : Option Addr) (pn pc : Nat) (i : Nat) (w : World) (hpn : pn ≤ 8) (hi : i < 8 * pn) : Calls Tryz.prog 43 #[.slice pa pn pc, .int .i64 (i : Int)] w (fun e w' => e = .returned (.bool true) ∧ w' = w) := by
 have e1 : ((i : Int) < 8 * (pn : Int)) = True := by simp; omega
 have e0 : ((0 : Int) ≤ (i : Int)) = True := by simp
 go_enter Tryz.func43, Tryz.ntmps43
 go_wp2_with fail
 go_ret
 exact ⟨rfl, rfl⟩

set_option maxRecDepth 100000 in
theorem get_any (pa : Option Addr) (pn pc : Nat) (pay : List Nat) (i : Nat) (w : World) (hp : ListAt w pa pn (pay.map u8V)) (hpn : pn ≤ 8) (hi : i < 8 * pn) (hby : B.Bytes pay) :
    Calls Tryz.prog 27 #[.slice pa pn pc, .int .i64 (i : Int)] w (fun e w' => e = .returned (.tuple #[.bool (B.payBit pay i), .nilIface]) ∧ w' = w) := by
 have hl : pn = pay.length := by have := hp.len; simpa using this
 have hx : pay[i / 8]? = some (pay.getD (i / 8) 0) := by rw [List.getD_eq_getElem?_getD, List.getElem?_eq_getElem (by omega)]; rfl
 obtain ⟨b, o, rfl, hlt, hc⟩ := hp.at_ (i / 8) (u8V (pay.getD (i / 8) 0)) (by rw [List.getElem?_map, hx]; rfl)
 unfold B.payBit
 have hb := hby _ (List.mem_of_getElem? hx)
 generalize pay.getD (i / 8) 0 = x at hx hc hb ⊢
 unfold u8V at hc
 have HB := Lib.hid hb
 have hi2 : (i : Int) < 8 * (pn : Int) := by omega
 have hi3 : (0 : Int) ≤ (i : Int) := by omega
 have hp8 : ¬ (8 < (pn : Int)) := by omega
 clear hl hx hlt hp hby hb
 go_enter Tryz.func27, Tryz.ntmps27
 go_upto_region 5 with (go_at_call 43; refine (bthere_any _ _ _ _ _ hpn hi).mono ?_; rintro e w' ⟨rfl, rfl⟩)
 go_wp2_with fail
 go_ret2
 refine ⟨?_, rfl⟩
 have := bit8 ⟨x, HB.out⟩ ⟨i % 8, Nat.mod_lt _ (by omega)⟩
 simp only at this
 rw [this]
 rfl

end Code
end Go.Proofs.YtdpjbnjlognmeaaGreatDoor
