/- The walks of ShaKnown and ShaChains. Conditions: the slice's size. -/
import Derived.Test.YtkbcpcldjenhiaaDig
import Derived.Test.YtkbcpcldjenhiaaSum
namespace Go.Proofs.Ytkbcpcldjenhiaa
open Go.RowKit
set_option linter.unusedVariables false
set_option linter.unusedSimpArgs false
set_option maxRecDepth 20000

theorem ShaKnown_walk (A : Option Addr) (n c : Nat) (l : List UInt8) (w : World) (hl : l.length = n) (hc : n ≤ c) (hm : c ≤ 140737488351232) (hr : Rd w 1 A n (bys l)) :
    Calls Try.prog 9 #[.slice A n c] w fun e w' => e = .returned (.bool true) ∧ Below w.heap.size w w' := by
  obtain ⟨n', hn'⟩ : ∃ n', n' = min n 1500 := ⟨_, rfl⟩
  obtain ⟨zs, hzs⟩ : ∃ zs, zs = l.take n' := ⟨_, rfl⟩
  have hzl : zs.length = n' := by rw [hzs, List.length_take]; omega
  have hr' := hr.pre (k := n') (by omega)
  rw [Nat.mul_one, bys_take, ← hzs] at hr'
  have h30 : n' ≤ 1500 := by omega
  have hnn : n' ≤ n := by omega
  have hmin : (if (n : Int) > 1500 then (1500 : Int) else n) = n' := by split <;> omega
  have hmin2 : min (n : Int) 1500 = n' := by omega
  clear hzs hr hl hn'
  have hS := Sum_ok A n' c zs w hzl (by omega) (by omega) hr'
  have hD := fun (w1 : World) (hb : Below w.heap.size w w1) => Digest_ok A n' c zs w1 hzl (by omega) (by omega) (hr'.below hb)
  generalize (⟨(shaS zs).toArray⟩ : ByteArray) = s at *
  have HS := Lib.hid hS
  have HD := Lib.hid hD
  clear hS hD hzl hr'
  go_enter Try.func9, Try.ntmps9
  repeat' ((fail_if_success at_builtin); (fail_if_success at_make); (first | go_values | go_skip | go_guarded | go_step | go_upon | go_back))
  refine ((HS.out)).mono ?_; rintro e_ w1 ⟨rfl, hb1⟩; dsimp only
  repeat' ((fail_if_success at_builtin); (fail_if_success at_make); (first | go_values | go_skip | go_guarded | go_step | go_upon | go_back))
  refine ((HD.out _ hb1)).mono ?_; rintro e_ w2 ⟨rfl, hb2⟩; dsimp only
  repeat' ((fail_if_success at_builtin); (fail_if_success at_make); (first | go_values | go_skip | go_guarded | go_step | go_upon | go_back))
  go_ret
  exact ⟨rfl, hb1.trans (hb2.mono hb1.size)⟩
end Go.Proofs.Ytkbcpcldjenhiaa
