/- Lemmas of the proof. Conditions: as stated. -/
import Derived.Test.YtfmnggcfhalfnaaGreatQW07
import Derived.Laws.IdiomStrings
import Derived.Deep.DrawnRows
set_option linter.unusedVariables false
set_option linter.unusedSimpArgs false
set_option maxRecDepth 20000
namespace Go.Proofs.YtfmnggcfhalfnaaGreat
open Go.RowKit
attribute [local go_sem ↓] Go.wp_at_zero Go.wp_at_succ
theorem jr (x:Int) (w:World) (g:Nat) (h:w.cell? ⟨g,0,none⟩=some (.int .u8 x)) (h0:0≤x) (h1:x<256) :
  (convert 30 9 (.slice (some ⟨g,0,none⟩) 1 1)).run Tryz.prog w= .ok (.string ⟨#[UInt8.ofNat x.toNat]⟩) w :=
 run_convert_bytes_back w 30 9 5 ⟨g,0,none⟩ 1 [UInt8.ofNat x.toNat] Tryz.underlying30 Tryz.underlying5 Tryz.underlying9 (fun j hj=>by
  have:j=0:=by simpa using hj
  subst this
  simp only [List.getElem_cons_zero]
  have e:((UInt8.ofNat x.toNat).toNat:Int)=x:=by rw [UInt8.toNat_ofNat'];omega
  rw [e]
  exact h)
theorem zr {P:Program} {md:Region.Mode} {ops:Array Oper} {Q:Exit→Act→World→Prop} {S:World→Prop} {fuel:Nat} {listed:Array Bool} {K:Act→World→Prop}
  (hK:Shut (∀a w,S w→(S w→wpAnyH P md ops Q S fuel listed a w)→K a w)) {a:Act} {w:World} (hS:S w) (A B:World→Prop) (ha:A w) (hb:B w) (h:∀W,S W→A W→B W→wpAnyH P md ops Q S fuel listed a W):K a w :=
 hK.out _ _ hS (fun h'=>h w h' ha hb)
theorem Rd.drewR {w:World} {size n:Nat} {A:Option Addr} {xs:List Value} (h:Rd w size A n xs):Rd w.drew size A n xs:=h
end Go.Proofs.YtfmnggcfhalfnaaGreat
