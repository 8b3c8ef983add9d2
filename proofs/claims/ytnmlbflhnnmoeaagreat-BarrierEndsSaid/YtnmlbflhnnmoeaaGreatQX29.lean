/- Lemmas of the proof. Conditions: as stated. -/
import Derived.Test.YtnmlbflhnnmoeaaGreatQX15
import Derived.Test.YtnmlbflhnnmoeaaGreatQX28
set_option linter.unusedVariables false
set_option linter.unusedSimpArgs false
set_option maxRecDepth 100000
namespace Go.Proofs.YtnmlbflhnnmoeaaGreat
open Go.RowKit
theorem z0q (x y:List UInt8):Op.bytesLess y x=(!Op.bytesLess x y&& !(x==y)):=by
 rcases xO x y with h | h | h
 ·rw [h,kQ h];rfl
 ·subst h;rw [qM];simp
 ·rw [h,kQ h,beq_eq_false_iff_ne.2 (xU h).symm];rfl
theorem XV (gk:Nat) (d:List UInt8) (l:List BlobP) (w:World) (hk:w.cell? ⟨gk,0,none⟩=some (.string ⟨d.toArray⟩)) (hg:gk<w.heap.size):jZ w l 233 (.pointer (some ⟨gk,0,none⟩)) (fun b=>Op.bytesLess d b.dig):=by
 refine⟨fun _ _=>by kernel_rfl,fun b B cb W hb hbel hs=> ?_⟩;have hg1:gk<W.heap.size:=Nat.lt_of_lt_of_le hg hbel.size;have hk0:W.cell? ⟨gk,0,none⟩=some (.string ⟨d.toArray⟩):=(hbel.cell (p:=⟨gk,0,none⟩) hg).trans hk;generalize hs1:(⟨b.dig.toArray⟩:ByteArray)=s;generalize hs2:(⟨d.toArray⟩:ByteArray)=t at hk0;have hst:Op.bytesLess d b.dig=(!Op.bytesLess s.toList t.toList&& !(s.toList==t.toList)):=by
  rw [←hs1,←hs2,ByteArray.toList_eq,ByteArray.toList_eq];exact z0q _ _
 dsimp only;rw [hst];have hb1:=(Below.refl W.heap.size W).alloc (Nat.le_refl _) (.cells #[.string s,.slice B b.data.length cb,.int .i64 b.pins,.bool b.mark] 63);have hk1:(W.alloc (.cells #[.string s,.slice B b.data.length cb,.int .i64 b.pins,.bool b.mark] 63)).cell? ⟨gk,0,none⟩=some (.string t):=(World.cell?_alloc_lt W _ ⟨gk,0,none⟩ hg1).trans hk0;clear hst hs1 hs2;go_enter Tryz.func233,Tryz.ntmps233;go_wp2_with fail;go_ret;exact⟨rfl,hb1⟩
theorem UL (A:Option Addr) (c:Nat) (l:List BlobP) (d:List UInt8) (w:World) (hl:l.length≤1000000) (hA:Rw BlobS w A l) :
  Calls Tryz.prog 191 #[.slice A l.length c,.string ⟨d.toArray⟩] w fun e w'=>e= .returned (jN (l.findIdx? (fun b=>Op.bytesLess d b.dig)))∧Below w.heap.size w w':=by
 obtain⟨s,hs⟩:∃s:ByteArray,s=⟨d.toArray⟩:=⟨_,rfl⟩
 rw [←hs];have hA1:=Arr.new w 9 [.string s];have hb1:=(Below.refl w.heap.size w).alloc (Nat.le_refl _) (.cells #[.string s] 9);have hA1':Arr (w.alloc (.cells #[.string s] 9)) w.heap.size 9 [.string s]:=hA1;have hk:=hA1'.cell (k:=0) rfl;have HI:=jw A c l _ (.pointer (some ⟨w.heap.size,0,none⟩)) (fun b=>Op.bytesLess d b.dig) (w.alloc (.cells #[.string s] 9)) hl (hA.below hb1) (XV w.heap.size d l _ (by rw [hk,hs]) hA1'.lt);clear hs hA hA1 hA1' hk;cases hf:l.findIdx? (fun b=>Op.bytesLess d b.dig) with
 | none =>
  rw [hf]at HI;have HI:=sqH HI;go_enter Tryz.func191,Tryz.ntmps191;go_wp2_with fail;refine HI.out.mono ?_;rintro e_ w2 ⟨rfl,hb2⟩;dsimp only;have hb12:=hb1.trans (hb2.mono hb1.size);go_wp2_with fail;go_ret2;exact⟨rfl,hb12⟩
 | some i =>
  rw [hf]at HI;have HI:=sqH HI;have hi:decide ((i:Int)<0)=false:=decide_eq_false (by omega);go_enter Tryz.func191,Tryz.ntmps191;go_wp2_with fail;refine HI.out.mono ?_;rintro e_ w2 ⟨rfl,hb2⟩;dsimp only;have hb12:=hb1.trans (hb2.mono hb1.size);go_wp2_with fail;go_ret2;exact⟨rfl,hb12⟩
end Go.Proofs.YtnmlbflhnnmoeaaGreat
