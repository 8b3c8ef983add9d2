/- Lemmas of the proof. Conditions: as stated. -/
import Derived.Test.YtfmnggcfhalfnaaGreatQW06
import Derived.Test.YtfmnggcfhalfnaaGreatQW10
import Derived.Test.YtfmnggcfhalfnaaGreatQW15
set_option linter.unusedVariables false
set_option linter.unusedSimpArgs false
set_option maxRecDepth 100000
namespace Go.Proofs.YtfmnggcfhalfnaaGreat
open Go.RowKit
theorem xG (p:Int) (h0:0≤p) (h5:p≤5) (w:World):Calls Tryz.prog 93 #[.int .i64 p] w fun e w'=>e= .returned (.int .i64 0)∧w=w':=by
 have e0:decide (p<0)=false:=by simpa using h0
 have e1:decide (5<p)=false:=by simpa using h5
 go_enter Tryz.func93,Tryz.ntmps93;go_wp2_with fail;go_ret;exact⟨rfl,rfl⟩
def qN (d l:List UInt8):Nat:=if zJ d≠0 then zJ d else if shaS l≠d then 9 else 0
theorem jg (s:ByteArray) (A:Option Addr) (n c:Nat) (l:List UInt8) (p:Int) (mk:Bool) (w:World) (hp0:0≤p) (hp5:p≤5) (hs:s.size≤140737488351232) (hl:l.length=n) (hn:n≤300) (hc:n≤c) (hr:Rd w 1 A n (bys l)) :
  Calls Tryz.prog 92 #[.agg #[.string s,.slice A n c,.int .i64 p,.bool mk]] w fun e w'=>e= .returned (.int .i64 (qN s.data.toList l))∧Below w.heap.size w w':=by
 have HC:=qG s;generalize hk:zJ s.data.toList=k at HC;have HL:=sqH hl;have HK:=sqH hk;have HSZ:=sqH hs;obtain⟨D,hD⟩:∃D:ByteArray,D=⟨(shaS l).toArray⟩:=⟨_,rfl⟩
 have HS:=sqH (fun w' hr'=>hD▸jO A n c l w' hl (by omega) hc hr');have HD:=sqH hD;obtain⟨w1,hw1⟩:∃w1,w1=w.alloc (.cells #[.string s,.slice A n c,.int .i64 p,.bool mk] 32):=⟨_,rfl⟩
 have hb1:Below w.heap.size w w1:=by rw [hw1];exact(Below.refl _ _).alloc (Nat.le_refl _) _
 have hs1:=hb1.size;have hA1:Arr w1 w.heap.size 32 [.string s,.slice A n c,.int .i64 p,.bool mk]:=by rw [hw1];exact Arr.new w _ _
 have hr1:Rd w1 1 A n (bys l):=by rw [hw1];exact hr.alloc _
 clear hl hk hD hs hr;go_enter Tryz.func92,Tryz.ntmps92;go_wp2_with fail;rw [←hw1];obtain⟨g,hg⟩:∃g,g=w.heap.size:=⟨_,rfl⟩
 rw [←hg]at hA1 ⊢
 clear hw1 hg;refine(HC _ HSZ.out).mono ?_;rintro e_ w2 ⟨rfl,hb2⟩;dsimp only;have hb12:=hb1.trans (hb2.mono hs1);have hA2:=hA1.below hb2;obtain⟨f0,f1⟩:=sqC2 hA2;by_cases k0:k=0
 ·have e0:((k:Int) != 0)=false:=by rw [bne_eq_false_iff_eq];omega
  have e1:decide ((300:Int)<(n:Int))=false:=by simp;omega
  have HK0:=sqH k0;clear k0;go_wp2_with fail;refine(HS.out w2 (hr1.below hb2)).mono ?_;rintro e_ w3 ⟨rfl,hb3⟩;dsimp only;have hA3:=hA2.below hb3;have hb13:=hb12.trans (hb3.mono hb12.size);have g0:=hA3.cell (k:=0) rfl;have g2:=hA3.cell (k:=2) rfl;clear f0 f1;by_cases he:D=s
  ·have hfin:qN s.data.toList l=0:=by
    have:shaS l=s.data.toList:=by rw [←he,HD.out]
    rw [qN,HK.out,if_neg (by simp [HK0.out]),if_neg (by simp [this])]
   have HF:=sqH hfin;have h1:(D.toList==s.toList)=true:=by simp [he]
   clear hfin he;go_wp2_with fail;refine(xG p hp0 hp5 _).mono ?_;rintro e_ _ ⟨rfl,rfl⟩;dsimp only;go_wp2_with fail;go_ret;exact⟨by rw [HF.out];rfl,hb13⟩
  ·have hfin:qN s.data.toList l=9:=by
    have:shaS l≠s.data.toList:=fun h=>he (by rw [HD.out,h]);rw [qN,HK.out,if_neg (by simp [HK0.out]),if_pos this]
   have HF:=sqH hfin;have h1:(D.toList==s.toList)=false:=by
    rw [beq_eq_false_iff_ne,ByteArray.toList_eq,ByteArray.toList_eq];intro h;apply he;cases D;cases s;simp only [ByteArray.mk.injEq];exact Array.toList_inj.1 h
   clear hfin he;go_wp2_with fail;go_ret;exact⟨by rw [HF.out];rfl,hb13⟩
 ·have e0:((k:Int) != 0)=true:=by rw [bne_iff_ne];omega
  have hfin:qN s.data.toList l=k:=by rw [qN,HK.out,if_pos k0]
  have HF:=sqH hfin;clear k0 hfin;go_wp2_with fail;go_ret;exact⟨by rw [HF.out];rfl,hb12⟩
end Go.Proofs.YtfmnggcfhalfnaaGreat
