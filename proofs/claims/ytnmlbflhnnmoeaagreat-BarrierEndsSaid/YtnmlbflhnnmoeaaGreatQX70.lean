/- Lemmas of the proof. Conditions: as stated. -/
import Derived.Test.YtnmlbflhnnmoeaaGreatQX46
import Derived.Test.YtnmlbflhnnmoeaaGreatQX47
import Derived.Test.YtnmlbflhnnmoeaaGreatQX54
set_option linter.unusedVariables false
set_option linter.unusedSimpArgs false
namespace Go.Proofs.YtnmlbflhnnmoeaaGreat
open Go.RowKit Go.Maps
theorem V7 {s:StoP} {c:ColP} (hg:GoodS s) (hc:GoodC s c) {x:StoP} (hx:(yn s c).1=x) :
  GoodS x∧x.ents=s.ents∧x.room=s.room∧x.clock=s.clock∧Rch x.blobs (rts x)=Rch s.blobs (rts s)∧∃m,(yn (qy x) (k9 x)).1= { x with blobs:=m }∧GoodS { x with blobs:=m }∧Rch m (rts { x with blobs:=m })=Rch x.blobs (rts x)∧∀L,StrL L (Rch x.blobs (rts x))→m.length=L.length:=by
 have h1:=Q4 (qZ 8 s c) s c hg hc (Nat.le_refl _);rw [hx]at h1;obtain⟨g1,r1,e1,e2,e3⟩:=h1;refine⟨g1,e1,e2,e3,r1,?_⟩;obtain⟨m,hm,hgm,hrm⟩:=Jb g1 (Qb g1.b.ris (rts x));have hrt:rts { x with blobs:=m }=rts (cln x):=yD (s:=cln x) hm;refine⟨m,by rw [hrm],hgm,?_,fun L hL=> ?_⟩
 ·funext y
  refine propext ?_;rw [hrt,uh hm];exact XL g1.b.ris y
 ·rw [←hm.len,←List.length_map (f:=fun b:BlobP=>b.dig)];refine(hL.len ?_ ?_).symm
  ·exact(ke g1.b.ris).map.nodup
  ·intro y;rw [List.mem_map];constructor
   ·rintro⟨b,hb,rfl⟩;exact(vW.1 hb).2
   ·intro h;obtain⟨b,hb,e⟩:=Zo h;exact⟨b,hb,e⟩
end Go.Proofs.YtnmlbflhnnmoeaaGreat

namespace Go.Proofs.YtnmlbflhnnmoeaaGreat
open Go
section
variable {P:Program} {ops:Array Oper} {c d e f h:Code} {b:Bool} {a:Act} {w:World} {Q:Exit→Act→World→Prop}
theorem XG (i:Nat) (z:Code.wp P (.region i ops b) Q a w):Code.wp P (.region i ops b) Q a w:=z
theorem Ye (i:Nat) (z:Code.wp P (.seq (.region i ops b) c) Q a w):Code.wp P (.seq (.region i ops b) c) Q a w:=z
theorem YW (i:Nat) (z:Code.wp P (.seq (.seq (.region i ops b) c) d) Q a w):Code.wp P (.seq (.seq (.region i ops b) c) d) Q a w:=z
theorem Xt (i:Nat) (z:Code.wp P (.seq (.seq (.seq (.region i ops b) c) d) e) Q a w):Code.wp P (.seq (.seq (.seq (.region i ops b) c) d) e) Q a w:=z
theorem Yl (i:Nat) (z:Code.wp P (.seq (.seq (.seq (.seq (.region i ops b) c) d) e) f) Q a w):Code.wp P (.seq (.seq (.seq (.seq (.region i ops b) c) d) e) f) Q a w:=z
theorem Yf (i:Nat) (z:Code.wp P (.seq (.seq (.seq (.seq (.seq (.region i ops b) c) d) e) f) h) Q a w):Code.wp P (.seq (.seq (.seq (.seq (.seq (.region i ops b) c) d) e) f) h) Q a w:=z
end
end Go.Proofs.YtnmlbflhnnmoeaaGreat
