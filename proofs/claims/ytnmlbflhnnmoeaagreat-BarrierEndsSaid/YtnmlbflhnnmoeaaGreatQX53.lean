/- Lemmas of the proof. Conditions: as stated. -/
import Derived.Test.YtnmlbflhnnmoeaaGreatQX37
import Derived.Test.YtnmlbflhnnmoeaaGreatQX39
set_option linter.unusedVariables false
set_option linter.unusedSimpArgs false
set_option maxRecDepth 100000
namespace Go.Proofs.YtnmlbflhnnmoeaaGreat
open Go.RowKit
structure Fits (s:StoP) (D:List UInt8):Prop where
 g:GoodS s
 d:D.length≤300
 l:s.blobs.length<24∨(s.blobs.findIdx? (fun b=>b.dig==shaS D)).isSome=true
 u:usd (putB s.blobs D)≤s.room
theorem Fits.good {s:StoP} {D:List UInt8} (h:Fits s D):GoodS (zx s D):=by
 rcases h.l with h1 | h1
 ·exact Kl h.g h.d h1 h.u
 ·obtain⟨i,hi⟩:=Option.isSome_iff_exists.1 h1;have:zx s D=s:=by unfold zx putB;rw [hi]
  rw [this];exact h.g
theorem Zq (A:Option Addr) (c:Nat) (B:Option Addr) (d:Nat) (s:StoP) (D:List UInt8) (DA:Option Addr) (dc:Nat) (w:World) (hf:Fits s D) (hr:RdSt w A c B d s) (hD:Sl w 1 DA D.length dc (bys D)) :
  Calls Tryz.prog 36 #[.agg #[.slice A s.blobs.length c,.slice B s.ents.length d,.int .i64 s.room,.int .i64 s.clock],.slice DA D.length dc] w fun e w' =>
   ∃A' c' B' d',e= .returned (.tuple #[.agg #[.slice A' (zx s D).blobs.length c',.slice B' (zx s D).ents.length d',.int .i64 s.room,.int .i64 s.clock],.string ⟨(shaS D).toArray⟩,.int .i64 0])∧OwSt w' w.heap.size (.slice A' (zx s D).blobs.length c') (.slice B' (zx s D).ents.length d') (zx s D) (fun b=>b<w.heap.size)∧Below w.heap.size w w' :=
 (QZ A c B d s D DA dc w hf.g hr hf.d hf.l hf.u hD).mono fun e w' ⟨v1,v2,h1,h2,h3⟩=>by
  obtain⟨A',c',B',d',e1,e2,_⟩:=h2.rows
  subst e1 e2
  exact⟨A',c',B',d',h1,h2,h3⟩
theorem KS (l:List RawP):(sto l).clock≤24:=(Q9 l).clock
theorem U6 (A:Option Addr) (c:Nat) (B:Option Addr) (d:Nat) (s x:StoP) (key:List UInt8) (ps:List PartP) (PA:Option Addr) (pc:Nat) (w:World) (hg:GoodS s) (hr:RdSt w A c B d s) (hk:hexC key=0) (hpz:chk ps=0) (hhv:qQ s.blobs ps=0) (hclk:s.clock<1099511627776) (hlen:s.ents.length<10) (hP:Sl w 3 PA ps.length pc (pcs ps)) (hx:x=xd s key ps) :
  Calls Tryz.prog 38 #[.agg #[.slice A s.blobs.length c,.slice B s.ents.length d,.int .i64 s.room,.int .i64 s.clock],.string ⟨key.toArray⟩,.slice PA ps.length pc] w fun e w' =>
   ∃A' c' B' d',e= .returned (.tuple #[.agg #[.slice A' x.blobs.length c',.slice B' x.ents.length d',.int .i64 x.room,.int .i64 x.clock],.int .i64 0])∧OwSt w' w.heap.size (.slice A' x.blobs.length c') (.slice B' x.ents.length d') x (fun b=>b<w.heap.size)∧Below w.heap.size w w':=by
 subst hx;refine(JA A c B d s key ps PA pc w hg hr hk hpz hhv hclk hlen hP).mono fun e w' ⟨v1,v2,h1,h2,h3⟩=> ?_;obtain⟨A',c',B',d',e1,e2,_⟩:=h2.rows;subst e1 e2;exact⟨A',c',B',d',h1,h2,h3⟩
end Go.Proofs.YtnmlbflhnnmoeaaGreat
