/- Lemmas of the proof. Conditions: as stated. -/
import Derived.Test.YtfmnggcfhalfnaaGreatQW07
import Derived.Lib.AppendStr
set_option linter.unusedVariables false
set_option linter.unusedSimpArgs false
set_option maxRecDepth 20000
namespace Go.Proofs.YtfmnggcfhalfnaaGreat
open Go.RowKit
theorem OwnB.lower {e:TypeId} {base b':Nat} {w:World} {A:Option Addr} {c:Nat} {l:List UInt8} (h:OwnB e base w A c l) (hb:b'≤base):OwnB e b' w A c l:=⟨zu h.own hb,h.cap⟩
def txt (l:List UInt8):List UInt8:=num l.length++l
theorem ZA (l:List UInt8) (h:l.length≤2000):l.length+1≤(txt l).length∧(txt l).length≤l.length+2:=by
 have:=uG l.length 1 (by omega);simp only [txt,List.length_append];omega
theorem vd:∀n,n<16→val (dig n)=n:=by
 have key:∀n:Fin 16,val (dig n.val)=(n.val:Int):=by decide +kernel
 exact fun n h=>key ⟨n,h⟩
theorem y9:∀l:List UInt8,qB (qU l)=some l
 | []=>rfl
 | x::l=>by
  have hx:=x.toNat_lt
  have h1:=vd (x.toNat / 16) (by omega)
  have h2:=vd (x.toNat % 16) (by omega)
  show qB (dig (x.toNat / 16)::dig (x.toNat % 16)::qU l)=_
  rw [qB,if_neg (by omega),y9 l,h1,h2]
  simp only [Option.map_some,Option.some.injEq,List.cons.injEq,and_true,Int.toNat_natCast]
  rw [Nat.div_add_mod];exact UInt8.ofNat_toNat
theorem vD (l:List UInt8) (h:l.length≤2000):kf (qU l)=(l,0):=by
 have:=qJ l;rw [kf,if_neg (by omega),if_neg (by omega),y9]
theorem uA (l:List UInt8):zJ (qU l)=if l.length=32 then 0 else 1:=by
 have:=qJ l;unfold zJ;by_cases h:l.length=32
 ·rw [if_neg (by omega),vD l (by omega),if_pos h]
 ·rw [if_pos (by omega),if_neg h]
theorem qI (l:List UInt8):zJ (shaS l)=0:=by
 have:=x9 l;rw [shaS,uA,if_pos (by rw [yB,this])]
end Go.Proofs.YtfmnggcfhalfnaaGreat
