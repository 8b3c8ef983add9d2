/- Lemmas of the proof. Conditions: as stated. -/
import Derived.Test.YtdbbehfbkiiloaaGreatDoorQS26
import Derived.Test.YtdbbehfbkiiloaaGreatDoorQS27
set_option linter.unusedVariables false
set_option linter.unusedSimpArgs false
set_option maxRecDepth 100000
set_option maxHeartbeats 4000000
namespace Go.Proofs.YtdbbehfbkiiloaaGreatDoor
open Go.RowKit Go.Maps
abbrev stZ:StoP:=⟨[], [],0,0⟩
abbrev coZ:ColP:=⟨0, [], []⟩
abbrev loZ:LoP:=⟨stZ,coZ, []⟩
def uF (fs:List FlP) (key:List UInt8):List FlP×List Int×Nat :=
 match fnd 0 fs key with
 | none=>([], [],5)
 | some i=>match fs[i]? with
  | none=>([], [],0)
  | some p=>(fs.eraseIdx i,p.lead::p.wait,0)
noncomputable def kS (s:StoP) (c:ColP) (key:List UInt8) (ps:List PartP):StoP×ColP×Nat :=
 if zM s.blobs ps=0 then ((zL (xD s key ps) c (ps.map (·.dig))).1,(zL (xD s key ps) c (ps.map (·.dig))).2,0) else (stZ,coZ,zM s.blobs ps)
noncomputable def K6 (l:LoP) (key:List UInt8) (ps:List PartP):LoP×List Int×Nat :=
 if (uF l.fs key).2.2=0 then
  if (kS l.st l.co key ps).2.2=0 then (⟨(kS l.st l.co key ps).1,(kS l.st l.co key ps).2.1,(uF l.fs key).1⟩,(uF l.fs key).2.1,0) else (loZ, [],(kS l.st l.co key ps).2.2)
 else (loZ, [],(uF l.fs key).2.2)
def Ke (l:LoP) (key:List UInt8):LoP×List Int×Nat :=
 if (uF l.fs key).2.2=0 then ({ l with fs:=(uF l.fs key).1 },(uF l.fs key).2.1,0) else (loZ, [],(uF l.fs key).2.2)
noncomputable def Ye (l:LoP) (key:List UInt8) (ps:List PartP):LoP×Nat :=
 if (fnd 0 l.fs key).isSome then (loZ,10)
 else if (kS l.st l.co key ps).2.2=0 then (⟨(kS l.st l.co key ps).1,(kS l.st l.co key ps).2.1,l.fs⟩,0) else (loZ,(kS l.st l.co key ps).2.2)
theorem vR {es:List EntP} {k:List UInt8}:es.findIdx? (fun x=>x.key==k)=none↔∀x∈es,x.key≠k:=by
 rw [List.findIdx?_eq_none_iff];simp
theorem GoodL.apart {l:LoP} (h:GoodL l):∀p∈l.fs,∀x∈l.st.ents,x.key≠p.key:=fun p hp=>by
 obtain⟨j,hj,rfl⟩:=List.getElem_of_mem hp
 exact vR.1 (h.no j hj)
theorem GoodL.of {l:LoP} (hs:GoodS l.st) (hc:GoodC l.st l.co) (hg:l.co.grey.length≤1000) (hf:GoodF l.fs) (hn:∀p∈l.fs,∀x∈l.st.ents,x.key≠p.key):GoodL l :=
 ⟨hs,hc,hg,hf,fun j hj=>vR.2 (hn _ (List.getElem_mem hj))⟩
structure LInv (m:Nat) (l:LoP):Prop where
 b:Bsy m l.st l.co
 f:GoodF l.fs
 ap:∀p∈l.fs,∀x∈l.st.ents,x.key≠p.key
 k7:∀p∈l.fs,∃j,j<7∧p.key=keyS j
theorem LInv.good {m:Nat} {l:LoP} (h:LInv m l) (hm:m≤78):GoodL l:= .of h.b.g h.b.gc (by have:=h.b.gr;omega) h.f h.ap
theorem LInv.up {m n:Nat} {l:LoP} (h:LInv m l) (hn:m≤n):LInv n l:=⟨h.b.up hn,h.f,h.ap,h.k7⟩
theorem xl {fs:List FlP} {key:List UInt8} (h:GoodF fs) (h0:(uF fs key).2.2=0) :
  GoodF (uF fs key).1∧(∀p∈(uF fs key).1,p∈fs∧p.key≠key)∧∃i,∃hi:i<fs.length,fs[i].key=key∧uF fs key=(fs.eraseIdx i,fs[i].lead::fs[i].wait,0):=by
 unfold uF at h0 ⊢
 cases hf:fnd 0 fs key with
 | none=>rw [hf]at h0;cases h0
 | some i =>
  obtain⟨hi,hik⟩:=kr hf;simp only [List.getElem?_eq_getElem hi];refine⟨h.erase i,fun p hp=>⟨List.mem_of_mem_eraseIdx hp,fun e=> ?_⟩,i,hi,hik,rfl⟩;have:=kV h.nodup hi;rw [hik]at this;exact(zw _ _ _).1 this p hp e
theorem LInv.done {m:Nat} {l:LoP} {key:List UInt8} {ps:List PartP} (h:LInv m l) (hm:m≤78) (hk:∃j,j<7∧key=keyS j) (hp:chk ps=0) (h0:(K6 l key ps).2.2=0):LInv (m+1) (K6 l key ps).1:=by
 unfold K6 at h0 ⊢
 split at h0
 ·rename_i he;rw [if_pos he];obtain⟨a1,a2,_⟩:=xl h.f he;split at h0
  ·rename_i hb;rw [if_pos hb];unfold kS at hb ⊢
   by_cases hh:zM l.st.blobs ps=0
   ·rw [if_pos hh];refine⟨h.b.pute hk hp hh (by have:=h.b.ck;omega),a1,fun p hp x hx=> ?_,fun p hp=>h.k7 p (a2 p hp).1⟩;dsimp only at hx;rw [qt]at hx;rcases yM (show x∈Zy l.st.ents _ from hx) with h3 | ⟨h3,_⟩
    ·exact h.ap p (a2 p hp).1 x h3
    ·rw [h3];exact fun e=>(a2 p hp).2 e.symm
   ·rw [if_neg hh]at hb;exact absurd hb hh
  ·rename_i hb;exact absurd h0 hb
 ·rename_i he;exact absurd h0 he
theorem LInv.fail {m:Nat} {l:LoP} {key:List UInt8} (h:LInv m l) (h0:(Ke l key).2.2=0):LInv (m+1) (Ke l key).1:=by
 unfold Ke at h0 ⊢
 split at h0
 ·rename_i he;rw [if_pos he];obtain⟨a1,a2,_⟩:=xl h.f he;exact⟨h.b.up (Nat.le_succ _),a1,fun p hp=>h.ap p (a2 p hp).1,fun p hp=>h.k7 p (a2 p hp).1⟩
 ·rename_i he;exact absurd h0 he
theorem LInv.put {m:Nat} {l:LoP} {key:List UInt8} {ps:List PartP} (h:LInv m l) (hm:m≤78) (hk:∃j,j<7∧key=keyS j) (hp:chk ps=0) (h0:(Ye l key ps).2=0):LInv (m+1) (Ye l key ps).1:=by
 unfold Ye at h0 ⊢
 split at h0
 ·cases h0
 ·rename_i he;rw [if_neg he];split at h0
  ·rename_i hb;rw [if_pos hb];unfold kS at hb ⊢
   by_cases hh:zM l.st.blobs ps=0
   ·rw [if_pos hh];refine⟨h.b.pute hk hp hh (by have:=h.b.ck;omega),h.f,fun p hp x hx=> ?_,h.k7⟩;dsimp only at hx;rw [qt]at hx;rcases yM (show x∈Zy l.st.ents _ from hx) with h3 | ⟨h3,_⟩
    ·exact h.ap p hp x h3
    ·rw [h3];intro e;have hn:fnd 0 l.fs key=none:=by
      cases hf:fnd 0 l.fs key with
      | none=>rfl
      | some i=>rw [hf]at he;exact absurd rfl he
     exact(zw _ _ _).1 hn p hp e.symm
   ·rw [if_neg hh]at hb;exact absurd hb hh
  ·rename_i hb;exact absurd h0 hb
abbrev uQ (w:World) (g:Nat) (u0 u1 u2 u3 u4 u5 u6 u7:Value):World:=(((((((w.setCell ⟨g,0,none⟩ u0).setCell ⟨g,1,none⟩ u1).setCell ⟨g,2,none⟩ u2).setCell ⟨g,3,none⟩ u3).setCell ⟨g,4,none⟩ u4).setCell ⟨g,5,none⟩ u5).setCell ⟨g,6,none⟩ u6).setCell ⟨g,7,none⟩ u7
section
variable {w:World} {g base:Nat}
theorem Arr.all8 {e:TypeId} {x0 x1 x2 x3 x4 x5 x6 x7:Value} (h:Arr w g e [x0,x1,x2,x3,x4,x5,x6,x7]) (u0 u1 u2 u3 u4 u5 u6 u7:Value):Arr (uQ w g u0 u1 u2 u3 u4 u5 u6 u7) g e [u0,u1,u2,u3,u4,u5,u6,u7] :=
 (((((((h.set (k:=0) (by simp) u0).set (k:=1) (by simp) u1).set (k:=2) (by simp) u2).set (k:=3) (by simp) u3).set (k:=4) (by simp) u4).set (k:=5) (by simp) u5).set (k:=6) (by simp) u6).set (k:=7) (by simp) u7
theorem yK {n size:Nat} {t:TypeId} {v:Value} {ys:List Value} (ho:w.ownsRow base t size v n ys) (h1:v.ownBlock≠some g) (u0 u1 u2 u3 u4 u5 u6 u7:Value):(uQ w g u0 u1 u2 u3 u4 u5 u6 u7).ownsRow base t size v n ys :=
 zb (zb (zb (zb (zb (zb (zb (zb ho h1) h1) h1) h1) h1) h1) h1) h1
theorem FlsO.set8 {v:Value} {fs:List FlP} {e:TypeId} {xs:List Value} (h:FlsO w base v fs) (hA:Arr w g e xs) (h1:46≠e) (h2:3≠e) (u0 u1 u2 u3 u4 u5 u6 u7:Value):FlsO (uQ w g u0 u1 u2 u3 u4 u5 u6 u7) base v fs:=by
 obtain⟨As,hl,ho,hr,hd⟩:=h;exact⟨As,hl,yK ho (zx ho hA h1) _ _ _ _ _ _ _ _,fun k p a hp ha=>⟨yK (hr k p a hp ha).1 (zx (hr k p a hp ha).1 hA h2) _ _ _ _ _ _ _ _,(hr k p a hp ha).2⟩,hd⟩
theorem OwSt.set8N {v1 v2:Value} {s:StoP} {N:Nat→Prop} (ho:OwSt w base v1 v2 s N) (hg:N g) (h1:v1.ownBlock≠some g) (h2:v2.ownBlock≠some g) (u0 u1 u2 u3 u4 u5 u6 u7:Value):OwSt (uQ w g u0 u1 u2 u3 u4 u5 u6 u7) base v1 v2 s N :=
 (((((((ho.setX hg h1 h2 u0).setX hg h1 h2 u1).setX hg h1 h2 u2).setX hg h1 h2 u3).setX hg h1 h2 u4).setX hg h1 h2 u5).setX hg h1 h2 u6).setX hg h1 h2 u7
end
structure OwLo (w:World) (base:Nat) (v1 v2 v3 v4:Value) (l:LoP) (N:Nat→Prop):Prop where
 s:OwSt w base v1 v2 l.st N
 c:w.ownsRow base 9 1 v3 l.co.grey.length (strs l.co.grey)
 f:FlsO w base v4 l.fs
theorem OwLo.below {w w':World} {base:Nat} {v1 v2 v3 v4:Value} {l:LoP} {N:Nat→Prop} (h:OwLo w base v1 v2 v3 v4 l N) (hb:Below w.heap.size w w'):OwLo w' base v1 v2 v3 v4 l N:=⟨h.s.below hb,z6 h.c hb,h.f.below hb⟩
theorem OwLo.rd {w:World} {base:Nat} {v1 v2 v3 v4:Value} {l:LoP} {N:Nat→Prop} (h:OwLo w base v1 v2 v3 v4 l N):∃p:LoW,v1= .slice p.X l.st.blobs.length p.cX∧v2= .slice p.Y l.st.ents.length p.dY∧v3= .slice p.G l.co.grey.length p.ng∧v4= .slice p.F l.fs.length p.cF∧RdLo w p l:=by
 obtain⟨X,cX,Y,dY,e1,e2,h3⟩:=h.s.rows;obtain⟨G,ng,e3,h4⟩:=RdC.of_own (c:=l.co) h.c;obtain⟨F,cF,e4,h5,h6⟩:=h.f.fls;obtain⟨As,_,hro,_⟩:=h.f;have h7:cF≤maxLen:=by
  rw [e4]at hro;rcases hro.2 with ⟨h1,h2⟩ | ⟨_,cap,_,h1,_,_,h2,h3,_⟩
  ·injection h1 with _ _ h3;subst h3;simp [maxLen]
  ·injection h1 with _ _ h4;subst h4;exact h3
 exact⟨⟨X,cX,Y,dY,G,ng,F,cF⟩,e1,e2,e3,e4,⟨h3,h4,h6,h5,h7⟩⟩
section
variable {w:World} {g base:Nat} {v1 v2 v3 v4:Value} {l:LoP} {N N':Nat→Prop}
theorem OwLo.mono (h:OwLo w base v1 v2 v3 v4 l N) (hN:∀b,N' b→N b):OwLo w base v1 v2 v3 v4 l N':=⟨h.s.mono hN,h.c,h.f⟩
theorem OwLo.wider (h:OwLo w base v1 v2 v3 v4 l N) (hN:∀b,N' b→N b∨w.heap.size≤b):OwLo w base v1 v2 v3 v4 l N':=⟨h.s.wider hN,h.c,h.f⟩
theorem OwLo.lower {b':Nat} (h:OwLo w base v1 v2 v3 v4 l N) (hb:b'≤base):OwLo w b' v1 v2 v3 v4 l N:=⟨h.s.lower hb,zg h.c hb,h.f.lower hb⟩
theorem OwLo.set8 {xs:List Value} (h:OwLo w base v1 v2 v3 v4 l N) (hA:Arr w g 32 xs) (hN:N g) (u0 u1 u2 u3 u4 u5 u6 u7:Value):OwLo (uQ w g u0 u1 u2 u3 u4 u5 u6 u7) base v1 v2 v3 v4 l N :=
 ⟨h.s.set8N hN (h.s.nb hA (by decide) (by decide)).1 (h.s.nb hA (by decide) (by decide)).2 _ _ _ _ _ _ _ _,yK h.c (zx h.c hA (by decide)) _ _ _ _ _ _ _ _,h.f.set8 hA (by decide) (by decide) _ _ _ _ _ _ _ _⟩
theorem FlsO.set1 {k:Nat} {v:Value} {fs:List FlP} {e:TypeId} {xs:List Value} (h:FlsO w base v fs) (hA:Arr w g e xs) (h1:46≠e) (h2:3≠e) (u:Value):FlsO (w.setCell ⟨g,k,none⟩ u) base v fs:=by
 obtain⟨As,hl,ho,hr,hd⟩:=h;exact⟨As,hl,zb ho (zx ho hA h1),fun k p a hp ha=>⟨zb (hr k p a hp ha).1 (zx (hr k p a hp ha).1 hA h2),(hr k p a hp ha).2⟩,hd⟩
theorem OwLo.set1 {k:Nat} {xs:List Value} (h:OwLo w base v1 v2 v3 v4 l N) (hA:Arr w g 32 xs) (hN:N g) (u:Value):OwLo (w.setCell ⟨g,k,none⟩ u) base v1 v2 v3 v4 l N:=by
 refine⟨h.s.setX hN (h.s.nb hA (by decide) (by decide)).1 (h.s.nb hA (by decide) (by decide)).2 _,zb h.c (zx h.c hA (by decide)),h.f.set1 hA (by decide) (by decide) u⟩
theorem OwLo.set4 {x0 x1 x2 x3 x4 x5 x6 x7:Value} (h:OwLo w base v1 v2 v3 v4 l N) (hA:Arr w g 32 [x0,x1,x2,x3,x4,x5,x6,x7]) (hN:N g) (u0 u1 u2 u3:Value):OwLo (Yv w g u0 u1 u2 u3) base v1 v2 v3 v4 l N :=
 (((h.set1 hA hN u0).set1 (hA.set (k:=0) (by simp) u0) hN u1).set1 ((hA.set (k:=0) (by simp) u0).set (k:=1) (by simp) u1) hN u2).set1 (((hA.set (k:=0) (by simp) u0).set (k:=1) (by simp) u1).set (k:=2) (by simp) u2) hN u3
theorem uA {B:Nat} {w0:World} (hb:Below B w0 w) (hg:B≤g) (u0 u1 u2 u3 u4 u5 u6 u7:Value):Below B w0 (uQ w g u0 u1 u2 u3 u4 u5 u6 u7):=Below.setCell (Below.setCell (Below.setCell (Below.setCell (Below.setCell (Below.setCell (Below.setCell (Below.setCell hb hg u0) hg u1) hg u2) hg u3) hg u4) hg u5) hg u6) hg u7
theorem OwLo.nil_:OwLo w base (.slice none 0 0) (.slice none 0 0) (.slice none 0 0) (.slice none 0 0) loZ N :=
 ⟨⟨RwX.nil_ (World.ownsRow_nil _ _ _ _),RwX.nil_ (World.ownsRow_nil _ _ _ _),fun g h=>by cases h⟩,World.ownsRow_nil _ _ _ _,FlsO.nil_ _ _ _ (World.ownsRow_nil _ _ _ _)⟩
end
theorem Y5 {w:World} {g b:Nat} (h:b≠g) (u0 u1 u2 u3 u4 u5 u6 u7:Value):(uQ w g u0 u1 u2 u3 u4 u5 u6 u7).heap[b]?=w.heap[b]?:=by
 unfold uQ;rw [Below.heap_setCell _ _ _ _ h,Below.heap_setCell _ _ _ _ h,Below.heap_setCell _ _ _ _ h,Below.heap_setCell _ _ _ _ h,Below.heap_setCell _ _ _ _ h,Below.heap_setCell _ _ _ _ h,Below.heap_setCell _ _ _ _ h,Below.heap_setCell _ _ _ _ h]
def QU (v:Value):Prop:=v= .slice none 0 0∨v= .int .i64 0∨v= .string ⟨#[]⟩
theorem Rd.off8 {w:World} {g size n:Nat} {A:Option Addr} {xs zs:List Value} {e:TypeId} (h:Rd w size A n xs) (hA:Arr w g e zs) (hz:∀v∈zs,QU v) (h0:∀v,xs[0]?=some v→¬QU v) (hs:0<size) (u0 u1 u2 u3 u4 u5 u6 u7:Value):Rd (uQ w g u0 u1 u2 u3 u4 u5 u6 u7) size A n xs:=by
 refine⟨h.1,fun hn=> ?_⟩;obtain⟨b,off,e1,hb,hc⟩:=h.2 hn;have hne:b≠g:=fun e2=>by
  subst e2;have hx:0<xs.length:=by rw [h.1];exact Nat.mul_pos hn hs
  have h1:=hc 0 xs[0] (List.getElem?_eq_getElem hx);have h':w.heap[b]?=_:=hA;have h2:zs[off]?=some xs[0]:=by simpa [World.cell?,h'] using h1
  exact h0 _ (List.getElem?_eq_getElem hx) (hz _ (List.mem_of_getElem? h2))
 refine⟨b,off,e1,Nat.lt_of_lt_of_le hb (by simp),fun j u hu=> ?_⟩;have h1:=hc j u hu;have h2:=Y5 (w:=w) hne u0 u1 u2 u3 u4 u5 u6 u7;generalize uQ w g u0 u1 u2 u3 u4 u5 u6 u7=W at *
 unfold World.cell? at h1 ⊢
 rw [h2];exact h1
theorem Sl.off8 {w:World} {g size n c:Nat} {A:Option Addr} {xs zs:List Value} {e:TypeId} (h:Sl w size A n c xs) (hA:Arr w g e zs) (hz:∀v∈zs,QU v) (h0:∀v,xs[0]?=some v→¬QU v) (hs:0<size) (u0 u1 u2 u3 u4 u5 u6 u7:Value):Sl (uQ w g u0 u1 u2 u3 u4 u5 u6 u7) size A n c xs :=
 ⟨h.rd.off8 hA hz h0 hs _ _ _ _ _ _ _ _,h.cap,h.max,fun a ha=>Nat.lt_of_lt_of_le (h.live a ha) (by simp)⟩
theorem vc {l:List UInt8} (h:l≠ []):¬QU (.string ⟨l.toArray⟩):=by
 rintro(e | e | e)
 ·cases e
 ·cases e
 ·injection e with e;injection e with e;exact h (by have:=congrArg Array.toList e;simpa using this)
theorem Kk {n:List UInt8} (h:zy n=0):n≠ []:=by rintro rfl;revert h;decide
theorem RdSt.off8 {w:World} {g cX dY:Nat} {X Y:Option Addr} {s:StoP} {zs:List Value} {e:TypeId} (h:RdSt w X cX Y dY s) (hg:GoodS s) (hA:Arr w g e zs) (hz:∀v∈zs,QU v) (u0 u1 u2 u3 u4 u5 u6 u7:Value):RdSt (uQ w g u0 u1 u2 u3 u4 u5 u6 u7) X cX Y dY s:=by
 refine⟨?_,?_,h.bc,h.bm,h.ec,h.em⟩
 ·obtain⟨ps,h1,h2,h3⟩:=h.b;refine⟨ps,h1,fun p hp=> ?_,h3.off8 hA hz (fun v hv=> ?_) (by decide) _ _ _ _ _ _ _ _⟩
  ·obtain⟨A,c,e1,hs⟩:=h2 p hp;refine⟨A,c,e1,hs.off8 hA hz (fun v hv=> ?_) (by decide) _ _ _ _ _ _ _ _⟩;cases hd:p.1.data with
   | nil=>rw [hd]at hv;cases hv
   | cons x r=>rw [hd]at hv;cases hv;rintro(e | e | e)<;>cases e
  ·cases ps with
   | nil=>cases hv
   | cons p ps =>
    obtain⟨A,c,e1,hs⟩:=h2 p (by simp);rw [zm,e1]at hv;cases hv
    have hm:p.1∈s.blobs:=by rw [←h1];simp
    exact vc (jM hg p.1 hm)
 ·obtain⟨ps,h1,h2,h3⟩:=h.e;refine⟨ps,h1,fun p hp=> ?_,h3.off8 hA hz (fun v hv=> ?_) (by decide) _ _ _ _ _ _ _ _⟩
  ·obtain⟨A,c,e1,hs⟩:=h2 p hp;refine⟨A,c,e1,hs.off8 hA hz (fun v hv=> ?_) (by decide) _ _ _ _ _ _ _ _⟩;have hm:p.1∈s.ents:=by rw [←h1];exact List.mem_map.2 ⟨p,hp,rfl⟩
   have hcz:=(zC (hg.e.one p.1 hm).2.1).2;cases hd:p.1.parts with
   | nil=>rw [hd]at hv;cases hv
   | cons x r =>
    rw [hd]at hv hcz;cases hv
    exact vc (Kk (hcz x (by simp)).1)
  ·cases ps with
   | nil=>cases hv
   | cons p ps =>
    obtain⟨A,c,e1,hs⟩:=h2 p (by simp);rw [zm,e1]at hv;cases hv
    have hm:p.1∈s.ents:=by rw [←h1];simp
    have hk:=(hg.e.one p.1 hm).1;exact vc (fun e=>by rw [e]at hk;revert hk;decide)
def lof (l:List RawP):LoP:=⟨sto l,coZ, []⟩
theorem Q2 (l:List RawP):GoodL (lof l):= .of (uf l) (KM _) (by show(0:Nat)≤1000;omega) GoodF.nil_ (fun p hp=>by cases hp)
theorem Kf (w:World):Fls w none []:=⟨[],rfl,Rd.nil_,fun k p a hp=>by simp at hp⟩
theorem QS (A:Option Addr) (n c:Nat) (l:List RawP) (w:World) (hl:l.length=n) (hc:n≤c) (hm:c≤maxLen) (hok:∀r∈l,RawOk r) (hr:Rd w 4 A n (rcs l)) :
  Calls Tryz.prog 4 #[.slice A n c] w fun e w'=>∃p,e= .returned (loV p (lof l))∧RdLo w' p (lof l)∧Below w.heap.size w w':=by
 obtain⟨w0,hw0⟩:∃W,W=w.alloc (.cells #[.slice none 0 0,.slice none 0 0,.int .i64 0,.int .i64 0,.int .i64 0,.slice none 0 0,.string ⟨#[]⟩,.slice none 0 0] 32):=⟨_,rfl⟩
 have hR:Arr w0 w.heap.size 32 [.slice none 0 0,.slice none 0 0,.int .i64 0,.int .i64 0,.int .i64 0,.slice none 0 0,.string ⟨#[]⟩,.slice none 0 0]:=by rw [hw0];exact Arr.new w 32 _
 have hb0:Below w.heap.size w w0:=by rw [hw0];exact(Below.refl _ _).alloc (Nat.le_refl _) _
 have HS:=sqH (ZL A n c l w0 hl hc hm hok (hr.below hb0));have HW0:=sqH hw0;have HB0:=sqH hb0;have HR:=sqH hR;clear hok hl hr hc hm hw0 hb0 hR;go_enter Tryz.func4,Tryz.ntmps4;go_wp2_with fail;rw [←HW0.out];clear HW0;refine HS.out.mono ?_;rintro e_ w1 ⟨v1,v2,rfl,hb,he,hb1⟩;dsimp only;obtain⟨X,cX,rfl,hx1,hx2,hxr⟩:=hb.rows;obtain⟨Y,cY,rfl,hy1,hy2,hyr⟩:=he.rows;have hR1:=HR.out.below hb1;obtain⟨f0,f1,f2,f3,f4,f5,f6,f7⟩:=sqF8 hR1;obtain⟨y0,y1,y2,y3,y4,y5,y6,y7⟩:=sqC8 hR1;have hb01:=HB0.out.trans (hb1.mono HB0.out.size);have HFN:=sqH (hR1.all8 (.slice X (sto l).blobs.length cX) (.slice Y (sto l).ents.length cY) (.int .i64 ((sto l).room:Int)) (.int .i64 ((sto l).clock:Int)) (.int .i64 0) (.slice none 0 0) (.string ⟨#[]⟩) (.slice none 0 0));have HB9:=sqH (uA hb01 (show w.heap.size≤w.heap.size by omega) (.slice X (sto l).blobs.length cX) (.slice Y (sto l).ents.length cY) (.int .i64 ((sto l).room:Int)) (.int .i64 ((sto l).clock:Int)) (.int .i64 0) (.slice none 0 0) (.string ⟨#[]⟩) (.slice none 0 0));have HRX:=sqH (RdSt.off8 (g:=w.heap.size) ⟨hxr,hyr,hx1,hx2,hy1,hy2⟩ (uf l) hR1 (by intro v hv;simp only [List.mem_cons,List.not_mem_nil,or_false]at hv;unfold QU;rcases hv with rfl | rfl | rfl | rfl | rfl | rfl | rfl | rfl<;>simp) (.slice X (sto l).blobs.length cX) (.slice Y (sto l).ents.length cY) (.int .i64 ((sto l).room:Int)) (.int .i64 ((sto l).clock:Int)) (.int .i64 0) (.slice none 0 0) (.string ⟨#[]⟩) (.slice none 0 0));clear hR1;go_wp2_with fail;refine bodyPost_ret (results_cell_row rfl _ _ w.heap.size _ _ _ _ (by rfl) HFN.out Tryz.underlying32 rfl (by kernel_rfl)) rfl ?_;exact⟨⟨X,cX,Y,cY,none,0,none,0⟩,rfl,⟨HRX.out,Yu _,Kf _,by show 0≤0;omega,by show 0≤maxLen;omega⟩,HB9.out⟩
end Go.Proofs.YtdbbehfbkiiloaaGreatDoor
