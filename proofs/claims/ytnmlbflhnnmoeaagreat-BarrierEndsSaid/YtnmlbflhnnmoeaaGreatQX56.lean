/- Lemmas of the proof. Conditions: as stated. -/
import Derived.Test.YtnmlbflhnnmoeaaGreatQX55
import Derived.Deep.CutBlock
set_option linter.unusedVariables false
set_option linter.unusedSimpArgs false
set_option maxRecDepth 100000
set_option maxHeartbeats 16000000
namespace Go.Proofs.YtnmlbflhnnmoeaaGreat
open Go.RowKit Go.Maps
def Xi (f:FuncId):Prop :=
 (∀args W,(callFunc f args).run Tryz.prog W= .ok (.enter f args) W)∧∀(m:Nat) (x:StoP) (d:ColP) (X:Option Addr) (cX:Nat) (Y:Option Addr) (dY:Nat) (Ag:Option Addr) (ng:Nat) (W:World),m≤31→Bsy m x d→RdSt W X cX Y dY x→RdC W Ag ng d →
  Calls Tryz.prog f #[.agg #[.slice X x.blobs.length cX,.slice Y x.ents.length dY,.int .i64 x.room,.int .i64 x.clock],coV (.slice Ag d.grey.length ng) d] W fun e w'=>e= .returned (.bool true)∧Below W.heap.size W w'
def Rws (w wr:World) (N:Nat→Prop) (X:Option Addr) (cX:Nat) (Y:Option Addr) (dY:Nat) (s:StoP) (Ag:Option Addr) (ng:Nat) (c:ColP):Prop :=
 (OwSt wr 0 (.slice X s.blobs.length cX) (.slice Y s.ents.length dY) s N∧wr.ownsRow 0 9 1 (.slice Ag c.grey.length ng) c.grey.length (strs c.grey))∨(RdSt w X cX Y dY s∧RdC w Ag ng c)
section
variable {w wr W:World} {N:Nat→Prop} {X Y Ag:Option Addr} {cX dY ng:Nat} {s:StoP} {c:ColP}
theorem Rws.rd (h:Rws w wr N X cX Y dY s Ag ng c) (hb:Below w.heap.size w wr):RdSt wr X cX Y dY s∧RdC wr Ag ng c:=by
 rcases h with ⟨h1,h2⟩ | ⟨h1,h2⟩
 ·obtain⟨_,_,_,_,e1,e2,h3⟩:=h1.rows;obtain⟨_,_,e3,h4⟩:=RdC.of_own (c:=c) h2;cases e1;cases e2;cases e3
  exact⟨h3,h4⟩
 ·exact⟨h1.below hb,h2.below hb⟩
theorem Rws.below (h:Rws w wr N X cX Y dY s Ag ng c) (hb:Below wr.heap.size wr W):Rws w W N X cX Y dY s Ag ng c:=h.imp (fun h=>⟨h.1.below hb,z8 h.2 hb⟩) id
theorem Rws.put7 {g h:Nat} {xs ys:List Value} (hR:Rws w wr N X cX Y dY s Ag ng c) (hA:Arr wr g 26 xs) (hC:Arr wr h 29 ys) (hg:N g) (hh:N h) (u0 u1 u2 u3 x0 x1 x2:Value):Rws w (put7 wr g h u0 u1 u2 u3 x0 x1 x2) N X cX Y dY s Ag ng c:=by
 rcases hR with ⟨h1,h2⟩ | h1
 ·exact .inl ⟨zT h1 hg hh (h1.nb hA (by decide) (by decide)).1 (h1.nb hA (by decide) (by decide)).2 (h1.nb hC (by decide) (by decide)).1 (h1.nb hC (by decide) (by decide)).2,zN h2 (zg h2 hA (by decide)) (zg h2 hC (by decide))⟩
 ·exact .inr h1
end
theorem ZE (s:StoP) (c:ColP) (ds:List (List UInt8)):(zw s c ds).1.room=s.room∧(zw s c ds).1.clock=s.clock:=by
 unfold zw;split
 ·exact⟨rfl,rfl⟩
 ·split<;>exact⟨rfl,rfl⟩
theorem vQ {v1 v2 v3:Value} {b:Nat} {N:Nat→Prop} {t:StoP} {c:ColP} {w:World} (ho:OwSt w b v1 v2 t N) (hl:w.ownsRow b 9 1 v3 c.grey.length (strs c.grey)):∃X cX Y dY Ag ng,v1= .slice X t.blobs.length cX∧v2= .slice Y t.ents.length dY∧v3= .slice Ag c.grey.length ng:=by
 obtain⟨X,cX,Y,dY,e1,e2, -⟩:=ho.rows;obtain⟨Ag,ng,e3, -, -⟩:=Rd.of_own' hl;exact⟨X,cX,Y,dY,Ag,ng,e1,e2,e3⟩
theorem QD (A:Option Addr) (c:Nat) (B:Option Addr) (d:Nat) (s:StoP) (Ag:Option Addr) (ng:Nat) (cp:ColP) (D:List UInt8) (DA:Option Addr) (dc:Nat) (w:World) (m:Nat) (hm:m≤31) (hb:Bsy m s cp) (hr:RdSt w A c B d s) (hc:RdC w Ag ng cp) (hf:Fits s D) (hD:Sl w 1 DA D.length dc (bys D)) (t:StoP) (c1:ColP) (ht:zw (zx s D) cp [shaS D]=(t,c1)) :
  Calls Tryz.prog 73 #[.agg #[.slice A s.blobs.length c,.slice B s.ents.length d,.int .i64 s.room,.int .i64 s.clock],.agg #[.int .i64 cp.phase,.slice Ag cp.grey.length ng,.string ⟨cp.at_.toArray⟩],.slice DA D.length dc] w fun e w' =>
   ∃Xa ca Ya da Ga na,e= .returned (.tuple #[.agg #[.slice Xa t.blobs.length ca,.slice Ya t.ents.length da,.int .i64 t.room,.int .i64 t.clock],.agg #[.int .i64 c1.phase,.slice Ga c1.grey.length na,.string ⟨c1.at_.toArray⟩],.string ⟨(shaS D).toArray⟩,.int .i64 0])∧OwSt w' w.heap.size (.slice Xa t.blobs.length ca) (.slice Ya t.ents.length da) t (fun b=>b<w.heap.size)∧w'.ownsRow w.heap.size 9 1 (.slice Ga c1.grey.length na) c1.grey.length (strs c1.grey)∧Below w.heap.size w w':=by
 have hrm:=ZE (zx s D) cp [shaS D];refine(ZA A c B d s Ag ng cp D DA dc w hb.g hr (by have:=hb.gr;omega) hb.gc hc hf hD).mono ?_;rw [ht]at hrm ⊢
 rintro e w' ⟨v1,v2,v3,he,ho,hl,hbl⟩;obtain⟨X,cX,Y,dY,Ag,ng,rfl,rfl,rfl⟩:=vQ ho hl;refine⟨X,cX,Y,dY,Ag,ng,?_,ho,hl,hbl⟩;have e1:t.room=s.room:=hrm.1;have e2:t.clock=s.clock:=hrm.2;rw [e1,e2];exact he
theorem z0b {l:List PartP} (h:chk l=0) (h3:l.length≤3):(enc l).length≤148:=by
 have hz:=zj h;rw [xB _ hz.1];have:=vl _ hz.2;omega
theorem UN {l:List PartP} (h:chk l=0):∀p∈l,JF p:=(zj h).2
theorem Qd (A:Option Addr) (c:Nat) (l:List BlobP) (r:RawP) (w:World) (hg:GoodB l) (hc:l.length≤c) (hm:c≤maxLen) (hA:Rw BlobS w A l) (hr:RawOk r) :
  Calls Tryz.prog 40 #[.slice A l.length c,.agg #[.int .i64 r.kind,.int .i64 r.a,.int .i64 r.b,.string r.text]] w fun e w'=>∃P p,e= .returned (.slice P (zA l r).length p)∧Sl w' 3 P (zA l r).length p (pcs (zA l r))∧Below w.heap.size w w':=by
 refine(jf A c l r w (by have:=hg.len;omega) hc hm (fun b hb=>by have:=(hg.one b hb).2.1;omega) hA hr).mono ?_;rintro e w' ⟨v,rfl,ho,hb⟩;obtain⟨P,p,rfl,hs, -⟩:=jb ho;exact⟨P,p,rfl,hs,hb⟩
theorem J3 (A:Option Addr) (c:Nat) (B:Option Addr) (d:Nat) (s:StoP) (Ag:Option Addr) (ng:Nat) (cp:ColP) (K:List UInt8) (ps:List PartP) (PA:Option Addr) (pc:Nat) (w:World) (m:Nat) (hm:m≤31) (hb:Bsy m s cp) (hr:RdSt w A c B d s) (hc:RdC w Ag ng cp) (hK:∃j,j<7∧K=keyS j) (hcz:chk ps=0) (hhv:qQ s.blobs ps=0) (hP:Sl w 3 PA ps.length pc (pcs ps)) (t:StoP) (c1:ColP) (ht:zw (xd s K ps) cp (ps.map (·.dig))=(t,c1)) :
  Calls Tryz.prog 74 #[.agg #[.slice A s.blobs.length c,.slice B s.ents.length d,.int .i64 s.room,.int .i64 s.clock],.agg #[.int .i64 cp.phase,.slice Ag cp.grey.length ng,.string ⟨cp.at_.toArray⟩],.string ⟨K.toArray⟩,.slice PA ps.length pc] w fun e w' =>
   ∃Xa ca Ya da Ga na,e= .returned (.tuple #[.agg #[.slice Xa t.blobs.length ca,.slice Ya t.ents.length da,.int .i64 t.room,.int .i64 t.clock],.agg #[.int .i64 c1.phase,.slice Ga c1.grey.length na,.string ⟨c1.at_.toArray⟩],.int .i64 0])∧OwSt w' w.heap.size (.slice Xa t.blobs.length ca) (.slice Ya t.ents.length da) t (fun b=>b<w.heap.size)∧w'.ownsRow w.heap.size 9 1 (.slice Ga c1.grey.length na) c1.grey.length (strs c1.grey)∧Below w.heap.size w w':=by
 have hrm:=ZE (xd s K ps) cp (ps.map (·.dig));have hKx:hexC K=0:=by obtain⟨j,_,rfl⟩:=hK;exact zu _
 have hck:s.clock<1099511627776:=by have:=hb.ck;omega
 have he7:=hb.e7;refine(Jv A c B d s Ag ng cp K ps PA pc w hb.g hr (by have:=hb.gr;omega) hb.gc hc hKx hcz hhv hck (by omega) hP _ rfl (uN hb.g hKx hcz (kV hhv) hck (by omega))).mono ?_;rw [ht]at hrm ⊢
 rintro e w' ⟨v1,v2,v3,he,ho,hl,hbl⟩;obtain⟨X,cX,Y,dY,Ag,ng,rfl,rfl,rfl⟩:=vQ ho hl;refine⟨X,cX,Y,dY,Ag,ng,?_,ho,hl,hbl⟩;have e1:t.room=(xd s K ps).room:=hrm.1;have e2:t.clock=(xd s K ps).clock:=hrm.2;rw [e1,e2];exact he
theorem U1 (A:Option Addr) (c:Nat) (B:Option Addr) (d:Nat) (s:StoP) (Ag:Option Addr) (ng:Nat) (cp:ColP) (up:Bool) (k:Nat) (w:World) (m:Nat) (hm:m≤31) (hb:Bsy m s cp) (hr:RdSt w A c B d s) (hc:RdC w Ag ng cp) (hk:k<s.blobs.length) (hmv:if up then s.blobs[k].pins<5 else 0<s.blobs[k].pins∧s.blobs[k].pins≤5) (hm5:mvN s.blobs[k].pins up≤5) (t:StoP) (c1:ColP) (ht:zw (qB s k s.blobs[k] (mvN s.blobs[k].pins up)) cp [s.blobs[k].dig]=(t,c1)) :
  Calls Tryz.prog 75 #[.agg #[.slice A s.blobs.length c,.slice B s.ents.length d,.int .i64 s.room,.int .i64 s.clock],.agg #[.int .i64 cp.phase,.slice Ag cp.grey.length ng,.string ⟨cp.at_.toArray⟩],.string ⟨s.blobs[k].dig.toArray⟩,.bool up] w fun e w' =>
   ∃Xa ca Ya da Ga na,e= .returned (.tuple #[.agg #[.slice Xa t.blobs.length ca,.slice Ya t.ents.length da,.int .i64 t.room,.int .i64 t.clock],.agg #[.int .i64 c1.phase,.slice Ga c1.grey.length na,.string ⟨c1.at_.toArray⟩],.int .i64 0])∧OwSt w' w.heap.size (.slice Xa t.blobs.length ca) (.slice Ya t.ents.length da) t (fun b=>b<w.heap.size)∧w'.ownsRow w.heap.size 9 1 (.slice Ga c1.grey.length na) c1.grey.length (strs c1.grey)∧Below w.heap.size w w':=by
 have hrm:=ZE (qB s k s.blobs[k] (mvN s.blobs[k].pins up)) cp [s.blobs[k].dig];refine(V4 A c B d s Ag ng cp s.blobs[k].dig up k w hb.g hr (by have:=hb.gr;omega) hb.gc hc hk rfl hmv _ rfl (vC hb.g hk hm5)).mono ?_;rw [ht]at hrm ⊢
 rintro e w' ⟨v1,v2,v3,he,ho,hl,hbl⟩;obtain⟨X,cX,Y,dY,Ag,ng,rfl,rfl,rfl⟩:=vQ ho hl;refine⟨X,cX,Y,dY,Ag,ng,?_,ho,hl,hbl⟩;have e1:t.room=s.room:=hrm.1;have e2:t.clock=s.clock:=hrm.2;rw [e1,e2];exact he
theorem vf (A:Option Addr) (c:Nat) (B:Option Addr) (d:Nat) (s:StoP) (w:World) (hg:GoodS s) (hr:RdSt w A c B d s) :
  Calls Tryz.prog 14 #[.agg #[.slice A s.blobs.length c,.slice B s.ents.length d,.int .i64 s.room,.int .i64 s.clock]] w fun e w' =>
   ∃Xa ca Ya da Ga na,e= .returned (.tuple #[.agg #[.slice Xa (qy s).blobs.length ca,.slice Ya (qy s).ents.length da,.int .i64 ((qy s).room:Int),.int .i64 ((qy s).clock:Int)],.agg #[.int .i64 ((k9 s).phase:Int),.slice Ga (k9 s).grey.length na,.string ⟨(k9 s).at_.toArray⟩],.int .i64 0])∧OwSt w' w.heap.size (.slice Xa (qy s).blobs.length ca) (.slice Ya (qy s).ents.length da) (qy s) (fun b=>b<w.heap.size)∧w'.ownsRow w.heap.size 9 1 (.slice Ga (k9 s).grey.length na) (k9 s).grey.length (strs (k9 s).grey)∧Below w.heap.size w w':=by
 refine(Qt A c B d s w hg hr).mono ?_;rintro e w' ⟨v1,v2,v3,he,ho,hl,hbl⟩;obtain⟨X,cX,Y,dY,Ag,ng,rfl,rfl,rfl⟩:=vQ ho hl;exact⟨X,cX,Y,dY,Ag,ng,he,ho,hl,hbl⟩
theorem UU (A:Option Addr) (c:Nat) (B:Option Addr) (d:Nat) (s:StoP) (Ag:Option Addr) (ng:Nat) (cp:ColP) (w:World) (m:Nat) (hm:m≤31) (hb:Bsy m s cp) (hr:RdSt w A c B d s) (hc:RdC w Ag ng cp) (hp:cp.phase=1∨cp.phase=2) (t:StoP) (c1:ColP) (dg:List UInt8) (ht:zy s cp=(t,c1,dg)) :
  Calls Tryz.prog 76 #[.agg #[.slice A s.blobs.length c,.slice B s.ents.length d,.int .i64 s.room,.int .i64 s.clock],.agg #[.int .i64 cp.phase,.slice Ag cp.grey.length ng,.string ⟨cp.at_.toArray⟩]] w fun e w' =>
   ∃Xa ca Ya da Ga na,e= .returned (.tuple #[.agg #[.slice Xa t.blobs.length ca,.slice Ya t.ents.length da,.int .i64 t.room,.int .i64 t.clock],.agg #[.int .i64 c1.phase,.slice Ga c1.grey.length na,.string ⟨c1.at_.toArray⟩],.string ⟨dg.toArray⟩,.int .i64 0])∧OwSt w' w.heap.size (.slice Xa t.blobs.length ca) (.slice Ya t.ents.length da) t (fun b=>b<w.heap.size)∧w'.ownsRow w.heap.size 9 1 (.slice Ga c1.grey.length na) c1.grey.length (strs c1.grey)∧Below w.heap.size w w':=by
 have hrm:=(yI hb.g hb.gc hp).2.2.2.2;refine(Qc A c B d s Ag ng cp w hb.g hr hp (by have:=hb.gr;omega) hb.gc hc).mono ?_;rw [ht]at hrm ⊢
 rintro e w' ⟨v1,v2,v3,he,ho,hl,hbl⟩;obtain⟨X,cX,Y,dY,Ag,ng,rfl,rfl,rfl⟩:=vQ ho hl;refine⟨X,cX,Y,dY,Ag,ng,?_,ho,hl,hbl⟩;have e1:t.room=s.room:=hrm.1;have e2:t.clock=s.clock:=hrm.2;rw [e1,e2];exact he
theorem V1 {m:Nat} {s t:StoP} {c c1:ColP} {dg:List UInt8} (h:Bsy m s c) (hp:c.phase=1∨c.phase=2) (ht:zy s c=(t,c1,dg)):Bsy (m+1) t c1:=by
 have h1:=yI h.g h.gc hp;have h2:=Zk s c;have h3:=h.gr;have h4:=h.ck;rw [ht]at h1 h2;obtain⟨a1,a2, -,a4, -,a6⟩:=h1;dsimp only at a1 a2 a4 a6 h2;exact⟨a1,a2,by omega,by rw [a4];exact h.k7,by rw [a6];omega⟩
theorem Z2 {w1 w2 w5:World} {g h B B1 n:Nat} {a0 a1 a2 a3 b0 b1 b2:Value} {v1 v2 v3 u2 u3 x0 x2:Value} {t:StoP} {l:List Value} (hA:Arr w5 g 26 [a0,a1,a2,a3]) (hC:Arr w5 h 29 [b0,b1,b2]) (hne:g≠h) (ho:OwSt w5 w2.heap.size v1 v2 t (fun b=>b<w2.heap.size)) (hl:w5.ownsRow w2.heap.size 9 1 v3 n l) (hB:B≤w2.heap.size) (hg:g<w2.heap.size) (hh:h<w2.heap.size) (hb:Below B1 w1 w2) (hb5:Below w2.heap.size w2 w5) (hB1:B1≤w2.heap.size) (hg1:B1≤g) (hh1:B1≤h) :
  Arr (put7 w5 g h v1 v2 u2 u3 x0 v3 x2) g 26 [v1,v2,u2,u3]∧Arr (put7 w5 g h v1 v2 u2 u3 x0 v3 x2) h 29 [x0,v3,x2]∧OwSt (put7 w5 g h v1 v2 u2 u3 x0 v3 x2) 0 v1 v2 t (fun b=>b<B)∧(put7 w5 g h v1 v2 u2 u3 x0 v3 x2).ownsRow 0 9 1 v3 n l∧Below B1 w1 (put7 w5 g h v1 v2 u2 u3 x0 v3 x2) :=
 ⟨zW hA hne,zY hC hne,((zT ho hg hh (ho.nb hA (by decide) (by decide)).1 (ho.nb hA (by decide) (by decide)).2 (ho.nb hC (by decide) (by decide)).1 (ho.nb hC (by decide) (by decide)).2).lower (Nat.zero_le _)).mono (fun b hb=>Nat.lt_of_lt_of_le hb hB),ze (zN hl (zg hl hA (by decide)) (zg hl hC (by decide))) (Nat.zero_le _),zq (hb.trans (hb5.mono hB1)) hg1 hh1⟩
theorem Rws.mono {w wr:World} {N N':Nat→Prop} {X:Option Addr} {cX:Nat} {Y:Option Addr} {dY:Nat} {s:StoP} {Ag:Option Addr} {ng:Nat} {c:ColP} (h:Rws w wr N X cX Y dY s Ag ng c) (hN:∀b,N' b→N b):Rws w wr N' X cX Y dY s Ag ng c:=h.imp (fun h=>⟨h.1.mono hN,h.2⟩) id
theorem UX {wA w w6:World} {N:Nat→Prop} {H:Nat} {zs zc:List Value} {a0 a1 a2 a3 b0 b1 b2:Value} {X:Option Addr} {cX:Nat} {Y:Option Addr} {dY:Nat} {s:StoP} {Ag:Option Addr} {ng:Nat} {c:ColP} (hA:Arr w6 H 26 [a0,a1,a2,a3]) (hC:Arr w6 (H+1) 29 [b0,b1,b2]) (hR:Arr w6 (H+1+1) 26 zs) (hQ:Arr w6 (H+1+1+1) 29 zc) (hRw:Rws wA w6 N X cX Y dY s Ag ng c) (hN:N H) (hN1:N (H+1)) (hb:Below H w w6) :
  Arr (put7 w6 H (H+1) (.slice X s.blobs.length cX) (.slice Y s.ents.length dY) (.int .i64 s.room) (.int .i64 s.clock) (.int .i64 c.phase) (.slice Ag c.grey.length ng) (.string ⟨c.at_.toArray⟩)).drew H 26 [.slice X s.blobs.length cX,.slice Y s.ents.length dY,.int .i64 s.room,.int .i64 s.clock] ∧
  Arr (put7 w6 H (H+1) (.slice X s.blobs.length cX) (.slice Y s.ents.length dY) (.int .i64 s.room) (.int .i64 s.clock) (.int .i64 c.phase) (.slice Ag c.grey.length ng) (.string ⟨c.at_.toArray⟩)).drew (H+1) 29 [.int .i64 c.phase,.slice Ag c.grey.length ng,.string ⟨c.at_.toArray⟩] ∧
  Arr (put7 w6 H (H+1) (.slice X s.blobs.length cX) (.slice Y s.ents.length dY) (.int .i64 s.room) (.int .i64 s.clock) (.int .i64 c.phase) (.slice Ag c.grey.length ng) (.string ⟨c.at_.toArray⟩)).drew (H+1+1) 26 zs ∧
  Arr (put7 w6 H (H+1) (.slice X s.blobs.length cX) (.slice Y s.ents.length dY) (.int .i64 s.room) (.int .i64 s.clock) (.int .i64 c.phase) (.slice Ag c.grey.length ng) (.string ⟨c.at_.toArray⟩)).drew (H+1+1+1) 29 zc ∧
  Rws wA (put7 w6 H (H+1) (.slice X s.blobs.length cX) (.slice Y s.ents.length dY) (.int .i64 s.room) (.int .i64 s.clock) (.int .i64 c.phase) (.slice Ag c.grey.length ng) (.string ⟨c.at_.toArray⟩)).drew N X cX Y dY s Ag ng c ∧
  Below H w (put7 w6 H (H+1) (.slice X s.blobs.length cX) (.slice Y s.ents.length dY) (.int .i64 s.room) (.int .i64 s.clock) (.int .i64 c.phase) (.slice Ag c.grey.length ng) (.string ⟨c.at_.toArray⟩)).drew :=
 ⟨Arr.drew (zW hA (by omega)),Arr.drew (zY hC (by omega)),Arr.drew (ji _ _ _ _ _ _ _ hR (by omega) (by omega)),Arr.drew (ji _ _ _ _ _ _ _ hQ (by omega) (by omega)),(hRw.put7 hA hC hN hN1 _ _ _ _ _ _ _).below (Below.refl _ _).drew,(zq hb (Nat.le_refl _) (Nat.le_succ _)).drew⟩
theorem Yp {wA w w6:World} {N:Nat→Prop} {B g h:Nat} {a0 a1 a2 a3 b0 b1 b2:Value} {X:Option Addr} {cX:Nat} {Y:Option Addr} {dY:Nat} {s:StoP} {Ag:Option Addr} {ng:Nat} {c:ColP} (hA:Arr w6 g 26 [a0,a1,a2,a3]) (hC:Arr w6 h 29 [b0,b1,b2]) (hRw:Rws wA w6 N X cX Y dY s Ag ng c) (hN:N g) (hN1:N h) (hb:Below B w w6) (hg:B≤g) (hh:B≤h) (hne:g≠h) :
  Rws wA (put7 w6 g h (.slice X s.blobs.length cX) (.slice Y s.ents.length dY) (.int .i64 s.room) (.int .i64 s.clock) (.int .i64 c.phase) (.slice Ag c.grey.length ng) (.string ⟨c.at_.toArray⟩)).drew N X cX Y dY s Ag ng c ∧
  Below B w (put7 w6 g h (.slice X s.blobs.length cX) (.slice Y s.ents.length dY) (.int .i64 s.room) (.int .i64 s.clock) (.int .i64 c.phase) (.slice Ag c.grey.length ng) (.string ⟨c.at_.toArray⟩)).drew ∧
  Arr (put7 w6 g h (.slice X s.blobs.length cX) (.slice Y s.ents.length dY) (.int .i64 s.room) (.int .i64 s.clock) (.int .i64 c.phase) (.slice Ag c.grey.length ng) (.string ⟨c.at_.toArray⟩)).drew g 26 [.slice X s.blobs.length cX,.slice Y s.ents.length dY,.int .i64 s.room,.int .i64 s.clock] ∧
  Arr (put7 w6 g h (.slice X s.blobs.length cX) (.slice Y s.ents.length dY) (.int .i64 s.room) (.int .i64 s.clock) (.int .i64 c.phase) (.slice Ag c.grey.length ng) (.string ⟨c.at_.toArray⟩)).drew h 29 [.int .i64 c.phase,.slice Ag c.grey.length ng,.string ⟨c.at_.toArray⟩] :=
 ⟨(hRw.put7 hA hC hN hN1 _ _ _ _ _ _ _).below (Below.refl _ _).drew,(zq hb hg hh).drew,Arr.drew (zW hA hne),Arr.drew (zY hC hne)⟩
theorem KR (f:FuncId) (HC:Xi f) (A:Option Addr) (n ca:Nat) (l:List RawP) (X:Option Addr) (cX:Nat) (Y:Option Addr) (dY:Nat) (s:StoP) (Ag:Option Addr) (ng:Nat) (c:ColP) (wA w:World) (hwA:Below wA.heap.size wA w) (hl:l.length=n) (hc:n≤ca) (hm:ca≤maxLen) (hok:∀r∈l,RawOk r) (hr:Rd w 4 A n (rcs l)) (hb:Bsy 0 s c) (hrs:RdSt wA X cX Y dY s) (hrc:RdC wA Ag ng c) :
  Calls Tryz.prog 17 #[.agg #[.slice X s.blobs.length cX,.slice Y s.ents.length dY,.int .i64 s.room,.int .i64 s.clock],coV (.slice Ag c.grey.length ng) c,.slice A n ca,.func (.func f) #[] #[]] w fun e w' =>
   ∃X' cX' Y' dY' s' Ag' ng' c',e= .returned (.tuple #[.agg #[.slice X' s'.blobs.length cX',.slice Y' s'.ents.length dY',.int .i64 s'.room,.int .i64 s'.clock],coV (.slice Ag' c'.grey.length ng') c',.bool true])∧Rws wA w' (fun b=>b<w.heap.size) X' cX' Y' dY' s' Ag' ng' c'∧Bsy 31 s' c'∧Below w.heap.size w w':=by
 obtain⟨hcf,hcc0⟩:=HC;have HCC:=sqH hcc0;clear hcc0;obtain⟨w0,hw0,hS,hCo,hR,hQ,hbx⟩:=zU w 26 29 [.slice X s.blobs.length cX,.slice Y s.ents.length dY,.int .i64 s.room,.int .i64 s.clock] [.int .i64 c.phase,.slice Ag c.grey.length ng,.string ⟨c.at_.toArray⟩] [.slice none 0 0,.slice none 0 0,.int .i64 0,.int .i64 0] [.int .i64 0,.slice none 0 0,.string ⟨#[]⟩];obtain⟨H,hH⟩:∃H,H=w.heap.size:=⟨_,rfl⟩
 have h0s:w0.heap.size≤w.heap.size+1+1+1+1:=by rw [hw0];simp only [World.size_alloc];omega
 have hRws:Rws wA w0 (fun b=>b<w0.heap.size) X cX Y dY s Ag ng c:= .inr ⟨hrs,hrc⟩;have HRR:=sqH (show ∀W,Below w.heap.size w W→Rd W 4 A n (rcs l) from fun W h=>hr.below h);have HB:=sqH hb;rw [←hH]at hS hCo hR hQ hbx HRR h0s ⊢
 have hHl:H+1+1+1<w0.heap.size:=hQ.lt;have HOK:=sqH hok;have HWA:=sqH (show ∀W,Below w.heap.size w W→Below wA.heap.size wA W from fun W h=>hwA.trans (h.mono hwA.size));clear hr hrs hrc hb hok hwA;go_enter Tryz.func17,Tryz.ntmps17;go_wp2_with fail;rw [←hw0,←hH];have HH:=sqH hH;clear hw0 hH;go_loopg [18] n (fun gn u wr=>∃(i:Nat) (X:Option Addr) (cX:Nat) (Y:Option Addr) (dY:Nat) (s:StoP) (Ag:Option Addr) (ng:Nat) (c:ColP),gn=n - i∧u= .int .i64 i∧i≤n∧i≤31∧Arr wr H 26 [.slice X s.blobs.length cX,.slice Y s.ents.length dY,.int .i64 s.room,.int .i64 s.clock]∧Arr wr (H+1) 29 [.int .i64 c.phase,.slice Ag c.grey.length ng,.string ⟨c.at_.toArray⟩]∧Arr wr (H+1+1) 26 [.slice none 0 0,.slice none 0 0,.int .i64 0,.int .i64 0]∧Arr wr (H+1+1+1) 29 [.int .i64 0,.slice none 0 0,.string ⟨#[]⟩]∧Rws wA wr (fun b=>b<w0.heap.size) X cX Y dY s Ag ng c∧Bsy i s c∧Below H w wr)
 case atStart=>exact⟨0,X,cX,Y,dY,s,Ag,ng,c,rfl,rfl,by omega,by omega,hS,hCo,hR,hQ,hRws,HB.out,hbx⟩
 case round =>
  obtain⟨i,X,cX,Y,dY,s,Ag,ng,c,hgi,rfl,hi,hi31,hS,hCo,hR,hQ,hRws,hB,hbl⟩:=hrel;have HGI:=sqH hgi;have HBY:=sqH hB;have HRWS:=sqH hRws;have HBL:=sqH hbl;have HSS:=sqH hS;have HCO:=sqH hCo;have HRZ:=sqH hR;have HQZ:=sqH hQ;clear hgi hB hRws hbl hR hQ;by_cases hlt:i<n
  ·have hcc:decide (i<n)=true:=decide_eq_true hlt;have hci:decide ((i:Int)<(n:Int))=true:=decide_eq_true (by omega);have hk0:(0:Int)≤(i:Int):=by omega
   have hk1:(i:Int)<(n:Int):=by omega
   have hkl:i<l.length:=by omega
   obtain⟨b,off,rfl,hbw,hcell⟩:=(HRR.out _ HBL.out).2 (by omega);have hat:=fun j (hj:j<4)=>Qx l i j hkl hj;have hrok:=HOK.out l[i] (List.getElem_mem hkl);have r0:=hcell (i*4+0) _ (hat 0 (by omega));have r1:=hcell (i*4+1) _ (hat 1 (by omega));have r2:=hcell (i*4+2) _ (hat 2 (by omega));have r3:=hcell (i*4+3) _ (hat 3 (by omega));generalize l[i]=r at *
   obtain⟨rk,ra,rb,rt⟩:=r;have HRO:=sqH hrok;rw [Nat.add_zero]at r0;rw [show off+(i*4+1)=off+i*4+1 by omega]at r1;rw [show off+(i*4+2)=off+i*4+2 by omega]at r2;rw [show off+(i*4+3)=off+i*4+3 by omega]at r3
   try dsimp only [yU,List.getElem?_cons_zero,List.getElem?_cons_succ]at r0 r1 r2 r3
   clear hat hcell hrok hkl;by_cases h30:i>30
   ·have h30a:decide ((i:Int)>30)=true:=decide_eq_true (by omega);have h30b:decide ((30:Int)<(i:Int))=true:=decide_eq_true (by omega);have h30c:decide (30<i)=true:=decide_eq_true (by omega);have hba:=(Below.refl wr.heap.size wr).alloc (Nat.le_refl _) (.cells #[.int .i64 rk,.int .i64 ra,.int .i64 rb,.string rt] 60);have hS1:=hS.below hba;have hCo1:=hCo.below hba;have HRZ1:=sqH (HRZ.out.below hba);have HQZ1:=sqH (HQZ.out.below hba);have HRWS1:=sqH (HRWS.out.below hba);have HBL1:=sqH (HBL.out.alloc (by rw [HH.out];exact HBL.out.size) (.cells #[.int .i64 rk,.int .i64 ra,.int .i64 rb,.string rt] 60));clear hS hCo hba;obtain⟨e0,e1,e2,e3⟩:=sqC4 hS1;obtain⟨d0,d1,d2⟩:=sqC3 hCo1;obtain⟨p0,p1,p2,p3⟩:=sqC4 HRZ1.out;obtain⟨q0,q1,q2⟩:=sqC3 HQZ1.out;obtain⟨f0,f1,f2,f3⟩:=sqF4 HRZ1.out;obtain⟨l0,l1,l2⟩:=sqF3 HQZ1.out;have n1:¬(H=H+1+1):=by omega
    have n2:¬(H=H+1+1+1):=by omega
    have n3:¬(H+1=H+1+1):=by omega
    have n4:¬(H+1=H+1+1+1):=by omega
    have n5:¬(H+1+1=H+1+1+1):=by omega
    clear hS1 hCo1;have HEND:=sqH (Yp (X:=X) (cX:=cX) (Y:=Y) (dY:=dY) (s:=s) (Ag:=Ag) (ng:=ng) (c:=c) HRZ1.out HQZ1.out HRWS1.out (show H+1+1<w0.heap.size by omega) (show H+1+1+1<w0.heap.size by omega) HBL1.out (by omega) (by omega) (by omega))
    repeat' ((fail_if_success (with_reducible refine at_reg_ 26 ?_));(fail_if_success (with_reducible refine at_sreg_ 26 ?_));(fail_if_success (with_reducible refine at_ssreg_ 26 ?_));(fail_if_success at_builtin);(fail_if_success at_make);(first | go_values | go_skip | go_guarded | go_step | go_upon | go_back))
    clear r0 r1 r2 r3;generalize wr.alloc (.cells #[.int .i64 rk,.int .i64 ra,.int .i64 rb,.string rt] 60)=w1 at *
    go_region
    all_goals (try dsimp only [Exit.then])
    go_wp2_with fail;refine bodyPost_ret (zJ rfl _ _ (H+1+1) (H+1+1+1) _ _ _ _ _ _ _ _ (by rfl) HEND.out.2.2.1 Tryz.underlying26 rfl (by kernel_rfl) (by rfl) HEND.out.2.2.2 Tryz.underlying29 rfl (by kernel_rfl)) rfl ?_;obtain⟨z1,z2, -, -⟩:=HEND.out;exact⟨X,cX,Y,dY,s,Ag,ng,c,rfl,z1.mono (fun b hb=>by show b<w0.heap.size;have hb:b<H:=hb;omega),HBY.out.up hi31,z2⟩
   ·have h30a:decide ((i:Int)>30)=false:=decide_eq_false (by omega);have h30b:decide ((30:Int)<(i:Int))=false:=decide_eq_false (by omega);have h30c:decide (30<i)=false:=decide_eq_false (by omega);have hRb:Arr (wr.alloc (.cells #[.int .i64 rk,.int .i64 ra,.int .i64 rb,.string rt] 60)) wr.heap.size 60 [.int .i64 rk,.int .i64 ra,.int .i64 rb,.string rt]:=Arr.new wr 60 _;have hba:=(Below.refl wr.heap.size wr).alloc (Nat.le_refl _) (.cells #[.int .i64 rk,.int .i64 ra,.int .i64 rb,.string rt] 60);have hS1:=hS.below hba;have hCo1:=hCo.below hba;clear hS hCo;have hw01:w0.heap.size≤(wr.alloc (.cells #[.int .i64 rk,.int .i64 ra,.int .i64 rb,.string rt] 60)).heap.size:=by
     have:=HQZ.out.lt;have:=hba.size;omega
    have HBA:=sqH hba;clear hba
    repeat' ((fail_if_success (with_reducible refine at_reg_ 5 ?_));(fail_if_success (with_reducible refine at_sreg_ 5 ?_));(fail_if_success (with_reducible refine at_ssreg_ 5 ?_));(fail_if_success at_builtin);(fail_if_success at_make);(first | go_values | go_skip | go_guarded | go_step | go_upon | go_back))
    clear r0 r1 r2 r3;generalize hw1:wr.alloc (.cells #[.int .i64 rk,.int .i64 ra,.int .i64 rb,.string rt] 60)=w1 at *
    obtain⟨gr,hgr⟩:∃g,g=wr.heap.size:=⟨_,rfl⟩
    rw [←hgr]at hRb ⊢
    have HSZ:=sqH (show ∀W,Below w1.heap.size w1 W→(W.cell? ⟨H,0,none⟩=some (.slice X s.blobs.length cX)∧W.cell? ⟨H,1,none⟩=some (.slice Y s.ents.length dY)∧W.cell? ⟨H,2,none⟩=some (.int .i64 s.room)∧W.cell? ⟨H,3,none⟩=some (.int .i64 s.clock))∧(W.cell? ⟨H+1,0,none⟩=some (.int .i64 c.phase)∧W.cell? ⟨H+1,1,none⟩=some (.slice Ag c.grey.length ng)∧W.cell? ⟨H+1,2,none⟩=some (.string ⟨c.at_.toArray⟩)) from fun W h =>
     ⟨⟨(hS1.below h).cell (k:=0) rfl,(hS1.below h).cell (k:=1) rfl,(hS1.below h).cell (k:=2) rfl,(hS1.below h).cell (k:=3) rfl⟩,(hCo1.below h).cell (k:=0) rfl,(hCo1.below h).cell (k:=1) rfl,(hCo1.below h).cell (k:=2) rfl⟩)
    have hrws:∀W,Below w1.heap.size w1 W→Rws wA W (fun b=>b<w0.heap.size) X cX Y dY s Ag ng c:=fun W h=>HRWS.out.below (HBA.out.trans (h.mono HBA.out.size));have hbww:∀W,Below w1.heap.size w1 W→Below w.heap.size w W:=fun W h=>by rw [←HH.out];exact HBL.out.trans ((HBA.out.trans (h.mono HBA.out.size)).mono (by rw [HH.out];exact HBL.out.size))
    have HRW:=sqH hrws;have HBW:=sqH hbww;clear hrws hbww;have HS1:=sqH hS1;have HCO1:=sqH hCo1;have HRB:=sqH hRb;have HGR:=sqH hgr;have HW1:=sqH hw1;clear hS1 hCo1 hRb hgr hw1;apply k6;intro REST5;apply k6;intro Re1;refine zk [5] (S:=(fun w'=>(w'.cell? ⟨H,0,none⟩=some (.slice X s.blobs.length cX)∧w'.cell? ⟨H,1,none⟩=some (.slice Y s.ents.length dY)∧w'.cell? ⟨H,2,none⟩=some (.int .i64 s.room)∧w'.cell? ⟨H,3,none⟩=some (.int .i64 s.clock))∧(w'.cell? ⟨H+1,0,none⟩=some (.int .i64 c.phase)∧w'.cell? ⟨H+1,1,none⟩=some (.slice Ag c.grey.length ng)∧w'.cell? ⟨H+1,2,none⟩=some (.string ⟨c.at_.toArray⟩)))) (by kernel_rfl) ?_ (fun hHeld=> ?_)
    ·exact HSZ.out _ (((Below.refl w1.heap.size w1)).drew)
    have hB:=((Below.refl w1.heap.size w1)).drew;generalize w1.drew=wn0 at *
    refine tkU 0 ?_
    try simp only [sqP]
    refine tkU 1 ?_
    try simp only [sqP]
    refine z7 (rs:= [2,3]) (by kernel_rfl) (by simp) ?_;refine z6.cons (o:=_) rfl (fun K hK=> ?_) ?_
    ·
     have hba:=(Below.refl wn0.heap.size wn0).alloc (Nat.le_refl _) (.cells #[.slice none 0 0,.slice none 0 0,.int .i64 0,.int .i64 0] 26);have hn:=Arr.new wn0 26 [.slice none 0 0,.slice none 0 0,.int .i64 0,.int .i64 0];have hnl:w1.heap.size≤wn0.heap.size:=hB.size;obtain⟨g13,hge⟩:∃g,g=wn0.heap.size:=⟨_,rfl⟩
     have hN:∀b,b=g13→wn0.heap.size≤b:=fun b h=>by rw [h,hge];exact Nat.le_refl _
     rw [←hge]at hn hnl;go_simp;rw [←hge];clear hge;refine qI hK ?_ (fun W=>Below w1.heap.size w1 W∧Arr W g13 26 [.slice none 0 0,.slice none 0 0,.int .i64 0,.int .i64 0]∧w1.heap.size≤g13) (fun W=>True) ?_ ?_ (fun wn1 hHeld2 hF _=> ?_)
     ·exact HSZ.out _ ((hB.trans (hba.mono hB.size)))
     ·exact⟨hB.trans (hba.mono hB.size),hn,hnl⟩
     ·trivial
     clear hB hHeld;have hHeld:=hHeld2;clear hHeld2;obtain⟨hB,h13,h13l⟩:=hF;clear hba hn hnl hN;clear hK K
     try simp only [sqP]
     refine z7 (rs:= [3]) (by kernel_rfl) (by simp) ?_;refine z6.cons (o:=_) rfl (fun K hK=> ?_) ?_
     ·
      have hba:=(Below.refl wn1.heap.size wn1).alloc (Nat.le_refl _) (.cells #[.int .i64 0,.slice none 0 0,.string ⟨#[]⟩] 29);have hn:=Arr.new wn1 29 [.int .i64 0,.slice none 0 0,.string ⟨#[]⟩];have hnl:w1.heap.size≤wn1.heap.size:=hB.size;obtain⟨g14,hge⟩:∃g,g=wn1.heap.size:=⟨_,rfl⟩
      have hN:∀b,b=g14→wn1.heap.size≤b:=fun b h=>by rw [h,hge];exact Nat.le_refl _
      rw [←hge]at hn hnl;go_simp;rw [←hge];clear hge;refine qI hK ?_ (fun W=>Below w1.heap.size w1 W∧Arr W g13 26 [.slice none 0 0,.slice none 0 0,.int .i64 0,.int .i64 0]∧w1.heap.size≤g13∧Arr W g14 29 [.int .i64 0,.slice none 0 0,.string ⟨#[]⟩]∧w1.heap.size≤g14∧g13≠g14) (fun W=>True) ?_ ?_ (fun wn2 hHeld2 hF _=> ?_)
      ·exact HSZ.out _ ((hB.trans (hba.mono hB.size)))
      ·exact⟨hB.trans (hba.mono hB.size),h13.below hba,h13l,hn,hnl,(fun e=>Nat.lt_irrefl _ (by have h1:=h13.lt;rw [e]at h1;exact Nat.lt_of_lt_of_le h1 (hN _ rfl)))⟩
      ·trivial
      clear h13l h13 hB hHeld;have hHeld:=hHeld2;clear hHeld2;obtain⟨hB,h13,h13l,h14,h14l,h1314n⟩:=hF;clear hba hn hnl hN;clear hK K
      try simp only [sqP]
      have hall:=And.intro hB (And.intro h13 (And.intro h13l (And.intro h14 (And.intro h14l (And.intro h1314n hHeld)))));clear hHeld h1314n h14l h14 h13l h13 hB;generalize wn2=wz at hall ⊢
      revert hall;revert wz;revert g14;revert g13;exact Re1.out
     exact z6.nil
    refine z6.cons (o:=_) rfl (fun K hK=> ?_) ?_
    ·
     have hba:=(Below.refl wn0.heap.size wn0).alloc (Nat.le_refl _) (.cells #[.int .i64 0,.slice none 0 0,.string ⟨#[]⟩] 29);have hn:=Arr.new wn0 29 [.int .i64 0,.slice none 0 0,.string ⟨#[]⟩];have hnl:w1.heap.size≤wn0.heap.size:=hB.size;obtain⟨g14,hge⟩:∃g,g=wn0.heap.size:=⟨_,rfl⟩
     have hN:∀b,b=g14→wn0.heap.size≤b:=fun b h=>by rw [h,hge];exact Nat.le_refl _
     rw [←hge]at hn hnl;go_simp;rw [←hge];clear hge;refine qI hK ?_ (fun W=>Below w1.heap.size w1 W∧Arr W g14 29 [.int .i64 0,.slice none 0 0,.string ⟨#[]⟩]∧w1.heap.size≤g14) (fun W=>True) ?_ ?_ (fun wn3 hHeld2 hF _=> ?_)
     ·exact HSZ.out _ ((hB.trans (hba.mono hB.size)))
     ·exact⟨hB.trans (hba.mono hB.size),hn,hnl⟩
     ·trivial
     clear hB hHeld;have hHeld:=hHeld2;clear hHeld2;obtain⟨hB,h14,h14l⟩:=hF;clear hba hn hnl hN;clear hK K
     try simp only [sqP]
     refine z7 (rs:= [2]) (by kernel_rfl) (by simp) ?_;refine z6.cons (o:=_) rfl (fun K hK=> ?_) ?_
     ·
      have hba:=(Below.refl wn3.heap.size wn3).alloc (Nat.le_refl _) (.cells #[.slice none 0 0,.slice none 0 0,.int .i64 0,.int .i64 0] 26);have hn:=Arr.new wn3 26 [.slice none 0 0,.slice none 0 0,.int .i64 0,.int .i64 0];have hnl:w1.heap.size≤wn3.heap.size:=hB.size;obtain⟨g13,hge⟩:∃g,g=wn3.heap.size:=⟨_,rfl⟩
      have hN:∀b,b=g13→wn3.heap.size≤b:=fun b h=>by rw [h,hge];exact Nat.le_refl _
      rw [←hge]at hn hnl;go_simp;rw [←hge];clear hge;refine qI hK ?_ (fun W=>Below w1.heap.size w1 W∧Arr W g13 26 [.slice none 0 0,.slice none 0 0,.int .i64 0,.int .i64 0]∧w1.heap.size≤g13∧Arr W g14 29 [.int .i64 0,.slice none 0 0,.string ⟨#[]⟩]∧w1.heap.size≤g14∧g13≠g14) (fun W=>True) ?_ ?_ (fun wn4 hHeld2 hF _=> ?_)
      ·exact HSZ.out _ ((hB.trans (hba.mono hB.size)))
      ·exact⟨hB.trans (hba.mono hB.size),hn,hnl,h14.below hba,h14l,(fun e=>Nat.lt_irrefl _ (by have h1:=h14.lt;rw [←e]at h1;exact Nat.lt_of_lt_of_le h1 (hN _ rfl)))⟩
      ·trivial
      clear h14l h14 hB hHeld;have hHeld:=hHeld2;clear hHeld2;obtain⟨hB,h13,h13l,h14,h14l,h1314n⟩:=hF;clear hba hn hnl hN;clear hK K
      try simp only [sqP]
      have hall:=And.intro hB (And.intro h13 (And.intro h13l (And.intro h14 (And.intro h14l (And.intro h1314n hHeld)))));clear hHeld h1314n h14l h14 h13l h13 hB;generalize wn4=wz at hall ⊢
      revert hall;revert wz;revert g14;revert g13;exact Re1.out
     exact z6.nil
    exact z6.nil;intro g13 g14 wRe1 hall;obtain⟨hB,h13,h13l,h14,h14l,h1314n,hHeld⟩:=hall;refine z7 (rs:= [4]) (by kernel_rfl) (by simp) ?_;refine z6.cons (o:=_) rfl (fun K hK=> ?_) ?_
    ·
     have z0:=h13.cell (k:=0) rfl;have f0:=h13.frozen 0;have z1:=h13.cell (k:=1) rfl;have f1:=h13.frozen 1;have z2:=h13.cell (k:=2) rfl;have f2:=h13.frozen 2;have z3:=h13.cell (k:=3) rfl;have f3:=h13.frozen 3;go_simp;clear z0 f0 z1 f1 z2 f2 z3 f3;refine qI hK ?_ (fun W=>Below w1.heap.size w1 W∧Arr W g13 26 [.slice X s.blobs.length cX,.slice Y s.ents.length dY,.int .i64 s.room,.int .i64 s.clock]∧w1.heap.size≤g13∧Arr W g14 29 [.int .i64 0,.slice none 0 0,.string ⟨#[]⟩]∧w1.heap.size≤g14∧g13≠g14) (fun W=>True) ?_ ?_ (fun wn5 hHeld2 hF _=> ?_)
     ·exact HSZ.out _ (((((hB).setCell (p:=⟨g13,0,none⟩) h13l _).setCell (p:=⟨g13,1,none⟩) h13l _).setCell (p:=⟨g13,2,none⟩) h13l _).setCell (p:=⟨g13,3,none⟩) h13l _)
     ·exact⟨((((hB).setCell (p:=⟨g13,0,none⟩) h13l _).setCell (p:=⟨g13,1,none⟩) h13l _).setCell (p:=⟨g13,2,none⟩) h13l _).setCell (p:=⟨g13,3,none⟩) h13l _,h13.all4 _ _ _ _,h13l,((((h14).other (h1314n.symm) _).other (h1314n.symm) _).other (h1314n.symm) _).other (h1314n.symm) _,h14l,h1314n⟩
     ·trivial
     clear h1314n h14l h14 h13l h13 hB hHeld;have hHeld:=hHeld2;clear hHeld2;obtain⟨hB,h13,h13l,h14,h14l,h1314n⟩:=hF
     skip
     clear hK K
     try simp only [sqP]
     refine z7 (rs:= [5]) (by kernel_rfl) (by simp) ?_;refine z6.store (o:=_) rfl (by rfl) (fun K hK=> ?_) ?_
     ·
      have z0:=h14.cell (k:=0) rfl;have f0:=h14.frozen 0;have z1:=h14.cell (k:=1) rfl;have f1:=h14.frozen 1;have z2:=h14.cell (k:=2) rfl;have f2:=h14.frozen 2;go_simp;clear z0 f0 z1 f1 z2 f2;refine vY hK (fun W=>Below w1.heap.size w1 W∧Arr W g13 26 [.slice X s.blobs.length cX,.slice Y s.ents.length dY,.int .i64 s.room,.int .i64 s.clock]∧w1.heap.size≤g13∧Arr W g14 29 [.int .i64 c.phase,.slice Ag c.grey.length ng,.string ⟨c.at_.toArray⟩]∧w1.heap.size≤g14∧g13≠g14) (fun W=>True) ?_ ?_ (fun wn6 hF _=> ?_)
      ·exact⟨(((hB).setCell (p:=⟨g14,0,none⟩) h14l _).setCell (p:=⟨g14,1,none⟩) h14l _).setCell (p:=⟨g14,2,none⟩) h14l _,(((h13).other (h1314n) _).other (h1314n) _).other (h1314n) _,h13l,h14.all3 _ _ _,h14l,h1314n⟩
      ·trivial
      clear h1314n h14l h14 h13l h13 hB hHeld;obtain⟨hB,h13,h13l,h14,h14l,h1314n⟩:=hF
      skip
      clear hK K
      try simp only [sqP]
      refine tkP 6 ?_
      try simp only [sqP]
      refine zB (by kernel_rfl) ?_ _
      try dsimp only [Exit.then]
      have hall:=And.intro hB (And.intro h13 (And.intro h13l (And.intro h14 (And.intro h14l h1314n))));clear h1314n h14l h14 h13l h13 hB;generalize wn6=wz at hall ⊢
      revert hall;revert wz;revert g14;revert g13;exact REST5.out
     exact z6.nil
    exact z6.nil;intro g13 g14 w2 hall;obtain⟨hB,h13,h13l,h14,h14l,h1314n⟩:=hall;have hrdd:∀W,Below w1.heap.size w1 W→RdSt W X cX Y dY s∧RdC W Ag ng c:=fun W h=>(HRW.out W h).rd (HWA.out W (HBW.out W h));have hsr:∀W,Below w1.heap.size w1 W→((W.cell? ⟨H,0,none⟩=some (.slice X s.blobs.length cX)∧W.cell? ⟨H,1,none⟩=some (.slice Y s.ents.length dY)∧W.cell? ⟨H,2,none⟩=some (.int .i64 s.room)∧W.cell? ⟨H,3,none⟩=some (.int .i64 s.clock))∧(W.cell? ⟨H+1,0,none⟩=some (.int .i64 c.phase)∧W.cell? ⟨H+1,1,none⟩=some (.slice Ag c.grey.length ng)∧W.cell? ⟨H+1,2,none⟩=some (.string ⟨c.at_.toArray⟩)))∧(W.cell? ⟨gr,0,none⟩=some (.int .i64 rk)∧W.cell? ⟨gr,1,none⟩=some (.int .i64 ra)∧W.cell? ⟨gr,2,none⟩=some (.int .i64 rb)∧W.cell? ⟨gr,3,none⟩=some (.string rt)):=fun W h =>
     ⟨HSZ.out W h,(HRB.out.below h).cell (k:=0) rfl,(HRB.out.below h).cell (k:=1) rfl,(HRB.out.below h).cell (k:=2) rfl,(HRB.out.below h).cell (k:=3) rfl⟩
    have HRD:=sqH hrdd;have HSR:=sqH hsr;clear hrdd hsr;have HPK:=sqH (fun W=>zQ rk 7 7 rfl W HRO.out.k0 HRO.out.k1 (by omega) (by omega));have hk7:pk rk 7<7:=kG rk (m:=7) (by omega);obtain⟨kk,hkk⟩:∃k,k=pk rk 7:=⟨_,rfl⟩
    rw [←hkk]at HPK hk7;clear hkk;have hq0:=(HRB.out.below hB).cell (k:=0) rfl;have HB12:=sqH hB;have H13:=sqH h13;have H14:=sqH h14;have HN:=sqH h1314n;have HL13:=sqH h13l;have HL14:=sqH h14l;clear hB h13 h14 h1314n h13l h14l;go_wp2_with fail;refine(HPK.out _).mono ?_;rintro e_ w_ ⟨rfl,rfl⟩;dsimp only;clear hq0;go_upto_block 2 with fail;go_cut [15] from 27 to 118 (fun e wc=>Below w1.heap.size w1 wc∧((e= .int .i64 0∧∃(X':Option Addr) (cX':Nat) (Y':Option Addr) (dY':Nat) (s':StoP) (Ag':Option Addr) (ng':Nat) (c':ColP),Arr wc g13 26 [.slice X' s'.blobs.length cX',.slice Y' s'.ents.length dY',.int .i64 s'.room,.int .i64 s'.clock]∧Arr wc g14 29 [.int .i64 c'.phase,.slice Ag' c'.grey.length ng',.string ⟨c'.at_.toArray⟩]∧Rws wA wc (fun b=>b<w0.heap.size) X' cX' Y' dY' s' Ag' ng' c'∧Bsy (i+1) s' c')∨∃q:Int,e= .int .i64 q∧(q=7∨q=11∨q=1)))
    case first =>
     by_cases k0:kk=0
     ·subst k0;have HW01:=sqH hw01;obtain⟨D,hD⟩:∃D,D=Vl ⟨rk,ra,rb,rt⟩ 40:=⟨_,rfl⟩
      have hDl:D.length≤40:=by rw [hD];exact jq _ 40
      have hdt:=fun W=>KQ ⟨rk,ra,rb,rt⟩ 40 40 rfl (by omega) HRO.out W;rw [←hD]at hdt;unfold z0i at hdt;have HDT:=sqH hdt;clear hD hdt;rcases Xj HBY.out.g (show D.length≤300 by omega) with hf | hf
      ·obtain⟨t,c1,htc⟩:∃t c1,zw (zx s D) c [shaS D]=(t,c1):=⟨_,_,rfl⟩
       have hbs:Bsy (i+1) t c1:=by have:=HBY.out.put hf;rw [htc]at this;exact this
       have hpb:=fun W A3 c3 (h:Below w1.heap.size w1 W) (hz:qT W w1.heap.size A3 c3 D)=>QD X cX Y dY s Ag ng c D A3 c3 W i hi31 HBY.out (HRD.out W h).1 (HRD.out W h).2 hf hz.sl.1 t c1 htc;have HBS:=sqH hbs;have HPB:=sqH hpb;clear hbs hpb htc hf;go_wp2_with fail;apply k6;intro REST11;refine zk [10,11] (S:=(fun w'=>((w'.cell? ⟨H,0,none⟩=some (.slice X s.blobs.length cX)∧w'.cell? ⟨H,1,none⟩=some (.slice Y s.ents.length dY)∧w'.cell? ⟨H,2,none⟩=some (.int .i64 s.room)∧w'.cell? ⟨H,3,none⟩=some (.int .i64 s.clock))∧(w'.cell? ⟨H+1,0,none⟩=some (.int .i64 c.phase)∧w'.cell? ⟨H+1,1,none⟩=some (.slice Ag c.grey.length ng)∧w'.cell? ⟨H+1,2,none⟩=some (.string ⟨c.at_.toArray⟩)))∧(w'.cell? ⟨gr,0,none⟩=some (.int .i64 rk)∧w'.cell? ⟨gr,1,none⟩=some (.int .i64 ra)∧w'.cell? ⟨gr,2,none⟩=some (.int .i64 rb)∧w'.cell? ⟨gr,3,none⟩=some (.string rt)))) (by kernel_rfl) ?_ (fun hHeld=> ?_)
       ·exact HSR.out _ ((HB12.out).drew)
       have hB:=(HB12.out).drew;have h13:=H13.out.below (Below.refl w2.heap.size w2).drew;have h13l:=HL13.out;have h14:=H14.out.below (Below.refl w2.heap.size w2).drew;have h14l:=HL14.out;have h1314n:=HN.out;generalize w2.drew=wn0 at *
       refine tkU 0 ?_
       try simp only [sqP]
       refine tkU 1 ?_
       try simp only [sqP]
       refine tkU 2 ?_
       try simp only [sqP]
       refine z7 (rs:= [3]) (by kernel_rfl) (by simp) ?_;refine z6.cons (o:=_) rfl (fun K hK=> ?_) ?_
       ·
        go_simp;refine(HDT.out wn0).mono ?_;rintro e5 w5 ⟨A3,c3,rfl,hz5,hb5⟩;dsimp only;refine qI hK ?_ (fun W=>Below w1.heap.size w1 W∧Arr W g13 26 [.slice X s.blobs.length cX,.slice Y s.ents.length dY,.int .i64 s.room,.int .i64 s.clock]∧w1.heap.size≤g13∧Arr W g14 29 [.int .i64 c.phase,.slice Ag c.grey.length ng,.string ⟨c.at_.toArray⟩]∧w1.heap.size≤g14∧g13≠g14∧qT W w1.heap.size A3 c3 D) (fun W=>True) ?_ ?_ (fun wn1 hHeld2 hF _=> ?_)
        ·exact HSR.out _ ((hB.trans (hb5.mono hB.size)))
        ·exact⟨hB.trans (hb5.mono hB.size),h13.below hb5,h13l,h14.below hb5,h14l,h1314n,hz5.lower hB.size⟩
        ·trivial
        clear h1314n h14l h14 h13l h13 hB hHeld;have hHeld:=hHeld2;clear hHeld2;obtain⟨hB,h13,h13l,h14,h14l,h1314n,hD⟩:=hF;clear hb5 hz5;clear hK K
        try simp only [sqP]
        refine z7 (rs:= [4]) (by kernel_rfl) (by simp) ?_;refine z6.cons (o:=_) rfl (fun K hK=> ?_) ?_
        ·
         go_simp;refine(HPB.out wn1 A3 c3 hB hD).mono ?_;rintro e5 w5 ⟨Xa,ca,Ya,da,Ga,na,rfl,ho5,hl5,hb5⟩;dsimp only;refine qI hK ?_ (fun W=>Below w1.heap.size w1 W∧Arr W g13 26 [.slice X s.blobs.length cX,.slice Y s.ents.length dY,.int .i64 s.room,.int .i64 s.clock]∧w1.heap.size≤g13∧Arr W g14 29 [.int .i64 c.phase,.slice Ag c.grey.length ng,.string ⟨c.at_.toArray⟩]∧w1.heap.size≤g14∧g13≠g14∧OwSt W 0 (.slice Xa t.blobs.length ca) (.slice Ya t.ents.length da) t (fun b=>b<w0.heap.size∨b=g13∨b=g14)∧W.ownsRow 0 9 1 (.slice Ga c1.grey.length na) c1.grey.length (strs c1.grey)) (fun W=>True) ?_ ?_ (fun wn2 hHeld2 hF _=> ?_)
         ·exact HSR.out _ ((hB.trans (hb5.mono hB.size)))
         ·exact⟨hB.trans (hb5.mono hB.size),h13.below hb5,h13l,h14.below hb5,h14l,h1314n,(ho5.lower (base':=0) (Nat.zero_le _)).mono (N':=(fun b=>b<w0.heap.size∨b=g13∨b=g14)) (fun b hb=>hb.elim (fun hb=>Nat.lt_of_lt_of_le hb (Nat.le_trans HW01.out hB.size)) (fun hb=>hb.elim (fun hb=>by rw [hb];exact h13.lt) (fun hb=>(by rw [hb];exact h14.lt)))),ze hl5 (Nat.zero_le _)⟩
         ·trivial
         clear hD h1314n h14l h14 h13l h13 hB hHeld;have hHeld:=hHeld2;clear hHeld2;obtain⟨hB,h13,h13l,h14,h14l,h1314n,ho,hl⟩:=hF;clear hb5 ho5 hl5;clear hK K
         try simp only [sqP]
         refine tkP 5 ?_
         try simp only [sqP]
         refine tkP 6 ?_
         try simp only [sqP]
         refine tkP 7 ?_
         try simp only [sqP]
         refine tkP 8 ?_
         try simp only [sqP]
         refine tkP 9 ?_
         try simp only [sqP]
         refine z7 (rs:= [10]) (by kernel_rfl) (by simp) ?_;refine z6.store (o:=_) rfl (by rfl) (fun K hK=> ?_) ?_
         ·
          have hqho:=ho.nb h13 (by decide) (by decide);have hqhl:=zg hl h13 (by decide);have z0:=h13.cell (k:=0) rfl;have f0:=h13.frozen 0;have z1:=h13.cell (k:=1) rfl;have f1:=h13.frozen 1;have z2:=h13.cell (k:=2) rfl;have f2:=h13.frozen 2;have z3:=h13.cell (k:=3) rfl;have f3:=h13.frozen 3;go_simp;clear z0 f0 z1 f1 z2 f2 z3 f3;refine vY hK (fun W=>Below w1.heap.size w1 W∧Arr W g13 26 [(.slice Xa t.blobs.length ca),(.slice Ya t.ents.length da),.int .i64 t.room,.int .i64 t.clock]∧w1.heap.size≤g13∧Arr W g14 29 [.int .i64 c.phase,.slice Ag c.grey.length ng,.string ⟨c.at_.toArray⟩]∧w1.heap.size≤g14∧g13≠g14∧OwSt W 0 (.slice Xa t.blobs.length ca) (.slice Ya t.ents.length da) t (fun b=>b<w0.heap.size∨b=g13∨b=g14)∧W.ownsRow 0 9 1 (.slice Ga c1.grey.length na) c1.grey.length (strs c1.grey)) (fun W=>True) ?_ ?_ (fun wn3 hF _=> ?_)
          ·exact⟨((((hB).setCell (p:=⟨g13,0,none⟩) h13l _).setCell (p:=⟨g13,1,none⟩) h13l _).setCell (p:=⟨g13,2,none⟩) h13l _).setCell (p:=⟨g13,3,none⟩) h13l _,h13.all4 _ _ _ _,h13l,((((h14).other (h1314n.symm) _).other (h1314n.symm) _).other (h1314n.symm) _).other (h1314n.symm) _,h14l,h1314n,ho.set4N (.inr (.inl rfl)) hqho.1 hqho.2 _ _ _ _,qc hl hqhl _ _ _ _⟩
          ·trivial
          clear hl ho h1314n h14l h14 h13l h13 hB hHeld;obtain⟨hB,h13,h13l,h14,h14l,h1314n,ho,hl⟩:=hF;clear hqho hqhl;clear hK K
          try simp only [sqP]
          refine z7 (rs:= [11]) (by kernel_rfl) (by simp) ?_;refine z6.store (o:=_) rfl (by rfl) (fun K hK=> ?_) ?_
          ·
           have hqho:=ho.nb h14 (by decide) (by decide);have hqhl:=zg hl h14 (by decide);have z0:=h14.cell (k:=0) rfl;have f0:=h14.frozen 0;have z1:=h14.cell (k:=1) rfl;have f1:=h14.frozen 1;have z2:=h14.cell (k:=2) rfl;have f2:=h14.frozen 2;go_simp;clear z0 f0 z1 f1 z2 f2;refine vY hK (fun W=>Below w1.heap.size w1 W∧Arr W g13 26 [(.slice Xa t.blobs.length ca),(.slice Ya t.ents.length da),.int .i64 t.room,.int .i64 t.clock]∧w1.heap.size≤g13∧Arr W g14 29 [.int .i64 c1.phase,(.slice Ga c1.grey.length na),.string ⟨c1.at_.toArray⟩]∧w1.heap.size≤g14∧g13≠g14∧OwSt W 0 (.slice Xa t.blobs.length ca) (.slice Ya t.ents.length da) t (fun b=>b<w0.heap.size∨b=g13∨b=g14)∧W.ownsRow 0 9 1 (.slice Ga c1.grey.length na) c1.grey.length (strs c1.grey)) (fun W=>True) ?_ ?_ (fun wn4 hF _=> ?_)
           ·exact⟨(((hB).setCell (p:=⟨g14,0,none⟩) h14l _).setCell (p:=⟨g14,1,none⟩) h14l _).setCell (p:=⟨g14,2,none⟩) h14l _,(((h13).other (h1314n) _).other (h1314n) _).other (h1314n) _,h13l,h14.all3 _ _ _,h14l,h1314n,ho.set3N (.inr (.inr rfl)) hqho.1 hqho.2 _ _ _,qx hl hqhl _ _ _⟩
           ·trivial
           clear hl ho h1314n h14l h14 h13l h13 hB;obtain⟨hB,h13,h13l,h14,h14l,h1314n,ho,hl⟩:=hF;clear hqho hqhl;clear hK K
           try simp only [sqP]
           refine tkP 12 ?_
           try simp only [sqP]
           refine zB (by kernel_rfl) ?_ _
           try dsimp only [Exit.then]
           have hall:=And.intro hB (And.intro h13 (And.intro h13l (And.intro h14 (And.intro h14l (And.intro h1314n (And.intro ho hl))))));clear hl ho h1314n h14l h14 h13l h13 hB;generalize wn4=wz at hall ⊢
           revert hall;revert wz;revert na;revert Ga;revert da;revert Ya;revert ca;revert Xa;revert c3;revert A3;exact REST11.out
          exact z6.nil
         exact z6.nil
        exact z6.nil
       exact z6.nil;intro A3 c3 Xa ca Ya da Ga na w5 hall;obtain⟨hB,h13,h13l,h14,h14l,h1314n,ho,hl⟩:=hall;go_wp2_with fail;go_meet;refine⟨hB,.inl ⟨rfl,Xa,ca,Ya,da,t,Ga,na,c1,h13,h14,.inl ⟨ho.mono (fun b hb=> .inl hb),hl⟩,HBS.out⟩⟩
      ·have hpb:=fun W A3 c3 (h:Below w1.heap.size w1 W) (hz:qT W w1.heap.size A3 c3 D)=>xm X cX Y dY s Ag ng c D A3 c3 W HBY.out.g (HRD.out W h).1 (by have:=HBY.out.gr;omega) HBY.out.gc (HRD.out W h).2 (by omega) hf hz.sl.1;have HPB:=sqH hpb;clear hpb hf;go_wp2_with fail;apply k6;intro REST11;refine zk [10,11] (S:=(fun w'=>((w'.cell? ⟨H,0,none⟩=some (.slice X s.blobs.length cX)∧w'.cell? ⟨H,1,none⟩=some (.slice Y s.ents.length dY)∧w'.cell? ⟨H,2,none⟩=some (.int .i64 s.room)∧w'.cell? ⟨H,3,none⟩=some (.int .i64 s.clock))∧(w'.cell? ⟨H+1,0,none⟩=some (.int .i64 c.phase)∧w'.cell? ⟨H+1,1,none⟩=some (.slice Ag c.grey.length ng)∧w'.cell? ⟨H+1,2,none⟩=some (.string ⟨c.at_.toArray⟩)))∧(w'.cell? ⟨gr,0,none⟩=some (.int .i64 rk)∧w'.cell? ⟨gr,1,none⟩=some (.int .i64 ra)∧w'.cell? ⟨gr,2,none⟩=some (.int .i64 rb)∧w'.cell? ⟨gr,3,none⟩=some (.string rt)))) (by kernel_rfl) ?_ (fun hHeld=> ?_)
       ·exact HSR.out _ ((HB12.out).drew)
       have hB:=(HB12.out).drew;have h13:=H13.out.below (Below.refl w2.heap.size w2).drew;have h13l:=HL13.out;have h14:=H14.out.below (Below.refl w2.heap.size w2).drew;have h14l:=HL14.out;have h1314n:=HN.out;generalize w2.drew=wn0 at *
       refine tkU 0 ?_
       try simp only [sqP]
       refine tkU 1 ?_
       try simp only [sqP]
       refine tkU 2 ?_
       try simp only [sqP]
       refine z7 (rs:= [3]) (by kernel_rfl) (by simp) ?_;refine z6.cons (o:=_) rfl (fun K hK=> ?_) ?_
       ·
        go_simp;refine(HDT.out wn0).mono ?_;rintro e5 w5 ⟨A3,c3,rfl,hz5,hb5⟩;dsimp only;refine qI hK ?_ (fun W=>Below w1.heap.size w1 W∧Arr W g13 26 [.slice X s.blobs.length cX,.slice Y s.ents.length dY,.int .i64 s.room,.int .i64 s.clock]∧w1.heap.size≤g13∧Arr W g14 29 [.int .i64 c.phase,.slice Ag c.grey.length ng,.string ⟨c.at_.toArray⟩]∧w1.heap.size≤g14∧g13≠g14∧qT W w1.heap.size A3 c3 D) (fun W=>True) ?_ ?_ (fun wn1 hHeld2 hF _=> ?_)
        ·exact HSR.out _ ((hB.trans (hb5.mono hB.size)))
        ·exact⟨hB.trans (hb5.mono hB.size),h13.below hb5,h13l,h14.below hb5,h14l,h1314n,hz5.lower hB.size⟩
        ·trivial
        clear h1314n h14l h14 h13l h13 hB hHeld;have hHeld:=hHeld2;clear hHeld2;obtain⟨hB,h13,h13l,h14,h14l,h1314n,hD⟩:=hF;clear hb5 hz5;clear hK K
        try simp only [sqP]
        refine z7 (rs:= [4]) (by kernel_rfl) (by simp) ?_;refine z6.cons (o:=_) rfl (fun K hK=> ?_) ?_
        ·
         go_simp;refine(HPB.out wn1 A3 c3 hB hD).mono ?_;rintro e5 w5 ⟨rfl,hb5⟩;dsimp only;refine qI hK ?_ (fun W=>Below w1.heap.size w1 W∧Arr W g13 26 [.slice X s.blobs.length cX,.slice Y s.ents.length dY,.int .i64 s.room,.int .i64 s.clock]∧w1.heap.size≤g13∧Arr W g14 29 [.int .i64 c.phase,.slice Ag c.grey.length ng,.string ⟨c.at_.toArray⟩]∧w1.heap.size≤g14∧g13≠g14) (fun W=>True) ?_ ?_ (fun wn2 hHeld2 hF _=> ?_)
         ·exact HSR.out _ ((hB.trans (hb5.mono hB.size)))
         ·exact⟨hB.trans (hb5.mono hB.size),h13.below hb5,h13l,h14.below hb5,h14l,h1314n⟩
         ·trivial
         clear hD h1314n h14l h14 h13l h13 hB hHeld;have hHeld:=hHeld2;clear hHeld2;obtain⟨hB,h13,h13l,h14,h14l,h1314n⟩:=hF;clear hb5;clear hK K
         try simp only [sqP]
         refine tkP 5 ?_
         try simp only [sqP]
         refine tkP 6 ?_
         try simp only [sqP]
         refine tkP 7 ?_
         try simp only [sqP]
         refine tkP 8 ?_
         try simp only [sqP]
         refine tkP 9 ?_
         try simp only [sqP]
         refine z7 (rs:= [10]) (by kernel_rfl) (by simp) ?_;refine z6.store (o:=_) rfl (by rfl) (fun K hK=> ?_) ?_
         ·
          have z0:=h13.cell (k:=0) rfl;have f0:=h13.frozen 0;have z1:=h13.cell (k:=1) rfl;have f1:=h13.frozen 1;have z2:=h13.cell (k:=2) rfl;have f2:=h13.frozen 2;have z3:=h13.cell (k:=3) rfl;have f3:=h13.frozen 3;go_simp;clear z0 f0 z1 f1 z2 f2 z3 f3;refine vY hK (fun W=>Below w1.heap.size w1 W∧Arr W g13 26 [.slice none 0 0,.slice none 0 0,.int .i64 0,.int .i64 0]∧w1.heap.size≤g13∧Arr W g14 29 [.int .i64 c.phase,.slice Ag c.grey.length ng,.string ⟨c.at_.toArray⟩]∧w1.heap.size≤g14∧g13≠g14) (fun W=>True) ?_ ?_ (fun wn3 hF _=> ?_)
          ·exact⟨((((hB).setCell (p:=⟨g13,0,none⟩) h13l _).setCell (p:=⟨g13,1,none⟩) h13l _).setCell (p:=⟨g13,2,none⟩) h13l _).setCell (p:=⟨g13,3,none⟩) h13l _,h13.all4 _ _ _ _,h13l,((((h14).other (h1314n.symm) _).other (h1314n.symm) _).other (h1314n.symm) _).other (h1314n.symm) _,h14l,h1314n⟩
          ·trivial
          clear h1314n h14l h14 h13l h13 hB hHeld;obtain⟨hB,h13,h13l,h14,h14l,h1314n⟩:=hF
          skip
          clear hK K
          try simp only [sqP]
          refine z7 (rs:= [11]) (by kernel_rfl) (by simp) ?_;refine z6.store (o:=_) rfl (by rfl) (fun K hK=> ?_) ?_
          ·
           have z0:=h14.cell (k:=0) rfl;have f0:=h14.frozen 0;have z1:=h14.cell (k:=1) rfl;have f1:=h14.frozen 1;have z2:=h14.cell (k:=2) rfl;have f2:=h14.frozen 2;go_simp;clear z0 f0 z1 f1 z2 f2;refine vY hK (fun W=>Below w1.heap.size w1 W∧Arr W g13 26 [.slice none 0 0,.slice none 0 0,.int .i64 0,.int .i64 0]∧w1.heap.size≤g13∧Arr W g14 29 [.int .i64 0,.slice none 0 0,.string ⟨#[]⟩]∧w1.heap.size≤g14∧g13≠g14) (fun W=>True) ?_ ?_ (fun wn4 hF _=> ?_)
           ·exact⟨(((hB).setCell (p:=⟨g14,0,none⟩) h14l _).setCell (p:=⟨g14,1,none⟩) h14l _).setCell (p:=⟨g14,2,none⟩) h14l _,(((h13).other (h1314n) _).other (h1314n) _).other (h1314n) _,h13l,h14.all3 _ _ _,h14l,h1314n⟩
           ·trivial
           clear h1314n h14l h14 h13l h13 hB;obtain⟨hB,h13,h13l,h14,h14l,h1314n⟩:=hF
           skip
           clear hK K
           try simp only [sqP]
           refine tkP 12 ?_
           try simp only [sqP]
           refine zB (by kernel_rfl) ?_ _
           try dsimp only [Exit.then]
           have hall:=And.intro hB (And.intro h13 (And.intro h13l (And.intro h14 (And.intro h14l h1314n))));clear h1314n h14l h14 h13l h13 hB;generalize wn4=wz at hall ⊢
           revert hall;revert wz;revert c3;revert A3;exact REST11.out
          exact z6.nil
         exact z6.nil
        exact z6.nil
       exact z6.nil;intro A3 c3 w5 hall;obtain⟨hB,h13,h13l,h14,h14l,h1314n⟩:=hall;go_wp2_with fail;go_meet;exact⟨hB,.inr ⟨_,rfl,.inl rfl⟩⟩
     by_cases k1:kk=1
     ·subst k1;have HW01:=sqH hw01;obtain⟨ps,hps⟩:∃ps,ps=zA s.blobs ⟨rk,ra,rb,rt⟩:=⟨_,rfl⟩
      have hcz:chk ps=0:=by rw [hps];exact vH (fun b hb=>⟨by rw [(HBY.out.g.b.one b hb).1];exact zu _,(HBY.out.g.b.one b hb).2.1⟩) _
      have hen:(enc ps).length≤148:=z0b hcz (by rw [hps];exact ul _ _);have hpt:=fun W (h:Below w1.heap.size w1 W)=>Qd X cX s.blobs ⟨rk,ra,rb,rt⟩ W HBY.out.g.b (HRD.out W h).1.bc (HRD.out W h).1.bm (HRD.out W h).1.b HRO.out;rw [←hps]at hpt;obtain⟨D,hD⟩:∃D,D=enc ps:=⟨_,rfl⟩
      have hmn:=fun W P3 p3 (h:Sl W 3 P3 ps.length p3 (pcs ps))=>yE P3 ps.length p3 ps W rfl (by have:=(zj hcz).1;omega) (UN hcz) h.rd;rw [←hD]at hmn hen;have HPT:=sqH hpt;have HMN:=sqH hmn;clear hD hmn hpt hcz;have HPS:=sqH hps;clear hps;rcases Xj HBY.out.g (show D.length≤300 by omega) with hf | hf
      ·obtain⟨t,c1,htc⟩:∃t c1,zw (zx s D) c [shaS D]=(t,c1):=⟨_,_,rfl⟩
       have hbs:Bsy (i+1) t c1:=by have:=HBY.out.put hf;rw [htc]at this;exact this
       have hpb:=fun W A3 c3 (h:Below w1.heap.size w1 W) (hz:qT W w1.heap.size A3 c3 D)=>QD X cX Y dY s Ag ng c D A3 c3 W i hi31 HBY.out (HRD.out W h).1 (HRD.out W h).2 hf hz.sl.1 t c1 htc;have HBS:=sqH hbs;have HPB:=sqH hpb;clear hbs hpb htc hf;go_wp2_with fail;apply k6;intro REST13;refine zk [13,14] (S:=(fun w'=>((w'.cell? ⟨H,0,none⟩=some (.slice X s.blobs.length cX)∧w'.cell? ⟨H,1,none⟩=some (.slice Y s.ents.length dY)∧w'.cell? ⟨H,2,none⟩=some (.int .i64 s.room)∧w'.cell? ⟨H,3,none⟩=some (.int .i64 s.clock))∧(w'.cell? ⟨H+1,0,none⟩=some (.int .i64 c.phase)∧w'.cell? ⟨H+1,1,none⟩=some (.slice Ag c.grey.length ng)∧w'.cell? ⟨H+1,2,none⟩=some (.string ⟨c.at_.toArray⟩)))∧(w'.cell? ⟨gr,0,none⟩=some (.int .i64 rk)∧w'.cell? ⟨gr,1,none⟩=some (.int .i64 ra)∧w'.cell? ⟨gr,2,none⟩=some (.int .i64 rb)∧w'.cell? ⟨gr,3,none⟩=some (.string rt)))) (by kernel_rfl) ?_ (fun hHeld=> ?_)
       ·exact HSR.out _ ((HB12.out).drew)
       have hB:=(HB12.out).drew;have h13:=H13.out.below (Below.refl w2.heap.size w2).drew;have h13l:=HL13.out;have h14:=H14.out.below (Below.refl w2.heap.size w2).drew;have h14l:=HL14.out;have h1314n:=HN.out;generalize w2.drew=wn0 at *
       refine tkU 0 ?_
       try simp only [sqP]
       refine tkU 1 ?_
       try simp only [sqP]
       refine tkP 2 ?_
       try simp only [sqP]
       refine tkU 3 ?_
       try simp only [sqP]
       refine tkU 4 ?_
       try simp only [sqP]
       refine z7 (rs:= [5]) (by kernel_rfl) (by simp) ?_;refine z6.cons (o:=_) rfl (fun K hK=> ?_) ?_
       ·
        go_simp;refine(HPT.out wn0 hB).mono ?_;rintro e5 w5 ⟨P3,p3,rfl,hz5,hb5⟩;dsimp only;refine qI hK ?_ (fun W=>Below w1.heap.size w1 W∧Arr W g13 26 [.slice X s.blobs.length cX,.slice Y s.ents.length dY,.int .i64 s.room,.int .i64 s.clock]∧w1.heap.size≤g13∧Arr W g14 29 [.int .i64 c.phase,.slice Ag c.grey.length ng,.string ⟨c.at_.toArray⟩]∧w1.heap.size≤g14∧g13≠g14∧Sl W 3 P3 ps.length p3 (pcs ps)) (fun W=>True) ?_ ?_ (fun wn1 hHeld2 hF _=> ?_)
        ·exact HSR.out _ ((hB.trans (hb5.mono hB.size)))
        ·exact⟨hB.trans (hb5.mono hB.size),h13.below hb5,h13l,h14.below hb5,h14l,h1314n,hz5⟩
        ·trivial
        clear h1314n h14l h14 h13l h13 hB hHeld;have hHeld:=hHeld2;clear hHeld2;obtain⟨hB,h13,h13l,h14,h14l,h1314n,hP⟩:=hF;clear hb5 hz5;clear hK K
        try simp only [sqP]
        refine z7 (rs:= [6]) (by kernel_rfl) (by simp) ?_;refine z6.cons (o:=_) rfl (fun K hK=> ?_) ?_
        ·
         go_simp;refine(HMN.out wn1 P3 p3 hP).mono ?_;rintro e5 w5 ⟨A3,c3,rfl,hz5,hb5⟩;dsimp only;refine qI hK ?_ (fun W=>Below w1.heap.size w1 W∧Arr W g13 26 [.slice X s.blobs.length cX,.slice Y s.ents.length dY,.int .i64 s.room,.int .i64 s.clock]∧w1.heap.size≤g13∧Arr W g14 29 [.int .i64 c.phase,.slice Ag c.grey.length ng,.string ⟨c.at_.toArray⟩]∧w1.heap.size≤g14∧g13≠g14∧qT W w1.heap.size A3 c3 D) (fun W=>True) ?_ ?_ (fun wn2 hHeld2 hF _=> ?_)
         ·exact HSR.out _ ((hB.trans (hb5.mono hB.size)))
         ·exact⟨hB.trans (hb5.mono hB.size),h13.below hb5,h13l,h14.below hb5,h14l,h1314n,hz5.lower hB.size⟩
         ·trivial
         clear hP h1314n h14l h14 h13l h13 hB hHeld;have hHeld:=hHeld2;clear hHeld2;obtain⟨hB,h13,h13l,h14,h14l,h1314n,hD⟩:=hF;clear hb5 hz5;clear hK K
         try simp only [sqP]
         refine z7 (rs:= [7]) (by kernel_rfl) (by simp) ?_;refine z6.cons (o:=_) rfl (fun K hK=> ?_) ?_
         ·
          go_simp;refine(HPB.out wn2 A3 c3 hB hD).mono ?_;rintro e5 w5 ⟨Xa,ca,Ya,da,Ga,na,rfl,ho5,hl5,hb5⟩;dsimp only;refine qI hK ?_ (fun W=>Below w1.heap.size w1 W∧Arr W g13 26 [.slice X s.blobs.length cX,.slice Y s.ents.length dY,.int .i64 s.room,.int .i64 s.clock]∧w1.heap.size≤g13∧Arr W g14 29 [.int .i64 c.phase,.slice Ag c.grey.length ng,.string ⟨c.at_.toArray⟩]∧w1.heap.size≤g14∧g13≠g14∧OwSt W 0 (.slice Xa t.blobs.length ca) (.slice Ya t.ents.length da) t (fun b=>b<w0.heap.size∨b=g13∨b=g14)∧W.ownsRow 0 9 1 (.slice Ga c1.grey.length na) c1.grey.length (strs c1.grey)) (fun W=>True) ?_ ?_ (fun wn3 hHeld2 hF _=> ?_)
          ·exact HSR.out _ ((hB.trans (hb5.mono hB.size)))
          ·exact⟨hB.trans (hb5.mono hB.size),h13.below hb5,h13l,h14.below hb5,h14l,h1314n,(ho5.lower (base':=0) (Nat.zero_le _)).mono (N':=(fun b=>b<w0.heap.size∨b=g13∨b=g14)) (fun b hb=>hb.elim (fun hb=>Nat.lt_of_lt_of_le hb (Nat.le_trans HW01.out hB.size)) (fun hb=>hb.elim (fun hb=>by rw [hb];exact h13.lt) (fun hb=>(by rw [hb];exact h14.lt)))),ze hl5 (Nat.zero_le _)⟩
          ·trivial
          clear hD h1314n h14l h14 h13l h13 hB hHeld;have hHeld:=hHeld2;clear hHeld2;obtain⟨hB,h13,h13l,h14,h14l,h1314n,ho,hl⟩:=hF;clear hb5 ho5 hl5;clear hK K
          try simp only [sqP]
          refine tkP 8 ?_
          try simp only [sqP]
          refine tkP 9 ?_
          try simp only [sqP]
          refine tkP 10 ?_
          try simp only [sqP]
          refine tkP 11 ?_
          try simp only [sqP]
          refine tkP 12 ?_
          try simp only [sqP]
          refine z7 (rs:= [13]) (by kernel_rfl) (by simp) ?_;refine z6.store (o:=_) rfl (by rfl) (fun K hK=> ?_) ?_
          ·
           have hqho:=ho.nb h13 (by decide) (by decide);have hqhl:=zg hl h13 (by decide);have z0:=h13.cell (k:=0) rfl;have f0:=h13.frozen 0;have z1:=h13.cell (k:=1) rfl;have f1:=h13.frozen 1;have z2:=h13.cell (k:=2) rfl;have f2:=h13.frozen 2;have z3:=h13.cell (k:=3) rfl;have f3:=h13.frozen 3;go_simp;clear z0 f0 z1 f1 z2 f2 z3 f3;refine vY hK (fun W=>Below w1.heap.size w1 W∧Arr W g13 26 [(.slice Xa t.blobs.length ca),(.slice Ya t.ents.length da),.int .i64 t.room,.int .i64 t.clock]∧w1.heap.size≤g13∧Arr W g14 29 [.int .i64 c.phase,.slice Ag c.grey.length ng,.string ⟨c.at_.toArray⟩]∧w1.heap.size≤g14∧g13≠g14∧OwSt W 0 (.slice Xa t.blobs.length ca) (.slice Ya t.ents.length da) t (fun b=>b<w0.heap.size∨b=g13∨b=g14)∧W.ownsRow 0 9 1 (.slice Ga c1.grey.length na) c1.grey.length (strs c1.grey)) (fun W=>True) ?_ ?_ (fun wn4 hF _=> ?_)
           ·exact⟨((((hB).setCell (p:=⟨g13,0,none⟩) h13l _).setCell (p:=⟨g13,1,none⟩) h13l _).setCell (p:=⟨g13,2,none⟩) h13l _).setCell (p:=⟨g13,3,none⟩) h13l _,h13.all4 _ _ _ _,h13l,((((h14).other (h1314n.symm) _).other (h1314n.symm) _).other (h1314n.symm) _).other (h1314n.symm) _,h14l,h1314n,ho.set4N (.inr (.inl rfl)) hqho.1 hqho.2 _ _ _ _,qc hl hqhl _ _ _ _⟩
           ·trivial
           clear hl ho h1314n h14l h14 h13l h13 hB hHeld;obtain⟨hB,h13,h13l,h14,h14l,h1314n,ho,hl⟩:=hF;clear hqho hqhl;clear hK K
           try simp only [sqP]
           refine z7 (rs:= [14]) (by kernel_rfl) (by simp) ?_;refine z6.store (o:=_) rfl (by rfl) (fun K hK=> ?_) ?_
           ·
            have hqho:=ho.nb h14 (by decide) (by decide);have hqhl:=zg hl h14 (by decide);have z0:=h14.cell (k:=0) rfl;have f0:=h14.frozen 0;have z1:=h14.cell (k:=1) rfl;have f1:=h14.frozen 1;have z2:=h14.cell (k:=2) rfl;have f2:=h14.frozen 2;go_simp;clear z0 f0 z1 f1 z2 f2;refine vY hK (fun W=>Below w1.heap.size w1 W∧Arr W g13 26 [(.slice Xa t.blobs.length ca),(.slice Ya t.ents.length da),.int .i64 t.room,.int .i64 t.clock]∧w1.heap.size≤g13∧Arr W g14 29 [.int .i64 c1.phase,(.slice Ga c1.grey.length na),.string ⟨c1.at_.toArray⟩]∧w1.heap.size≤g14∧g13≠g14∧OwSt W 0 (.slice Xa t.blobs.length ca) (.slice Ya t.ents.length da) t (fun b=>b<w0.heap.size∨b=g13∨b=g14)∧W.ownsRow 0 9 1 (.slice Ga c1.grey.length na) c1.grey.length (strs c1.grey)) (fun W=>True) ?_ ?_ (fun wn5 hF _=> ?_)
            ·exact⟨(((hB).setCell (p:=⟨g14,0,none⟩) h14l _).setCell (p:=⟨g14,1,none⟩) h14l _).setCell (p:=⟨g14,2,none⟩) h14l _,(((h13).other (h1314n) _).other (h1314n) _).other (h1314n) _,h13l,h14.all3 _ _ _,h14l,h1314n,ho.set3N (.inr (.inr rfl)) hqho.1 hqho.2 _ _ _,qx hl hqhl _ _ _⟩
            ·trivial
            clear hl ho h1314n h14l h14 h13l h13 hB;obtain⟨hB,h13,h13l,h14,h14l,h1314n,ho,hl⟩:=hF;clear hqho hqhl;clear hK K
            try simp only [sqP]
            refine tkP 15 ?_
            try simp only [sqP]
            refine zB (by kernel_rfl) ?_ _
            try dsimp only [Exit.then]
            have hall:=And.intro hB (And.intro h13 (And.intro h13l (And.intro h14 (And.intro h14l (And.intro h1314n (And.intro ho hl))))));clear hl ho h1314n h14l h14 h13l h13 hB;generalize wn5=wz at hall ⊢
            revert hall;revert wz;revert na;revert Ga;revert da;revert Ya;revert ca;revert Xa;revert c3;revert A3;revert p3;revert P3;exact REST13.out
           exact z6.nil
          exact z6.nil
         exact z6.nil
        exact z6.nil
       exact z6.nil;intro P3 p3 A3 c3 Xa ca Ya da Ga na w5 hall;obtain⟨hB,h13,h13l,h14,h14l,h1314n,ho,hl⟩:=hall;go_wp2_with fail;go_meet;refine⟨hB,.inl ⟨rfl,Xa,ca,Ya,da,t,Ga,na,c1,h13,h14,.inl ⟨ho.mono (fun b hb=> .inl hb),hl⟩,HBS.out⟩⟩
      ·have hpb:=fun W A3 c3 (h:Below w1.heap.size w1 W) (hz:qT W w1.heap.size A3 c3 D)=>xm X cX Y dY s Ag ng c D A3 c3 W HBY.out.g (HRD.out W h).1 (by have:=HBY.out.gr;omega) HBY.out.gc (HRD.out W h).2 (by omega) hf hz.sl.1;have HPB:=sqH hpb;clear hpb hf;go_wp2_with fail;apply k6;intro REST13;refine zk [13,14] (S:=(fun w'=>((w'.cell? ⟨H,0,none⟩=some (.slice X s.blobs.length cX)∧w'.cell? ⟨H,1,none⟩=some (.slice Y s.ents.length dY)∧w'.cell? ⟨H,2,none⟩=some (.int .i64 s.room)∧w'.cell? ⟨H,3,none⟩=some (.int .i64 s.clock))∧(w'.cell? ⟨H+1,0,none⟩=some (.int .i64 c.phase)∧w'.cell? ⟨H+1,1,none⟩=some (.slice Ag c.grey.length ng)∧w'.cell? ⟨H+1,2,none⟩=some (.string ⟨c.at_.toArray⟩)))∧(w'.cell? ⟨gr,0,none⟩=some (.int .i64 rk)∧w'.cell? ⟨gr,1,none⟩=some (.int .i64 ra)∧w'.cell? ⟨gr,2,none⟩=some (.int .i64 rb)∧w'.cell? ⟨gr,3,none⟩=some (.string rt)))) (by kernel_rfl) ?_ (fun hHeld=> ?_)
       ·exact HSR.out _ ((HB12.out).drew)
       have hB:=(HB12.out).drew;have h13:=H13.out.below (Below.refl w2.heap.size w2).drew;have h13l:=HL13.out;have h14:=H14.out.below (Below.refl w2.heap.size w2).drew;have h14l:=HL14.out;have h1314n:=HN.out;generalize w2.drew=wn0 at *
       refine tkU 0 ?_
       try simp only [sqP]
       refine tkU 1 ?_
       try simp only [sqP]
       refine tkP 2 ?_
       try simp only [sqP]
       refine tkU 3 ?_
       try simp only [sqP]
       refine tkU 4 ?_
       try simp only [sqP]
       refine z7 (rs:= [5]) (by kernel_rfl) (by simp) ?_;refine z6.cons (o:=_) rfl (fun K hK=> ?_) ?_
       ·
        go_simp;refine(HPT.out wn0 hB).mono ?_;rintro e5 w5 ⟨P3,p3,rfl,hz5,hb5⟩;dsimp only;refine qI hK ?_ (fun W=>Below w1.heap.size w1 W∧Arr W g13 26 [.slice X s.blobs.length cX,.slice Y s.ents.length dY,.int .i64 s.room,.int .i64 s.clock]∧w1.heap.size≤g13∧Arr W g14 29 [.int .i64 c.phase,.slice Ag c.grey.length ng,.string ⟨c.at_.toArray⟩]∧w1.heap.size≤g14∧g13≠g14∧Sl W 3 P3 ps.length p3 (pcs ps)) (fun W=>True) ?_ ?_ (fun wn1 hHeld2 hF _=> ?_)
        ·exact HSR.out _ ((hB.trans (hb5.mono hB.size)))
        ·exact⟨hB.trans (hb5.mono hB.size),h13.below hb5,h13l,h14.below hb5,h14l,h1314n,hz5⟩
        ·trivial
        clear h1314n h14l h14 h13l h13 hB hHeld;have hHeld:=hHeld2;clear hHeld2;obtain⟨hB,h13,h13l,h14,h14l,h1314n,hP⟩:=hF;clear hb5 hz5;clear hK K
        try simp only [sqP]
        refine z7 (rs:= [6]) (by kernel_rfl) (by simp) ?_;refine z6.cons (o:=_) rfl (fun K hK=> ?_) ?_
        ·
         go_simp;refine(HMN.out wn1 P3 p3 hP).mono ?_;rintro e5 w5 ⟨A3,c3,rfl,hz5,hb5⟩;dsimp only;refine qI hK ?_ (fun W=>Below w1.heap.size w1 W∧Arr W g13 26 [.slice X s.blobs.length cX,.slice Y s.ents.length dY,.int .i64 s.room,.int .i64 s.clock]∧w1.heap.size≤g13∧Arr W g14 29 [.int .i64 c.phase,.slice Ag c.grey.length ng,.string ⟨c.at_.toArray⟩]∧w1.heap.size≤g14∧g13≠g14∧qT W w1.heap.size A3 c3 D) (fun W=>True) ?_ ?_ (fun wn2 hHeld2 hF _=> ?_)
         ·exact HSR.out _ ((hB.trans (hb5.mono hB.size)))
         ·exact⟨hB.trans (hb5.mono hB.size),h13.below hb5,h13l,h14.below hb5,h14l,h1314n,hz5.lower hB.size⟩
         ·trivial
         clear hP h1314n h14l h14 h13l h13 hB hHeld;have hHeld:=hHeld2;clear hHeld2;obtain⟨hB,h13,h13l,h14,h14l,h1314n,hD⟩:=hF;clear hb5 hz5;clear hK K
         try simp only [sqP]
         refine z7 (rs:= [7]) (by kernel_rfl) (by simp) ?_;refine z6.cons (o:=_) rfl (fun K hK=> ?_) ?_
         ·
          go_simp;refine(HPB.out wn2 A3 c3 hB hD).mono ?_;rintro e5 w5 ⟨rfl,hb5⟩;dsimp only;refine qI hK ?_ (fun W=>Below w1.heap.size w1 W∧Arr W g13 26 [.slice X s.blobs.length cX,.slice Y s.ents.length dY,.int .i64 s.room,.int .i64 s.clock]∧w1.heap.size≤g13∧Arr W g14 29 [.int .i64 c.phase,.slice Ag c.grey.length ng,.string ⟨c.at_.toArray⟩]∧w1.heap.size≤g14∧g13≠g14) (fun W=>True) ?_ ?_ (fun wn3 hHeld2 hF _=> ?_)
          ·exact HSR.out _ ((hB.trans (hb5.mono hB.size)))
          ·exact⟨hB.trans (hb5.mono hB.size),h13.below hb5,h13l,h14.below hb5,h14l,h1314n⟩
          ·trivial
          clear hD h1314n h14l h14 h13l h13 hB hHeld;have hHeld:=hHeld2;clear hHeld2;obtain⟨hB,h13,h13l,h14,h14l,h1314n⟩:=hF;clear hb5;clear hK K
          try simp only [sqP]
          refine tkP 8 ?_
          try simp only [sqP]
          refine tkP 9 ?_
          try simp only [sqP]
          refine tkP 10 ?_
          try simp only [sqP]
          refine tkP 11 ?_
          try simp only [sqP]
          refine tkP 12 ?_
          try simp only [sqP]
          refine z7 (rs:= [13]) (by kernel_rfl) (by simp) ?_;refine z6.store (o:=_) rfl (by rfl) (fun K hK=> ?_) ?_
          ·
           have z0:=h13.cell (k:=0) rfl;have f0:=h13.frozen 0;have z1:=h13.cell (k:=1) rfl;have f1:=h13.frozen 1;have z2:=h13.cell (k:=2) rfl;have f2:=h13.frozen 2;have z3:=h13.cell (k:=3) rfl;have f3:=h13.frozen 3;go_simp;clear z0 f0 z1 f1 z2 f2 z3 f3;refine vY hK (fun W=>Below w1.heap.size w1 W∧Arr W g13 26 [.slice none 0 0,.slice none 0 0,.int .i64 0,.int .i64 0]∧w1.heap.size≤g13∧Arr W g14 29 [.int .i64 c.phase,.slice Ag c.grey.length ng,.string ⟨c.at_.toArray⟩]∧w1.heap.size≤g14∧g13≠g14) (fun W=>True) ?_ ?_ (fun wn4 hF _=> ?_)
           ·exact⟨((((hB).setCell (p:=⟨g13,0,none⟩) h13l _).setCell (p:=⟨g13,1,none⟩) h13l _).setCell (p:=⟨g13,2,none⟩) h13l _).setCell (p:=⟨g13,3,none⟩) h13l _,h13.all4 _ _ _ _,h13l,((((h14).other (h1314n.symm) _).other (h1314n.symm) _).other (h1314n.symm) _).other (h1314n.symm) _,h14l,h1314n⟩
           ·trivial
           clear h1314n h14l h14 h13l h13 hB hHeld;obtain⟨hB,h13,h13l,h14,h14l,h1314n⟩:=hF
           skip
           clear hK K
           try simp only [sqP]
           refine z7 (rs:= [14]) (by kernel_rfl) (by simp) ?_;refine z6.store (o:=_) rfl (by rfl) (fun K hK=> ?_) ?_
           ·
            have z0:=h14.cell (k:=0) rfl;have f0:=h14.frozen 0;have z1:=h14.cell (k:=1) rfl;have f1:=h14.frozen 1;have z2:=h14.cell (k:=2) rfl;have f2:=h14.frozen 2;go_simp;clear z0 f0 z1 f1 z2 f2;refine vY hK (fun W=>Below w1.heap.size w1 W∧Arr W g13 26 [.slice none 0 0,.slice none 0 0,.int .i64 0,.int .i64 0]∧w1.heap.size≤g13∧Arr W g14 29 [.int .i64 0,.slice none 0 0,.string ⟨#[]⟩]∧w1.heap.size≤g14∧g13≠g14) (fun W=>True) ?_ ?_ (fun wn5 hF _=> ?_)
            ·exact⟨(((hB).setCell (p:=⟨g14,0,none⟩) h14l _).setCell (p:=⟨g14,1,none⟩) h14l _).setCell (p:=⟨g14,2,none⟩) h14l _,(((h13).other (h1314n) _).other (h1314n) _).other (h1314n) _,h13l,h14.all3 _ _ _,h14l,h1314n⟩
            ·trivial
            clear h1314n h14l h14 h13l h13 hB;obtain⟨hB,h13,h13l,h14,h14l,h1314n⟩:=hF
            skip
            clear hK K
            try simp only [sqP]
            refine tkP 15 ?_
            try simp only [sqP]
            refine zB (by kernel_rfl) ?_ _
            try dsimp only [Exit.then]
            have hall:=And.intro hB (And.intro h13 (And.intro h13l (And.intro h14 (And.intro h14l h1314n))));clear h1314n h14l h14 h13l h13 hB;generalize wn5=wz at hall ⊢
            revert hall;revert wz;revert c3;revert A3;revert p3;revert P3;exact REST13.out
           exact z6.nil
          exact z6.nil
         exact z6.nil
        exact z6.nil
       exact z6.nil;intro P3 p3 A3 c3 w5 hall;obtain⟨hB,h13,h13l,h14,h14l,h1314n⟩:=hall;go_wp2_with fail;go_meet;exact⟨hB,.inr ⟨_,rfl,.inl rfl⟩⟩
     by_cases k2:kk=2
     ·subst k2;have HW01:=sqH hw01;obtain⟨ps,hps⟩:∃ps,ps=zA s.blobs ⟨rk,ra,rb,rt⟩:=⟨_,rfl⟩
      have hcz:chk ps=0:=by rw [hps];exact vH (fun b hb=>⟨by rw [(HBY.out.g.b.one b hb).1];exact zu _,(HBY.out.g.b.one b hb).2.1⟩) _
      have hhv:qQ s.blobs ps=0:=by rw [hps];exact vx HBY.out.g.b.ris (QN _ _)
      have hpt:=fun W (h:Below w1.heap.size w1 W)=>Qd X cX s.blobs ⟨rk,ra,rb,rt⟩ W HBY.out.g.b (HRD.out W h).1.bc (HRD.out W h).1.bm (HRD.out W h).1.b HRO.out;rw [←hps]at hpt;have hky:=fun W=>XH ra W HRO.out.a0 HRO.out.a1;obtain⟨K,hK⟩:∃K,K=keyS (pk ra 7):=⟨_,rfl⟩
      have hKj:∃j,j<7∧K=keyS j:=⟨pk ra 7,kG ra (m:=7) (by omega),hK⟩
      rw [←hK]at hky;have hck:s.clock<1099511627776:=by have:=HBY.out.ck;omega
      obtain⟨t,c1,htc⟩:∃t c1,zw (xd s K ps) c (ps.map (·.dig))=(t,c1):=⟨_,_,rfl⟩
      have hbs:Bsy (i+1) t c1:=by have:=HBY.out.pute hKj hcz hhv hck;rw [htc]at this;exact this
      have hbp:=fun W A3 c3 (h:Below w1.heap.size w1 W) (hz:Sl W 3 A3 ps.length c3 (pcs ps))=>J3 X cX Y dY s Ag ng c K ps A3 c3 W i hi31 HBY.out (HRD.out W h).1 (HRD.out W h).2 hKj hcz hhv hz t c1 htc;have HBP:=sqH hbp;have HBS:=sqH hbs;have HPT:=sqH hpt;have HKY:=sqH hky;clear hpt hky hcz hhv hps hbp hbs htc hKj hK hck;go_wp2_with fail;apply k6;intro REST15;refine zk [14,15] (S:=(fun w'=>((w'.cell? ⟨H,0,none⟩=some (.slice X s.blobs.length cX)∧w'.cell? ⟨H,1,none⟩=some (.slice Y s.ents.length dY)∧w'.cell? ⟨H,2,none⟩=some (.int .i64 s.room)∧w'.cell? ⟨H,3,none⟩=some (.int .i64 s.clock))∧(w'.cell? ⟨H+1,0,none⟩=some (.int .i64 c.phase)∧w'.cell? ⟨H+1,1,none⟩=some (.slice Ag c.grey.length ng)∧w'.cell? ⟨H+1,2,none⟩=some (.string ⟨c.at_.toArray⟩)))∧(w'.cell? ⟨gr,0,none⟩=some (.int .i64 rk)∧w'.cell? ⟨gr,1,none⟩=some (.int .i64 ra)∧w'.cell? ⟨gr,2,none⟩=some (.int .i64 rb)∧w'.cell? ⟨gr,3,none⟩=some (.string rt)))) (by kernel_rfl) ?_ (fun hHeld=> ?_)
      ·exact HSR.out _ ((HB12.out).drew)
      have hB:=(HB12.out).drew;have h13:=H13.out.below (Below.refl w2.heap.size w2).drew;have h13l:=HL13.out;have h14:=H14.out.below (Below.refl w2.heap.size w2).drew;have h14l:=HL14.out;have h1314n:=HN.out;generalize w2.drew=wn0 at *
      refine tkU 0 ?_
      try simp only [sqP]
      refine tkU 1 ?_
      try simp only [sqP]
      refine tkP 2 ?_
      try simp only [sqP]
      refine tkU 3 ?_
      try simp only [sqP]
      refine tkP 5 ?_
      try simp only [sqP]
      refine tkU 6 ?_
      try simp only [sqP]
      refine tkU 7 ?_
      try simp only [sqP]
      refine z7 (rs:= [4]) (by kernel_rfl) (by simp) ?_;refine z6.cons (o:=_) rfl (fun K hK=> ?_) ?_
      ·
       go_simp;refine(HKY.out wn0).mono ?_;rintro e5 w5 ⟨rfl,hb5⟩;dsimp only;refine qI hK ?_ (fun W=>Below w1.heap.size w1 W∧Arr W g13 26 [.slice X s.blobs.length cX,.slice Y s.ents.length dY,.int .i64 s.room,.int .i64 s.clock]∧w1.heap.size≤g13∧Arr W g14 29 [.int .i64 c.phase,.slice Ag c.grey.length ng,.string ⟨c.at_.toArray⟩]∧w1.heap.size≤g14∧g13≠g14) (fun W=>True) ?_ ?_ (fun wn1 hHeld2 hF _=> ?_)
       ·exact HSR.out _ ((hB.trans (hb5.mono hB.size)))
       ·exact⟨hB.trans (hb5.mono hB.size),h13.below hb5,h13l,h14.below hb5,h14l,h1314n⟩
       ·trivial
       clear h1314n h14l h14 h13l h13 hB hHeld;have hHeld:=hHeld2;clear hHeld2;obtain⟨hB,h13,h13l,h14,h14l,h1314n⟩:=hF;clear hb5;clear hK K
       try simp only [sqP]
       refine z7 (rs:= [8]) (by kernel_rfl) (by simp) ?_;refine z6.cons (o:=_) rfl (fun K hK=> ?_) ?_
       ·
        go_simp;refine(HPT.out wn1 hB).mono ?_;rintro e5 w5 ⟨P3,p3,rfl,hz5,hb5⟩;dsimp only;refine qI hK ?_ (fun W=>Below w1.heap.size w1 W∧Arr W g13 26 [.slice X s.blobs.length cX,.slice Y s.ents.length dY,.int .i64 s.room,.int .i64 s.clock]∧w1.heap.size≤g13∧Arr W g14 29 [.int .i64 c.phase,.slice Ag c.grey.length ng,.string ⟨c.at_.toArray⟩]∧w1.heap.size≤g14∧g13≠g14∧Sl W 3 P3 ps.length p3 (pcs ps)) (fun W=>True) ?_ ?_ (fun wn2 hHeld2 hF _=> ?_)
        ·exact HSR.out _ ((hB.trans (hb5.mono hB.size)))
        ·exact⟨hB.trans (hb5.mono hB.size),h13.below hb5,h13l,h14.below hb5,h14l,h1314n,hz5⟩
        ·trivial
        clear h1314n h14l h14 h13l h13 hB hHeld;have hHeld:=hHeld2;clear hHeld2;obtain⟨hB,h13,h13l,h14,h14l,h1314n,hP⟩:=hF;clear hb5 hz5;clear hK K
        try simp only [sqP]
        refine z7 (rs:= [9]) (by kernel_rfl) (by simp) ?_;refine z6.cons (o:=_) rfl (fun K hK=> ?_) ?_
        ·
         go_simp;refine(HBP.out wn2 P3 p3 hB hP).mono ?_;rintro e5 w5 ⟨Xa,ca,Ya,da,Ga,na,rfl,ho5,hl5,hb5⟩;dsimp only;refine qI hK ?_ (fun W=>Below w1.heap.size w1 W∧Arr W g13 26 [.slice X s.blobs.length cX,.slice Y s.ents.length dY,.int .i64 s.room,.int .i64 s.clock]∧w1.heap.size≤g13∧Arr W g14 29 [.int .i64 c.phase,.slice Ag c.grey.length ng,.string ⟨c.at_.toArray⟩]∧w1.heap.size≤g14∧g13≠g14∧OwSt W 0 (.slice Xa t.blobs.length ca) (.slice Ya t.ents.length da) t (fun b=>b<w0.heap.size∨b=g13∨b=g14)∧W.ownsRow 0 9 1 (.slice Ga c1.grey.length na) c1.grey.length (strs c1.grey)) (fun W=>True) ?_ ?_ (fun wn3 hHeld2 hF _=> ?_)
         ·exact HSR.out _ ((hB.trans (hb5.mono hB.size)))
         ·exact⟨hB.trans (hb5.mono hB.size),h13.below hb5,h13l,h14.below hb5,h14l,h1314n,(ho5.lower (base':=0) (Nat.zero_le _)).mono (N':=(fun b=>b<w0.heap.size∨b=g13∨b=g14)) (fun b hb=>hb.elim (fun hb=>Nat.lt_of_lt_of_le hb (Nat.le_trans HW01.out hB.size)) (fun hb=>hb.elim (fun hb=>by rw [hb];exact h13.lt) (fun hb=>(by rw [hb];exact h14.lt)))),ze hl5 (Nat.zero_le _)⟩
         ·trivial
         clear hP h1314n h14l h14 h13l h13 hB hHeld;have hHeld:=hHeld2;clear hHeld2;obtain⟨hB,h13,h13l,h14,h14l,h1314n,ho,hl⟩:=hF;clear hb5 ho5 hl5;clear hK K
         try simp only [sqP]
         refine tkP 10 ?_
         try simp only [sqP]
         refine tkP 11 ?_
         try simp only [sqP]
         refine tkP 12 ?_
         try simp only [sqP]
         refine tkP 13 ?_
         try simp only [sqP]
         refine z7 (rs:= [14]) (by kernel_rfl) (by simp) ?_;refine z6.store (o:=_) rfl (by rfl) (fun K hK=> ?_) ?_
         ·
          have hqho:=ho.nb h13 (by decide) (by decide);have hqhl:=zg hl h13 (by decide);have z0:=h13.cell (k:=0) rfl;have f0:=h13.frozen 0;have z1:=h13.cell (k:=1) rfl;have f1:=h13.frozen 1;have z2:=h13.cell (k:=2) rfl;have f2:=h13.frozen 2;have z3:=h13.cell (k:=3) rfl;have f3:=h13.frozen 3;go_simp;clear z0 f0 z1 f1 z2 f2 z3 f3;refine vY hK (fun W=>Below w1.heap.size w1 W∧Arr W g13 26 [(.slice Xa t.blobs.length ca),(.slice Ya t.ents.length da),.int .i64 t.room,.int .i64 t.clock]∧w1.heap.size≤g13∧Arr W g14 29 [.int .i64 c.phase,.slice Ag c.grey.length ng,.string ⟨c.at_.toArray⟩]∧w1.heap.size≤g14∧g13≠g14∧OwSt W 0 (.slice Xa t.blobs.length ca) (.slice Ya t.ents.length da) t (fun b=>b<w0.heap.size∨b=g13∨b=g14)∧W.ownsRow 0 9 1 (.slice Ga c1.grey.length na) c1.grey.length (strs c1.grey)) (fun W=>True) ?_ ?_ (fun wn4 hF _=> ?_)
          ·exact⟨((((hB).setCell (p:=⟨g13,0,none⟩) h13l _).setCell (p:=⟨g13,1,none⟩) h13l _).setCell (p:=⟨g13,2,none⟩) h13l _).setCell (p:=⟨g13,3,none⟩) h13l _,h13.all4 _ _ _ _,h13l,((((h14).other (h1314n.symm) _).other (h1314n.symm) _).other (h1314n.symm) _).other (h1314n.symm) _,h14l,h1314n,ho.set4N (.inr (.inl rfl)) hqho.1 hqho.2 _ _ _ _,qc hl hqhl _ _ _ _⟩
          ·trivial
          clear hl ho h1314n h14l h14 h13l h13 hB hHeld;obtain⟨hB,h13,h13l,h14,h14l,h1314n,ho,hl⟩:=hF;clear hqho hqhl;clear hK K
          try simp only [sqP]
          refine z7 (rs:= [15]) (by kernel_rfl) (by simp) ?_;refine z6.store (o:=_) rfl (by rfl) (fun K hK=> ?_) ?_
          ·
           have hqho:=ho.nb h14 (by decide) (by decide);have hqhl:=zg hl h14 (by decide);have z0:=h14.cell (k:=0) rfl;have f0:=h14.frozen 0;have z1:=h14.cell (k:=1) rfl;have f1:=h14.frozen 1;have z2:=h14.cell (k:=2) rfl;have f2:=h14.frozen 2;go_simp;clear z0 f0 z1 f1 z2 f2;refine vY hK (fun W=>Below w1.heap.size w1 W∧Arr W g13 26 [(.slice Xa t.blobs.length ca),(.slice Ya t.ents.length da),.int .i64 t.room,.int .i64 t.clock]∧w1.heap.size≤g13∧Arr W g14 29 [.int .i64 c1.phase,(.slice Ga c1.grey.length na),.string ⟨c1.at_.toArray⟩]∧w1.heap.size≤g14∧g13≠g14∧OwSt W 0 (.slice Xa t.blobs.length ca) (.slice Ya t.ents.length da) t (fun b=>b<w0.heap.size∨b=g13∨b=g14)∧W.ownsRow 0 9 1 (.slice Ga c1.grey.length na) c1.grey.length (strs c1.grey)) (fun W=>True) ?_ ?_ (fun wn5 hF _=> ?_)
           ·exact⟨(((hB).setCell (p:=⟨g14,0,none⟩) h14l _).setCell (p:=⟨g14,1,none⟩) h14l _).setCell (p:=⟨g14,2,none⟩) h14l _,(((h13).other (h1314n) _).other (h1314n) _).other (h1314n) _,h13l,h14.all3 _ _ _,h14l,h1314n,ho.set3N (.inr (.inr rfl)) hqho.1 hqho.2 _ _ _,qx hl hqhl _ _ _⟩
           ·trivial
           clear hl ho h1314n h14l h14 h13l h13 hB;obtain⟨hB,h13,h13l,h14,h14l,h1314n,ho,hl⟩:=hF;clear hqho hqhl;clear hK K
           try simp only [sqP]
           refine tkP 16 ?_
           try simp only [sqP]
           refine zB (by kernel_rfl) ?_ _
           try dsimp only [Exit.then]
           have hall:=And.intro hB (And.intro h13 (And.intro h13l (And.intro h14 (And.intro h14l (And.intro h1314n (And.intro ho hl))))));clear hl ho h1314n h14l h14 h13l h13 hB;generalize wn5=wz at hall ⊢
           revert hall;revert wz;revert na;revert Ga;revert da;revert Ya;revert ca;revert Xa;revert p3;revert P3;exact REST15.out
          exact z6.nil
         exact z6.nil
        exact z6.nil
       exact z6.nil
      exact z6.nil;intro P3 p3 Xa ca Ya da Ga na w5 hall;obtain⟨hB,h13,h13l,h14,h14l,h1314n,ho,hl⟩:=hall;go_wp2_with fail;go_meet;refine⟨hB,.inl ⟨rfl,Xa,ca,Ya,da,t,Ga,na,c1,h13,h14,.inl ⟨ho.mono (fun b hb=> .inl hb),hl⟩,HBS.out⟩⟩
     by_cases k3:kk=3
     ·subst k3;have HW01:=sqH hw01;obtain⟨⟨⟨x0,x1,x2,x3⟩, -⟩, -⟩:=HSR.out w2 HB12.out;by_cases hz:s.blobs.length=0
      ·have hza:decide ((s.blobs.length:Int)>0)=false:=decide_eq_false (by omega);have hzb:decide ((0:Int)<(s.blobs.length:Int))=false:=decide_eq_false (by omega);have hzc:decide (0<s.blobs.length)=false:=decide_eq_false (by omega);have HZ:=sqH hz;clear hz;go_wp2_with fail;go_meet;exact⟨HB12.out,.inl ⟨rfl,X,cX,Y,dY,s,Ag,ng,c,H13.out,H14.out,HRW.out _ HB12.out,HBY.out.up (by omega)⟩⟩
      ·have hn:0<s.blobs.length:=by omega
       have hza:decide ((s.blobs.length:Int)>0)=true:=decide_eq_true (by omega);have hzb:decide ((0:Int)<(s.blobs.length:Int))=true:=decide_eq_true (by omega);have hzc:decide (0<s.blobs.length)=true:=decide_eq_true hn;have hlen:s.blobs.length≤24:=HBY.out.g.b.len;obtain⟨kb,hkk⟩:∃k,k=pk ra s.blobs.length:=⟨_,rfl⟩
       have hkb:kb<s.blobs.length:=by rw [hkk];exact kG ra hn
       have hpa:=fun W=>zQ ra s.blobs.length (s.blobs.length:Int) rfl W HRO.out.a0 HRO.out.a1 hn (by omega);rw [←hkk]at hpa;have HPA:=sqH hpa;obtain⟨kc,hkc⟩:∃k,k=pk rb 3:=⟨_,rfl⟩
       have hpc:=fun W=>zQ rb 3 3 rfl W HRO.out.b0 HRO.out.b1 (by omega) (by omega);rw [←hkc]at hpc;have HPC:=sqH hpc;obtain⟨up,hup⟩:∃up,up=decide (0<kc):=⟨_,rfl⟩
       have hu3:decide (0<kc)=up:=hup.symm;have hu2:decide ((0:Int)<(kc:Int))=up:=by rw [hup];exact decide_eq_decide.2 (by omega)
       have hu1:decide ((kc:Int)>0)=up:=by rw [hup];exact decide_eq_decide.2 (by omega)
       clear hup hkc hkk hpa hpc hz;obtain⟨xb,xo,XB,xc,e1,hbb,c0, -⟩:=(HRD.out w1 (Below.refl _ _)).1.b.blob_at kb hkb;subst e1;obtain⟨sd,hsd⟩:∃x:ByteArray,x=⟨s.blobs[kb].dig.toArray⟩:=⟨_,rfl⟩
       rw [←hsd]at c0;have hsk:=fun W h=>And.intro (HSR.out W h) ((Below.cell h (p:=⟨xb,xo+kb*4,none⟩) hbb).trans c0);have HSK:=sqH hsk;have hm0:(0:Int)≤(kb:Int):=by omega
       have hm1:(kb:Int)<(s.blobs.length:Int):=by omega
       have hpin:s.blobs[kb].pins≤5:=(HBY.out.g.b.one _ (List.getElem_mem hkb)).2.2;have hmv:(if up then s.blobs[kb].pins<5 else 0<s.blobs[kb].pins∧s.blobs[kb].pins≤5)∨(if up then s.blobs[kb].pins=5 else s.blobs[kb].pins=0):=by
        cases up<;>simp<;>omega
       clear hsk c0 hn;rcases hmv with hmv | hmv
       ·obtain⟨t,c1,htc⟩:∃t c1,zw (qB s kb s.blobs[kb] (mvN s.blobs[kb].pins up)) c [s.blobs[kb].dig]=(t,c1):=⟨_,_,rfl⟩
        have hm5:mvN s.blobs[kb].pins up≤5:=by unfold mvN;cases up<;>simp at hmv ⊢ <;> omega
        have hbs:Bsy (i+1) t c1:=by have:=HBY.out.hold hkb hm5;rw [htc]at this;exact this
        have hbh:=fun W (h:Below w1.heap.size w1 W)=>U1 (some ⟨xb,xo,none⟩) cX Y dY s Ag ng c up kb W i hi31 HBY.out (HRD.out W h).1 (HRD.out W h).2 hkb hmv hm5 t c1 htc;rw [←hsd]at hbh;have HBS:=sqH hbs;have HBH:=sqH hbh;have HSD:=sqH hsd;clear hbs hbh htc hmv hm5 hsd hpin;go_wp2_with fail;clear x0 x1 x2 x3 hza hzb hzc;apply k6;intro REST18;refine zk [22,23] (S:=(fun w'=>(((w'.cell? ⟨H,0,none⟩=some (.slice (some ⟨xb,xo,none⟩) s.blobs.length cX)∧w'.cell? ⟨H,1,none⟩=some (.slice Y s.ents.length dY)∧w'.cell? ⟨H,2,none⟩=some (.int .i64 s.room)∧w'.cell? ⟨H,3,none⟩=some (.int .i64 s.clock))∧(w'.cell? ⟨H+1,0,none⟩=some (.int .i64 c.phase)∧w'.cell? ⟨H+1,1,none⟩=some (.slice Ag c.grey.length ng)∧w'.cell? ⟨H+1,2,none⟩=some (.string ⟨c.at_.toArray⟩)))∧(w'.cell? ⟨gr,0,none⟩=some (.int .i64 rk)∧w'.cell? ⟨gr,1,none⟩=some (.int .i64 ra)∧w'.cell? ⟨gr,2,none⟩=some (.int .i64 rb)∧w'.cell? ⟨gr,3,none⟩=some (.string rt)))∧w'.cell? ⟨xb,xo+kb*4,none⟩=some (.string sd))) (by kernel_rfl) ?_ (fun hHeld=> ?_)
        ·exact HSK.out _ ((HB12.out).drew)
        have hB:=(HB12.out).drew;have h13:=H13.out.below (Below.refl w2.heap.size w2).drew;have h13l:=HL13.out;have h14:=H14.out.below (Below.refl w2.heap.size w2).drew;have h14l:=HL14.out;have h1314n:=HN.out;generalize w2.drew=wn0 at *
        refine tkU 0 ?_
        try simp only [sqP]
        refine tkU 1 ?_
        try simp only [sqP]
        refine tkP 2 ?_
        try simp only [sqP]
        refine tkU 3 ?_
        try simp only [sqP]
        refine tkP 4 ?_
        try simp only [sqP]
        refine tkU 5 ?_
        try simp only [sqP]
        refine tkP 6 ?_
        try simp only [sqP]
        refine tkU 7 ?_
        try simp only [sqP]
        refine tkP 8 ?_
        try simp only [sqP]
        refine tkP 13 ?_
        try simp only [sqP]
        refine tkU 14 ?_
        try simp only [sqP]
        refine z7 (rs:= [9]) (by kernel_rfl) (by simp) ?_;refine z6.cons (o:=_) rfl (fun K hK=> ?_) ?_
        ·
         go_simp;refine(HPA.out wn0).mono ?_;rintro e5 w5 ⟨rfl,rfl⟩;have hb5:=Below.refl wn0.heap.size wn0;dsimp only;refine qI hK ?_ (fun W=>Below w1.heap.size w1 W∧Arr W g13 26 [.slice (some ⟨xb,xo,none⟩) s.blobs.length cX,.slice Y s.ents.length dY,.int .i64 s.room,.int .i64 s.clock]∧w1.heap.size≤g13∧Arr W g14 29 [.int .i64 c.phase,.slice Ag c.grey.length ng,.string ⟨c.at_.toArray⟩]∧w1.heap.size≤g14∧g13≠g14) (fun W=>True) ?_ ?_ (fun wn1 hHeld2 hF _=> ?_)
         ·exact HSK.out _ ((hB.trans (hb5.mono hB.size)))
         ·exact⟨hB.trans (hb5.mono hB.size),h13.below hb5,h13l,h14.below hb5,h14l,h1314n⟩
         ·trivial
         clear h1314n h14l h14 h13l h13 hB hHeld;have hHeld:=hHeld2;clear hHeld2;obtain⟨hB,h13,h13l,h14,h14l,h1314n⟩:=hF;clear hb5;clear hK K
         try simp only [sqP]
         refine tkP 10 ?_
         try simp only [sqP]
         refine tkP 11 ?_
         try simp only [sqP]
         refine tkU 12 ?_
         try simp only [sqP]
         refine z7 (rs:= [15]) (by kernel_rfl) (by simp) ?_;refine z6.cons (o:=_) rfl (fun K hK=> ?_) ?_
         ·
          go_simp;refine(HPC.out wn1).mono ?_;rintro e5 w5 ⟨rfl,rfl⟩;have hb5:=Below.refl wn1.heap.size wn1;dsimp only;refine qI hK ?_ (fun W=>Below w1.heap.size w1 W∧Arr W g13 26 [.slice (some ⟨xb,xo,none⟩) s.blobs.length cX,.slice Y s.ents.length dY,.int .i64 s.room,.int .i64 s.clock]∧w1.heap.size≤g13∧Arr W g14 29 [.int .i64 c.phase,.slice Ag c.grey.length ng,.string ⟨c.at_.toArray⟩]∧w1.heap.size≤g14∧g13≠g14) (fun W=>True) ?_ ?_ (fun wn2 hHeld2 hF _=> ?_)
          ·exact HSK.out _ ((hB.trans (hb5.mono hB.size)))
          ·exact⟨hB.trans (hb5.mono hB.size),h13.below hb5,h13l,h14.below hb5,h14l,h1314n⟩
          ·trivial
          clear h1314n h14l h14 h13l h13 hB hHeld;have hHeld:=hHeld2;clear hHeld2;obtain⟨hB,h13,h13l,h14,h14l,h1314n⟩:=hF;clear hb5;clear hK K
          try simp only [sqP]
          refine tkP 16 ?_
          try simp only [sqP]
          refine z7 (rs:= [17]) (by kernel_rfl) (by simp) ?_;refine z6.cons (o:=_) rfl (fun K hK=> ?_) ?_
          ·
           go_simp;refine(HBH.out wn2 hB).mono ?_;rintro e5 w5 ⟨Xa,ca,Ya,da,Ga,na,rfl,ho5,hl5,hb5⟩;dsimp only;refine qI hK ?_ (fun W=>Below w1.heap.size w1 W∧Arr W g13 26 [.slice (some ⟨xb,xo,none⟩) s.blobs.length cX,.slice Y s.ents.length dY,.int .i64 s.room,.int .i64 s.clock]∧w1.heap.size≤g13∧Arr W g14 29 [.int .i64 c.phase,.slice Ag c.grey.length ng,.string ⟨c.at_.toArray⟩]∧w1.heap.size≤g14∧g13≠g14∧OwSt W 0 (.slice Xa t.blobs.length ca) (.slice Ya t.ents.length da) t (fun b=>b<w0.heap.size∨b=g13∨b=g14)∧W.ownsRow 0 9 1 (.slice Ga c1.grey.length na) c1.grey.length (strs c1.grey)) (fun W=>True) ?_ ?_ (fun wn3 hHeld2 hF _=> ?_)
           ·exact HSK.out _ ((hB.trans (hb5.mono hB.size)))
           ·exact⟨hB.trans (hb5.mono hB.size),h13.below hb5,h13l,h14.below hb5,h14l,h1314n,(ho5.lower (base':=0) (Nat.zero_le _)).mono (N':=(fun b=>b<w0.heap.size∨b=g13∨b=g14)) (fun b hb=>hb.elim (fun hb=>Nat.lt_of_lt_of_le hb (Nat.le_trans HW01.out hB.size)) (fun hb=>hb.elim (fun hb=>by rw [hb];exact h13.lt) (fun hb=>(by rw [hb];exact h14.lt)))),ze hl5 (Nat.zero_le _)⟩
           ·trivial
           clear h1314n h14l h14 h13l h13 hB hHeld;have hHeld:=hHeld2;clear hHeld2;obtain⟨hB,h13,h13l,h14,h14l,h1314n,ho,hl⟩:=hF;clear hb5 ho5 hl5;clear hK K
           try simp only [sqP]
           refine tkP 18 ?_
           try simp only [sqP]
           refine tkP 19 ?_
           try simp only [sqP]
           refine tkP 20 ?_
           try simp only [sqP]
           refine tkP 21 ?_
           try simp only [sqP]
           refine z7 (rs:= [22]) (by kernel_rfl) (by simp) ?_;refine z6.store (o:=_) rfl (by rfl) (fun K hK=> ?_) ?_
           ·
            have hqho:=ho.nb h13 (by decide) (by decide);have hqhl:=zg hl h13 (by decide);have z0:=h13.cell (k:=0) rfl;have f0:=h13.frozen 0;have z1:=h13.cell (k:=1) rfl;have f1:=h13.frozen 1;have z2:=h13.cell (k:=2) rfl;have f2:=h13.frozen 2;have z3:=h13.cell (k:=3) rfl;have f3:=h13.frozen 3;go_simp;clear z0 f0 z1 f1 z2 f2 z3 f3;refine vY hK (fun W=>Below w1.heap.size w1 W∧Arr W g13 26 [(.slice Xa t.blobs.length ca),(.slice Ya t.ents.length da),.int .i64 t.room,.int .i64 t.clock]∧w1.heap.size≤g13∧Arr W g14 29 [.int .i64 c.phase,.slice Ag c.grey.length ng,.string ⟨c.at_.toArray⟩]∧w1.heap.size≤g14∧g13≠g14∧OwSt W 0 (.slice Xa t.blobs.length ca) (.slice Ya t.ents.length da) t (fun b=>b<w0.heap.size∨b=g13∨b=g14)∧W.ownsRow 0 9 1 (.slice Ga c1.grey.length na) c1.grey.length (strs c1.grey)) (fun W=>True) ?_ ?_ (fun wn4 hF _=> ?_)
            ·exact⟨((((hB).setCell (p:=⟨g13,0,none⟩) h13l _).setCell (p:=⟨g13,1,none⟩) h13l _).setCell (p:=⟨g13,2,none⟩) h13l _).setCell (p:=⟨g13,3,none⟩) h13l _,h13.all4 _ _ _ _,h13l,((((h14).other (h1314n.symm) _).other (h1314n.symm) _).other (h1314n.symm) _).other (h1314n.symm) _,h14l,h1314n,ho.set4N (.inr (.inl rfl)) hqho.1 hqho.2 _ _ _ _,qc hl hqhl _ _ _ _⟩
            ·trivial
            clear hl ho h1314n h14l h14 h13l h13 hB hHeld;obtain⟨hB,h13,h13l,h14,h14l,h1314n,ho,hl⟩:=hF;clear hqho hqhl;clear hK K
            try simp only [sqP]
            refine z7 (rs:= [23]) (by kernel_rfl) (by simp) ?_;refine z6.store (o:=_) rfl (by rfl) (fun K hK=> ?_) ?_
            ·
             have hqho:=ho.nb h14 (by decide) (by decide);have hqhl:=zg hl h14 (by decide);have z0:=h14.cell (k:=0) rfl;have f0:=h14.frozen 0;have z1:=h14.cell (k:=1) rfl;have f1:=h14.frozen 1;have z2:=h14.cell (k:=2) rfl;have f2:=h14.frozen 2;go_simp;clear z0 f0 z1 f1 z2 f2;refine vY hK (fun W=>Below w1.heap.size w1 W∧Arr W g13 26 [(.slice Xa t.blobs.length ca),(.slice Ya t.ents.length da),.int .i64 t.room,.int .i64 t.clock]∧w1.heap.size≤g13∧Arr W g14 29 [.int .i64 c1.phase,(.slice Ga c1.grey.length na),.string ⟨c1.at_.toArray⟩]∧w1.heap.size≤g14∧g13≠g14∧OwSt W 0 (.slice Xa t.blobs.length ca) (.slice Ya t.ents.length da) t (fun b=>b<w0.heap.size∨b=g13∨b=g14)∧W.ownsRow 0 9 1 (.slice Ga c1.grey.length na) c1.grey.length (strs c1.grey)) (fun W=>True) ?_ ?_ (fun wn5 hF _=> ?_)
             ·exact⟨(((hB).setCell (p:=⟨g14,0,none⟩) h14l _).setCell (p:=⟨g14,1,none⟩) h14l _).setCell (p:=⟨g14,2,none⟩) h14l _,(((h13).other (h1314n) _).other (h1314n) _).other (h1314n) _,h13l,h14.all3 _ _ _,h14l,h1314n,ho.set3N (.inr (.inr rfl)) hqho.1 hqho.2 _ _ _,qx hl hqhl _ _ _⟩
             ·trivial
             clear hl ho h1314n h14l h14 h13l h13 hB;obtain⟨hB,h13,h13l,h14,h14l,h1314n,ho,hl⟩:=hF;clear hqho hqhl;clear hK K
             try simp only [sqP]
             refine tkP 24 ?_
             try simp only [sqP]
             refine zB (by kernel_rfl) ?_ _
             try dsimp only [Exit.then]
             have hall:=And.intro hB (And.intro h13 (And.intro h13l (And.intro h14 (And.intro h14l (And.intro h1314n (And.intro ho hl))))));clear hl ho h1314n h14l h14 h13l h13 hB;generalize wn5=wz at hall ⊢
             revert hall;revert wz;revert na;revert Ga;revert da;revert Ya;revert ca;revert Xa;exact REST18.out
            exact z6.nil
           exact z6.nil
          exact z6.nil
         exact z6.nil
        exact z6.nil;intro Xa ca Ya da Ga na w5 hall;obtain⟨hB,h13,h13l,h14,h14l,h1314n,ho,hl⟩:=hall;go_wp2_with fail;go_meet;refine⟨hB,.inl ⟨rfl,Xa,ca,Ya,da,t,Ga,na,c1,h13,h14,.inl ⟨ho.mono (fun b hb=> .inl hb),hl⟩,HBS.out⟩⟩
       ·have hbh:=fun W (h:Below w1.heap.size w1 W)=>VG (some ⟨xb,xo,none⟩) cX Y dY s Ag ng c s.blobs[kb].dig up (noE up) W HBY.out.g (HRD.out W h).1 (by have:=HBY.out.gr;omega) HBY.out.gc (HRD.out W h).2 (by cases up<;>decide) (fun W' h'=>VC (some ⟨xb,xo,none⟩) cX Y dY s s.blobs[kb].dig up kb W' HBY.out.g h' hkb rfl hmv);rw [←hsd]at hbh;have hq:(noE up:Int)=7∨(noE up:Int)=11∨(noE up:Int)=1:=by cases up<;>decide
        have HBH:=sqH hbh;have HSD:=sqH hsd;have HQ:=sqH hq;clear hbh hmv hsd hpin hq;go_wp2_with fail;clear x0 x1 x2 x3 hza hzb hzc;apply k6;intro REST18;refine zk [22,23] (S:=(fun w'=>(((w'.cell? ⟨H,0,none⟩=some (.slice (some ⟨xb,xo,none⟩) s.blobs.length cX)∧w'.cell? ⟨H,1,none⟩=some (.slice Y s.ents.length dY)∧w'.cell? ⟨H,2,none⟩=some (.int .i64 s.room)∧w'.cell? ⟨H,3,none⟩=some (.int .i64 s.clock))∧(w'.cell? ⟨H+1,0,none⟩=some (.int .i64 c.phase)∧w'.cell? ⟨H+1,1,none⟩=some (.slice Ag c.grey.length ng)∧w'.cell? ⟨H+1,2,none⟩=some (.string ⟨c.at_.toArray⟩)))∧(w'.cell? ⟨gr,0,none⟩=some (.int .i64 rk)∧w'.cell? ⟨gr,1,none⟩=some (.int .i64 ra)∧w'.cell? ⟨gr,2,none⟩=some (.int .i64 rb)∧w'.cell? ⟨gr,3,none⟩=some (.string rt)))∧w'.cell? ⟨xb,xo+kb*4,none⟩=some (.string sd))) (by kernel_rfl) ?_ (fun hHeld=> ?_)
        ·exact HSK.out _ ((HB12.out).drew)
        have hB:=(HB12.out).drew;have h13:=H13.out.below (Below.refl w2.heap.size w2).drew;have h13l:=HL13.out;have h14:=H14.out.below (Below.refl w2.heap.size w2).drew;have h14l:=HL14.out;have h1314n:=HN.out;generalize w2.drew=wn0 at *
        refine tkU 0 ?_
        try simp only [sqP]
        refine tkU 1 ?_
        try simp only [sqP]
        refine tkP 2 ?_
        try simp only [sqP]
        refine tkU 3 ?_
        try simp only [sqP]
        refine tkP 4 ?_
        try simp only [sqP]
        refine tkU 5 ?_
        try simp only [sqP]
        refine tkP 6 ?_
        try simp only [sqP]
        refine tkU 7 ?_
        try simp only [sqP]
        refine tkP 8 ?_
        try simp only [sqP]
        refine tkP 13 ?_
        try simp only [sqP]
        refine tkU 14 ?_
        try simp only [sqP]
        refine z7 (rs:= [9]) (by kernel_rfl) (by simp) ?_;refine z6.cons (o:=_) rfl (fun K hK=> ?_) ?_
        ·
         go_simp;refine(HPA.out wn0).mono ?_;rintro e5 w5 ⟨rfl,rfl⟩;have hb5:=Below.refl wn0.heap.size wn0;dsimp only;refine qI hK ?_ (fun W=>Below w1.heap.size w1 W∧Arr W g13 26 [.slice (some ⟨xb,xo,none⟩) s.blobs.length cX,.slice Y s.ents.length dY,.int .i64 s.room,.int .i64 s.clock]∧w1.heap.size≤g13∧Arr W g14 29 [.int .i64 c.phase,.slice Ag c.grey.length ng,.string ⟨c.at_.toArray⟩]∧w1.heap.size≤g14∧g13≠g14) (fun W=>True) ?_ ?_ (fun wn1 hHeld2 hF _=> ?_)
         ·exact HSK.out _ ((hB.trans (hb5.mono hB.size)))
         ·exact⟨hB.trans (hb5.mono hB.size),h13.below hb5,h13l,h14.below hb5,h14l,h1314n⟩
         ·trivial
         clear h1314n h14l h14 h13l h13 hB hHeld;have hHeld:=hHeld2;clear hHeld2;obtain⟨hB,h13,h13l,h14,h14l,h1314n⟩:=hF;clear hb5;clear hK K
         try simp only [sqP]
         refine tkP 10 ?_
         try simp only [sqP]
         refine tkP 11 ?_
         try simp only [sqP]
         refine tkU 12 ?_
         try simp only [sqP]
         refine z7 (rs:= [15]) (by kernel_rfl) (by simp) ?_;refine z6.cons (o:=_) rfl (fun K hK=> ?_) ?_
         ·
          go_simp;refine(HPC.out wn1).mono ?_;rintro e5 w5 ⟨rfl,rfl⟩;have hb5:=Below.refl wn1.heap.size wn1;dsimp only;refine qI hK ?_ (fun W=>Below w1.heap.size w1 W∧Arr W g13 26 [.slice (some ⟨xb,xo,none⟩) s.blobs.length cX,.slice Y s.ents.length dY,.int .i64 s.room,.int .i64 s.clock]∧w1.heap.size≤g13∧Arr W g14 29 [.int .i64 c.phase,.slice Ag c.grey.length ng,.string ⟨c.at_.toArray⟩]∧w1.heap.size≤g14∧g13≠g14) (fun W=>True) ?_ ?_ (fun wn2 hHeld2 hF _=> ?_)
          ·exact HSK.out _ ((hB.trans (hb5.mono hB.size)))
          ·exact⟨hB.trans (hb5.mono hB.size),h13.below hb5,h13l,h14.below hb5,h14l,h1314n⟩
          ·trivial
          clear h1314n h14l h14 h13l h13 hB hHeld;have hHeld:=hHeld2;clear hHeld2;obtain⟨hB,h13,h13l,h14,h14l,h1314n⟩:=hF;clear hb5;clear hK K
          try simp only [sqP]
          refine tkP 16 ?_
          try simp only [sqP]
          refine z7 (rs:= [17]) (by kernel_rfl) (by simp) ?_;refine z6.cons (o:=_) rfl (fun K hK=> ?_) ?_
          ·
           go_simp;refine(HBH.out wn2 hB).mono ?_;rintro e5 w5 ⟨rfl,hb5⟩;dsimp only;refine qI hK ?_ (fun W=>Below w1.heap.size w1 W∧Arr W g13 26 [.slice (some ⟨xb,xo,none⟩) s.blobs.length cX,.slice Y s.ents.length dY,.int .i64 s.room,.int .i64 s.clock]∧w1.heap.size≤g13∧Arr W g14 29 [.int .i64 c.phase,.slice Ag c.grey.length ng,.string ⟨c.at_.toArray⟩]∧w1.heap.size≤g14∧g13≠g14) (fun W=>True) ?_ ?_ (fun wn3 hHeld2 hF _=> ?_)
           ·exact HSK.out _ ((hB.trans (hb5.mono hB.size)))
           ·exact⟨hB.trans (hb5.mono hB.size),h13.below hb5,h13l,h14.below hb5,h14l,h1314n⟩
           ·trivial
           clear h1314n h14l h14 h13l h13 hB hHeld;have hHeld:=hHeld2;clear hHeld2;obtain⟨hB,h13,h13l,h14,h14l,h1314n⟩:=hF;clear hb5;clear hK K
           try simp only [sqP]
           refine tkP 18 ?_
           try simp only [sqP]
           refine tkP 19 ?_
           try simp only [sqP]
           refine tkP 20 ?_
           try simp only [sqP]
           refine tkP 21 ?_
           try simp only [sqP]
           refine z7 (rs:= [22]) (by kernel_rfl) (by simp) ?_;refine z6.store (o:=_) rfl (by rfl) (fun K hK=> ?_) ?_
           ·
            have z0:=h13.cell (k:=0) rfl;have f0:=h13.frozen 0;have z1:=h13.cell (k:=1) rfl;have f1:=h13.frozen 1;have z2:=h13.cell (k:=2) rfl;have f2:=h13.frozen 2;have z3:=h13.cell (k:=3) rfl;have f3:=h13.frozen 3;go_simp;clear z0 f0 z1 f1 z2 f2 z3 f3;refine vY hK (fun W=>Below w1.heap.size w1 W∧Arr W g13 26 [.slice none 0 0,.slice none 0 0,.int .i64 0,.int .i64 0]∧w1.heap.size≤g13∧Arr W g14 29 [.int .i64 c.phase,.slice Ag c.grey.length ng,.string ⟨c.at_.toArray⟩]∧w1.heap.size≤g14∧g13≠g14) (fun W=>True) ?_ ?_ (fun wn4 hF _=> ?_)
            ·exact⟨((((hB).setCell (p:=⟨g13,0,none⟩) h13l _).setCell (p:=⟨g13,1,none⟩) h13l _).setCell (p:=⟨g13,2,none⟩) h13l _).setCell (p:=⟨g13,3,none⟩) h13l _,h13.all4 _ _ _ _,h13l,((((h14).other (h1314n.symm) _).other (h1314n.symm) _).other (h1314n.symm) _).other (h1314n.symm) _,h14l,h1314n⟩
            ·trivial
            clear h1314n h14l h14 h13l h13 hB hHeld;obtain⟨hB,h13,h13l,h14,h14l,h1314n⟩:=hF
            skip
            clear hK K
            try simp only [sqP]
            refine z7 (rs:= [23]) (by kernel_rfl) (by simp) ?_;refine z6.store (o:=_) rfl (by rfl) (fun K hK=> ?_) ?_
            ·
             have z0:=h14.cell (k:=0) rfl;have f0:=h14.frozen 0;have z1:=h14.cell (k:=1) rfl;have f1:=h14.frozen 1;have z2:=h14.cell (k:=2) rfl;have f2:=h14.frozen 2;go_simp;clear z0 f0 z1 f1 z2 f2;refine vY hK (fun W=>Below w1.heap.size w1 W∧Arr W g13 26 [.slice none 0 0,.slice none 0 0,.int .i64 0,.int .i64 0]∧w1.heap.size≤g13∧Arr W g14 29 [.int .i64 0,.slice none 0 0,.string ⟨#[]⟩]∧w1.heap.size≤g14∧g13≠g14) (fun W=>True) ?_ ?_ (fun wn5 hF _=> ?_)
             ·exact⟨(((hB).setCell (p:=⟨g14,0,none⟩) h14l _).setCell (p:=⟨g14,1,none⟩) h14l _).setCell (p:=⟨g14,2,none⟩) h14l _,(((h13).other (h1314n) _).other (h1314n) _).other (h1314n) _,h13l,h14.all3 _ _ _,h14l,h1314n⟩
             ·trivial
             clear h1314n h14l h14 h13l h13 hB;obtain⟨hB,h13,h13l,h14,h14l,h1314n⟩:=hF
             skip
             clear hK K
             try simp only [sqP]
             refine tkP 24 ?_
             try simp only [sqP]
             refine zB (by kernel_rfl) ?_ _
             try dsimp only [Exit.then]
             have hall:=And.intro hB (And.intro h13 (And.intro h13l (And.intro h14 (And.intro h14l h1314n))));clear h1314n h14l h14 h13l h13 hB;generalize wn5=wz at hall ⊢
             revert hall;revert wz;exact REST18.out
            exact z6.nil
           exact z6.nil
          exact z6.nil
         exact z6.nil
        exact z6.nil;intro  w5 hall;obtain⟨hB,h13,h13l,h14,h14l,h1314n⟩:=hall;go_wp2_with fail;go_meet;exact⟨hB,.inr ⟨_,rfl,HQ.out⟩⟩
     have q0:((kk:Int)==0)=false:=beq_eq_false_iff_ne.2 (by omega);have q1:((kk:Int)==1)=false:=beq_eq_false_iff_ne.2 (by omega);have q2:((kk:Int)==2)=false:=beq_eq_false_iff_ne.2 (by omega);have q3:((kk:Int)==3)=false:=beq_eq_false_iff_ne.2 (by omega);clear k0 k1 k2 k3;have HW01:=sqH hw01;obtain⟨⟨⟨x0,x1,x2,x3⟩,y0,y1,y2⟩, -⟩:=HSR.out w2 HB12.out;by_cases hp:c.phase=0
     ·have hpa:((c.phase:Int)==0)=true:=beq_iff_eq.2 (by omega);have hpb:decide ((c.phase:Int)=0)=true:=decide_eq_true (by omega);have HP:=sqH hp;clear hp;have hbg:=vf X cX Y dY s w2 HBY.out.g (HRD.out w2 HB12.out).1;have hbs:=HBY.out.begin.up (show i≤i+1 by omega);generalize qy s=t at *
      generalize k9 s=c1 at *
      have HBG:=sqH hbg;have HBS:=sqH hbs;clear hbg hbs;go_wp2_with fail;refine HBG.out.mono ?_;rintro e_ w5 ⟨Xa,ca,Ya,da,Ga,na,rfl,ho5,hl5,hb5⟩;dsimp only;clear x0 x1 x2 x3 y0 y1 y2;have h13:=H13.out.below hb5;have h14:=H14.out.below hb5;have hN:=HN.out;have hN':=HN.out.symm;obtain⟨x0,x1,x2,x3⟩:=sqC4 h13;obtain⟨y0,y1,y2⟩:=sqC3 h14;obtain⟨f0,f1,f2,f3⟩:=sqF4 h13;obtain⟨l0,l1,l2⟩:=sqF3 h14;have H13':=sqH h13;have H14':=sqH h14;have HO5:=sqH ho5;have HL5:=sqH hl5;have HB5:=sqH hb5;clear h13 h14 ho5 hl5 hb5;go_wp2_with fail;go_meet;obtain⟨a1,a2,a3,a4,a5⟩:=Z2 (u2:= .int .i64 t.room) (u3:= .int .i64 t.clock) (x0:= .int .i64 c1.phase) (x2:= .string ⟨c1.at_.toArray⟩) H13'.out H14'.out HN.out HO5.out HL5.out (Nat.le_trans HW01.out HB12.out.size) H13.out.lt H14.out.lt HB12.out HB5.out HB12.out.size HL13.out HL14.out;exact⟨a5,.inl ⟨rfl,Xa,ca,Ya,da,t,Ga,na,c1,a1,a2,.inl ⟨a3,a4⟩,HBS.out⟩⟩
     ·have hpa:((c.phase:Int)==0)=false:=beq_eq_false_iff_ne.2 (by omega);have hpb:decide ((c.phase:Int)=0)=false:=decide_eq_false (by omega);have hp12:c.phase=1∨c.phase=2:=by have:=HBY.out.gc.1;omega
      obtain⟨t,c1,dg,htc⟩:∃t c1 dg,zy s c=(t,c1,dg):=⟨_,_,_,rfl⟩
      have HTK:=sqH (UU X cX Y dY s Ag ng c w2 i hi31 HBY.out (HRD.out w2 HB12.out).1 (HRD.out w2 HB12.out).2 hp12 t c1 dg htc);have HBS:=sqH (V1 HBY.out hp12 htc);clear htc hp12 hp;go_wp2_with fail;refine HTK.out.mono ?_;rintro e_ w5 ⟨Xa,ca,Ya,da,Ga,na,rfl,ho5,hl5,hb5⟩;dsimp only;clear x0 x1 x2 x3 y0 y1 y2;have h13:=H13.out.below hb5;have h14:=H14.out.below hb5;have hN:=HN.out;have hN':=HN.out.symm;obtain⟨x0,x1,x2,x3⟩:=sqC4 h13;obtain⟨y0,y1,y2⟩:=sqC3 h14;obtain⟨f0,f1,f2,f3⟩:=sqF4 h13;obtain⟨l0,l1,l2⟩:=sqF3 h14;have H13':=sqH h13;have H14':=sqH h14;have HO5:=sqH ho5;have HL5:=sqH hl5;have HB5:=sqH hb5;clear h13 h14 ho5 hl5 hb5;go_wp2_with fail;go_meet;obtain⟨a1,a2,a3,a4,a5⟩:=Z2 (u2:= .int .i64 t.room) (u3:= .int .i64 t.clock) (x0:= .int .i64 c1.phase) (x2:= .string ⟨c1.at_.toArray⟩) H13'.out H14'.out HN.out HO5.out HL5.out (Nat.le_trans HW01.out HB12.out.size) H13.out.lt H14.out.lt HB12.out HB5.out HB12.out.size HL13.out HL14.out;exact⟨a5,.inl ⟨rfl,Xa,ca,Ya,da,t,Ga,na,c1,a1,a2,.inl ⟨a3,a4⟩,HBS.out⟩⟩
    case rest =>
     obtain⟨hbx,hor⟩:=hcut;rcases hor with ⟨rfl,X',cX',Y',dY',s',Ag',ng',c',h13,h14,hRx,hBs⟩ | ⟨q,rfl,hq⟩
     ·have x0:=h13.cell (k:=0) rfl;have x1:=h13.cell (k:=1) rfl;have x2:=h13.cell (k:=2) rfl;have x3:=h13.cell (k:=3) rfl;obtain⟨y0,y1,y2⟩:=sqC3 h14;have hrdx:=hRx.rd (HWA.out wc (HBW.out wc hbx));have HTF:=sqH (HCC.out (i+1) s' c' X' cX' Y' dY' Ag' ng' wc (by omega) hBs hrdx.1 hrdx.2);have H13':=sqH h13;have H14':=sqH h14;have HRX:=sqH hRx;have HBX:=sqH hBs;have HBC:=sqH hbx;clear h13 h14 hRx hBs hbx hrdx;go_wp2_with fail;refine HTF.out.mono ?_;rintro e_ w6 ⟨rfl,hb6⟩;dsimp only;clear x0 x1 x2 x3 y0 y1 y2;have hgh:¬(g13=H)∧¬(g13=H+1)∧¬(g14=H)∧¬(g14=H+1)∧¬(H=H+1):=by
       have h1:=HS1.out.lt;have h2:=HCO1.out.lt;have h3:=HL13.out;have h4:=HL14.out;omega
      obtain⟨n1,n2,n3,n4,n5⟩:=hgh;have hA:=(HS1.out.below HBC.out).below hb6;have hC:=(HCO1.out.below HBC.out).below hb6;have h13:=H13'.out.below hb6;have h14:=H14'.out.below hb6;obtain⟨x0,x1,x2,x3⟩:=sqC4 h13;obtain⟨y0,y1,y2⟩:=sqC3 h14;obtain⟨p0,p1,p2,p3⟩:=sqC4 hA;obtain⟨q0,q1,q2⟩:=sqC3 hC;obtain⟨f0,f1,f2,f3⟩:=sqF4 hA;obtain⟨l0,l1,l2⟩:=sqF3 hC;have HA:=sqH hA;have HC:=sqH hC;have HB6:=sqH hb6;have HN5:=sqH n5;clear hA hC h13 h14 hb6;go_wp2_with fail;go_region
      all_goals (try dsimp only [Exit.then])
      clear x0 x1 x2 x3 y0 y1 y2 p0 p1 p2 p3 q0 q1 q2 f0 f1 f2 f3 l0 l1 l2 n1 n2 n3 n4 n5;have HALL:=sqH (UX HA.out HC.out (((HRZ.out.below HBA.out).below HBC.out).below HB6.out) (((HQZ.out.below HBA.out).below HBC.out).below HB6.out) (HRX.out.below HB6.out) (show H<w0.heap.size by omega) (show H+1<w0.heap.size by omega) (show Below H w w6 by
       have h1:=HBW.out wc HBC.out;rw [HH.out];exact h1.trans (HB6.out.mono h1.size)))
      clear HA HC HRX HB6;go_wp2_with fail;go_roundg (n - (i+1))
      case measure=>have:=HGI.out;omega
      case rel =>
       obtain⟨a1,a2,a3,a4,a5,a6⟩:=HALL.out;exact⟨i+1,X',cX',Y',dY',s',Ag',ng',c',rfl,by go_num,by omega,by omega,a1,a2,a3,a4,a5,HBX.out,a6⟩
     ·have HS2:=sqH (HS1.out.below hbx);have HC2:=sqH (HCO1.out.below hbx);have HR2:=sqH ((HRZ.out.below HBA.out).below hbx);have HQ2:=sqH ((HQZ.out.below HBA.out).below hbx);have HRW2:=sqH (HRW.out wc hbx);have HBW2:=sqH (HBW.out wc hbx);clear hbx;rcases hq with rfl | rfl | rfl
      ·go_wp2_with fail;go_roundg (n - (i+1))
       case measure=>have:=HGI.out;omega
       case rel=>exact⟨i+1,X,cX,Y,dY,s,Ag,ng,c,rfl,by go_num,by omega,by omega,HS2.out,HC2.out,HR2.out,HQ2.out,HRW2.out,HBY.out.up (by omega),by rw [HH.out];exact HBW2.out⟩
      ·go_wp2_with fail;go_roundg (n - (i+1))
       case measure=>have:=HGI.out;omega
       case rel=>exact⟨i+1,X,cX,Y,dY,s,Ag,ng,c,rfl,by go_num,by omega,by omega,HS2.out,HC2.out,HR2.out,HQ2.out,HRW2.out,HBY.out.up (by omega),by rw [HH.out];exact HBW2.out⟩
      ·go_wp2_with fail;go_roundg (n - (i+1))
       case measure=>have:=HGI.out;omega
       case rel=>exact⟨i+1,X,cX,Y,dY,s,Ag,ng,c,rfl,by go_num,by omega,by omega,HS2.out,HC2.out,HR2.out,HQ2.out,HRW2.out,HBY.out.up (by omega),by rw [HH.out];exact HBW2.out⟩
  ·have hcc:decide (i<n)=false:=decide_eq_false hlt;have hci:decide ((i:Int)<(n:Int))=false:=decide_eq_false (by omega);obtain⟨e0,e1,e2,e3⟩:=sqC4 hS;obtain⟨d0,d1,d2⟩:=sqC3 hCo;obtain⟨p0,p1,p2,p3⟩:=sqC4 HRZ.out;obtain⟨q0,q1,q2⟩:=sqC3 HQZ.out;obtain⟨f0,f1,f2,f3⟩:=sqF4 HRZ.out;obtain⟨l0,l1,l2⟩:=sqF3 HQZ.out;have n1:¬(H=H+1+1):=by omega
   have n2:¬(H=H+1+1+1):=by omega
   have n3:¬(H+1=H+1+1):=by omega
   have n4:¬(H+1=H+1+1+1):=by omega
   have n5:¬(H+1+1=H+1+1+1):=by omega
   clear hS hCo;have HEND:=sqH (Yp (X:=X) (cX:=cX) (Y:=Y) (dY:=dY) (s:=s) (Ag:=Ag) (ng:=ng) (c:=c) HRZ.out HQZ.out HRWS.out (show H+1+1<w0.heap.size by omega) (show H+1+1+1<w0.heap.size by omega) HBL.out (by omega) (by omega) (by omega));go_wp2_with fail;go_region
   all_goals (try dsimp only [Exit.then])
   go_wp2_with fail;refine bodyPost_ret (zJ rfl _ _ (H+1+1) (H+1+1+1) _ _ _ _ _ _ _ _ (by rfl) HEND.out.2.2.1 Tryz.underlying26 rfl (by kernel_rfl) (by rfl) HEND.out.2.2.2 Tryz.underlying29 rfl (by kernel_rfl)) rfl ?_;obtain⟨z1,z2, -, -⟩:=HEND.out;exact⟨X,cX,Y,dY,s,Ag,ng,c,rfl,z1.mono (fun b hb=>by show b<w0.heap.size;have hb:b<H:=hb;omega),HBY.out.up hi31,z2⟩
end Go.Proofs.YtnmlbflhnnmoeaaGreat
