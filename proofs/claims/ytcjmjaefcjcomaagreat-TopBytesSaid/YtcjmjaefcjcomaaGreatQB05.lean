/- Lemmas, as stated. -/
import Derived.Test.YtcjmjaefcjcomaaGreatQB04
set_option linter.unusedVariables false
set_option linter.unusedSimpArgs false
set_option maxRecDepth 100000
set_option maxHeartbeats 8000000
open Go.Proofs.Tryz
open Go.Proofs.Tryz renaming prog->zZZ
open Go.Value renaming slice->aA,int->aB,string->aD
open Go.IntKind renaming i64->aC
open Go.Obj renaming cells->aE
open Option renaming none->aF,some->aG
namespace Go.Proofs.YtcjmjaefcjcomaaGreat
open Go.RowKit
variable {α:Type} {fs:List FlP} {l:List α} {b base bytes c cap g k n o size:Nat} {e e' t:TypeId} {a0 a1 a2 a3 v:Value} {w w':World} {A B:aj} {X Y xs ys:ak} {N:am}
def put4 (w:World) (g o:Nat) (u0 u1 u2 u3:Value):World:=(((w.setCell ⟨g,o,aF⟩ u0).setCell ⟨g,o+1,aF⟩ u1).setCell ⟨g,o+2,aF⟩ u2).setCell ⟨g,o+3,aF⟩ u3
theorem set4 {u0 u1 u2 u3:Value} (ho:X.length=o) :
  ((((X++ [a0,a1,a2,a3]++Y).set o u0).set (o+1) u1).set (o+2) u2).set (o+3) u3=X++ [u0,u1,u2,u3]++Y:=by
 subst ho;simp only [List.append_assoc];rw [List.set_append_right _ _ ag,List.set_append_right _ _ wu,List.set_append_right _ _ wu,List.set_append_right _ _ wu];simp
theorem Jg {s:Nat} (h:w.ownsRow base e s (aA (aG ⟨g,0,aF⟩) n cap) n (X++ [a0,a1,a2,a3]++Y)) (ho:X.length=o) (u0 u1 u2 u3:Value) :
  (put4 w g o u0 u1 u2 u3).ownsRow base e s (aA (aG ⟨g,0,aF⟩) n cap) n (X++ [u0,u1,u2,u3]++Y)/\w.grownBy (put4 w g o u0 u1 u2 u3) (aG g):=by
 have hl:(X++ [a0,a1,a2,a3]++Y).length=o+4+Y.length:=by simp [ho];omega
 obtain⟨k1,g1,_,_⟩:=xZ h (k:=o) wu u0;obtain⟨k2,g2,_,_⟩:=xZ k1 (k:=o+1) (by rw [List.length_set];omega) u1;obtain⟨k3,g3,_,_⟩:=xZ k2 (k:=o+2) (by rw [List.length_set,List.length_set];omega) u2;obtain⟨k4,g4,_,_⟩:=xZ k3 (k:=o+3) (by rw [List.length_set,List.length_set,List.length_set];omega) u3;rw [set4 ho]at k4;refine⟨k4,?_⟩;have t:∀ {a b c:World},a.grownBy b (aG g)->b.grownBy c (aG g)->a.grownBy c (aG g):=fun {a b c} h k =>
  ⟨k.os.trans h.os,k.tape.trans h.tape,k.output.trans h.output,Nat.le_trans h.size k.size,fun i hi hne=>(k.block i (Nat.lt_of_lt_of_le hi h.size) hne).trans (h.block i hi hne)⟩
 exact t (t (t g1 g2) g3) g4
section
variable {α:Type} {S:Shp α} {w:World} {e:TypeId} {base g cap:Nat}
end
section
variable {α:Type} {f:α->List UInt8}
structure Ins (f:α->List UInt8) (A:List α) (x:α) (B:List α):Prop where
 ris:RisesBy f (A++B)
 less:∀b∈B,Op.bytesLess (f x) (f b)=true
theorem Ins.done {A B:List α} {a x:α} (h:Ins f (A++ [a]) x B) (hl:Op.bytesLess (f a) (f x)=true):RisesBy f (A++ [a]++x::B):=by
 obtain⟨h1,h2,h3⟩:=List.pairwise_append.1 h.ris;refine List.pairwise_append.2 ⟨h1,List.pairwise_cons.2 ⟨h.less,h2⟩,fun y hy z hz=> ?_⟩;rcases List.mem_cons.1 hz with rfl | hz
 ·rcases List.mem_append.1 hy with hy | hy
  ·exact qi ((List.pairwise_append.1 h1).2.2 y hy a ab) hl
  ·have:=List.mem_singleton.1 hy;subst this;exact hl
 ·exact h3 y hy z hz
theorem z3y {l m:List α} (h:RisesBy f m) (hp:m.Perm l):m=srt f l:=by
 refine RisesBy.perm h (uz ?_) (hp.trans (q7 f l).symm);exact(hp.map f).nodup_iff.1 h.map.nodup
end
def RwX {α:Type} (S:Shp α) (e:TypeId) (w:World) (base:Nat) (v:Value) (l:List α) (N:am):Prop :=
 ∃ps:Cel α,ps.map (·.1)=l/\qJ S w ps/\w.ownsRow base e S.size v l.length (cls ps)/\∀p∈ps,∀b,(v.ownBlock=aG b\/N b)->¬leads b p.2
section
variable {α:Type} {S:Shp α} {w w':World} {e:TypeId} {base base':Nat} {v v':Value} {l:List α} {N N':am}
theorem RwX.rwo (h:RwX S e w base v l N):RwO S e w base v l:=by
 obtain⟨ps,h1,h2,h3,h4⟩:=h;exact⟨ps,h1,h2,h3,fun p hp b hb=>h4 p hp b (.inl hb)⟩
theorem RwX.below (h:RwX S e w base v l N) (hb:Below w.heap.size w w'):RwX S e w' base v l N:=by
 obtain⟨ps,h1,h2,h3,h4⟩:=h;exact⟨ps,h1,h2.below hb,zc h3 hb,h4⟩
theorem RwX.nil_ (h:w.ownsRow base e S.size v 0 []):RwX S e w base v [] N:=⟨[],rfl,(fun p hp=>nomatch hp),h,(fun p hp=>nomatch hp)⟩
theorem RwX.other {g:Option Nat} (h:RwX S e w base v l N) (hg:w.grownBy w' g) (hv:∀b,g=aG b->v.ownBlock≠aG b) (hN:∀b,g=aG b->N b):RwX S e w' base v l N:=by
 obtain⟨ps,h1,h2,h3,h4⟩:=h;refine⟨ps,h1,h2.grown hg (fun p hp b hb=>h4 p hp b (.inr (hN b hb))),h3.kept hg ?_,h4⟩;cases hb:v.ownBlock with
 | none=>exact .inl rfl
 | some b=>exact .inr (fun e1=>hv b e1.symm hb)
theorem RwX.wider (h:RwX S e w base v l N) (hN:∀b,N' b->N b\/w.heap.size<=b):RwX S e w base v l N':=by
 obtain⟨ps,h1,h2,h3,h4⟩:=h;refine⟨ps,h1,h2,h3,fun p hp b hb hl=> ?_⟩;rcases hb with hb | hb
 ·exact h4 p hp b (.inl hb) hl
 ·rcases hN b hb with h5 | h5
  ·exact h4 p hp b (.inr h5) hl
  ·have:=S.live (h2 p hp) b hl;omega
theorem RwX.open_ (h:RwX S e w base v l N):∃xs,w.ownsRow base e S.size v l.length xs /\
  ∀(x:α) (cs:ak) (w1 w2:World) (v2:Value),Below w.heap.size w w1->S.R w1 x cs->(∀b,(v.ownBlock=aG b\/N b)->¬leads b cs)->w2.ownsRow base e S.size v2 (l.length+1) (xs++cs)->w1.grownBy w2 v.ownBlock->(v2.ownBlock=v.ownBlock\/∃g,v2.ownBlock=aG g/\w1.heap.size<=g) ->
   RwX S e w2 base v2 (l++ [x]) N:=by
 obtain⟨ps,h1,h2,h3,h4⟩:=h;refine⟨_,h3,fun x cs w1 w2 v2 hb hx hxl ho hg hv=> ?_⟩;have h2':=h2.below hb;have hall:∀p∈ps++ [(x,cs)],S.R w1 p.1 p.2/\∀b,(v.ownBlock=aG b\/N b)->¬leads b p.2:=fun p hp=>by
  rcases List.mem_append.1 hp with h | h
  ·exact⟨h2' p h,h4 p h⟩
  ·have:=List.mem_singleton.1 h;subst this;exact⟨hx,hxl⟩
 refine⟨ps++ [(x,cs)],by simp [h1],?_,?_,fun p hp b hb hl=> ?_⟩
 ·exact qJ.grown (w:=w1) (g:=v.ownBlock) (fun p hp=>(hall p hp).1) hg (fun p hp b hb=>(hall p hp).2 b (.inl hb))
 ·rw [xg,List.length_append];simpa [cls] using ho
 ·rcases hb with hb | hb
  ·rcases hv with e1 | ⟨g,e1,hge⟩
   ·exact(hall p hp).2 b (.inl (by rw [<-e1];exact hb)) hl
   ·rw [e1]at hb;cases hb
    have:=S.live (hall p hp).1 _ hl;omega
  ·exact(hall p hp).2 b (.inr hb) hl
end
def Shp.off {α:Type} (S:Shp α) (N:am):Shp α where
 size:=S.size
 R w x cs:=S.R w x cs/\∀b,N b->¬leads b cs
 len h:=S.len h.1
 one h:=S.one h.1
 live h:=S.live h.1
 keep h hs hk:=⟨S.keep h.1 hs hk,h.2⟩
theorem RwX.off {S:Shp α} (h:RwX S e w base v l N):RwO (S.off N) e w base v l:=by
 obtain⟨ps,h1,h2,h3,h4⟩:=h;exact⟨ps,h1,fun p hp=>⟨h2 p hp,fun b hb=>h4 p hp b (.inr hb)⟩,h3,fun p hp b hb=>h4 p hp b (.inl hb)⟩
theorem RwO.on {S:Shp α} (h:RwO (S.off N) e w base v l):RwX S e w base v l N:=by
 obtain⟨ps,h1,h2,h3,h4⟩:=h;exact⟨ps,h1,fun p hp=>(h2 p hp).1,h3,fun p hp b hb=>hb.elim (h4 p hp b) ((h2 p hp).2 b)⟩
theorem zf (h:w.ownsRow base e size v n xs) (hA:Arr w g e' ys) (hne:e≠e'):v.ownBlock≠aG g:=fun hg=>by
 rcases h.2 with ⟨rfl,_⟩ | ⟨g',cap,cur,rfl,_,h2,_⟩
 ·cases hg
 ·cases hg
  have h3:=Eq.trans (Eq.symm h2) hA
  simp only [Option.some.injEq,Obj.cells.injEq]at h3
  exact hne h3.2.1
theorem JC {g':Nat} (h:Arr w g e xs) (h':Arr w g' e' ys) (hne:e≠e'):g≠g':=fun hg=>by
 subst hg
 have h3:=(h:w.heap[g]?=_).symm.trans h'
 simp only [Option.some.injEq,Obj.cells.injEq]at h3
 exact hne h3.2.1
theorem uG (h:w.ownsRow base e size v n xs):∃A c,v= aA A n c/\Sl w size A n c xs/\∀a,A=aG a->base<=a.block:=Sl.of_own h
structure StW (w:World) (H:Nat) (vb ve:Value) (s:AccP):Prop where
 box:Arr w (H+1) 38 [vb,ve,aB aC 0,aB aC s.aK]
 res:Arr w H 38 [aA aF 0 0,aA aF 0 0,aB aC 0,aB aC 0]
 b:RwX BlobS 55 w (H+2) vb s.aI (fun g=>(g=H\/g=H+1)\/ve.ownBlock=aG g)
 e:RwX EntS 120 w (H+2) ve s.aJ (fun g=>(g=H\/g=H+1)\/vb.ownBlock=aG g)
 ne:∀g,vb.ownBlock=aG g->ve.ownBlock≠aG g
theorem StW.below {H:Nat} {vb ve:Value} {s:AccP} (h:StW w H vb ve s) (hb:Below w.heap.size w w'):StW w' H vb ve s :=
 ⟨h.box.below hb,h.res.below hb,h.b.below hb,h.e.below hb,h.ne⟩
theorem ue:El zZZ 35 55 4 56:=El.mk' (z:= .agg #[aD ByteArray.empty,aA aF 0 0,aB aC 0,.bool false]) underlying35 ww rfl wu wu
theorem Xy:El zZZ 36 120 4 56:=El.mk' (z:= .agg #[aD ByteArray.empty,aA aF 0 0,aB aC 0,aB aC 0]) underlying36 ww rfl wu wu
theorem zF (w:World) (g k:Nat) (u:Value):w.grownBy (w.setCell ⟨g,k,aF⟩ u) (aG g):=⟨rfl,rfl,rfl,by simp [World.setCell],fun j _ hj=>Below.heap_setCell w _ u j (fun e=>hj (by rw [e]))⟩
theorem Arr.grown {r:Option Nat} (h:Arr w g e xs) (hg:w.grownBy w' r) (hne:r≠aG g):Arr w' g e xs:=(hg.block g h.lt (fun e=>hne e.symm)).trans h
theorem jH (x:BlobP) (B:aj) (c:Nat):∀u∈zX x B c,u.oneCell'=true:=by
 intro u hu;simp only [zX,List.mem_cons,List.not_mem_nil,or_false]at hu;rcases hu with rfl | rfl | rfl | rfl<;>rfl
theorem JM (x:EntP) (B:aj) (c:Nat):∀u∈ko x B c,u.oneCell'=true:=by
 intro u hu;simp only [ko,List.mem_cons,List.not_mem_nil,or_false]at hu;rcases hu with rfl | rfl | rfl | rfl<;>rfl
theorem Zo {x:BlobP} (h:leads b (zX x B c)):∃a,B=aG a/\a.block=b:=by
 obtain⟨a,n,c',hm,rfl⟩:=h;simp only [zX,List.mem_cons,List.not_mem_nil,or_false,Value.slice.injEq,reduceCtorEq,false_or]at hm;exact⟨a,hm.1.symm,rfl⟩
theorem UN {x:EntP} (h:leads b (ko x B c)):∃a,B=aG a/\a.block=b:=by
 obtain⟨a,n,c',hm,rfl⟩:=h;simp only [ko,List.mem_cons,List.not_mem_nil,or_false,Value.slice.injEq,reduceCtorEq,false_or]at hm;exact⟨a,hm.1.symm,rfl⟩
theorem yb.sl {l:ai} (h:yb w base A c l):Sl w 1 A l.length c (bys l)/\∀a,A=aG a->base<=a.block:=by
 have h1:=h.rd;have h2:=h.cap;obtain⟨g,rest,fz,rfl,hb,hg,hl,hm,hf⟩:=h;exact⟨⟨h1,h2.1,h2.2,fun a ha=>by cases ha;exact(Array.getElem?_eq_some_iff.1 hg).1⟩,fun a ha=>by cases ha;exact hb⟩
section
variable {w:World} {H:Nat} {vb ve:Value} {s:AccP}
theorem StW.lt (h:StW w H vb ve s):H+1<w.heap.size:=h.box.lt
theorem StW.bB (h:StW w H vb ve s):∀g,vb.ownBlock=aG g->H+2<=g/\g<w.heap.size:=fun g e=>h.b.rwo.blk e
theorem StW.bE (h:StW w H vb ve s):∀g,ve.ownBlock=aG g->H+2<=g/\g<w.heap.size:=fun g e=>h.e.rwo.blk e
theorem StW.rows (h:StW w H vb ve s) (k:Nat) (u:Value) :
  RwX BlobS 55 (w.setCell ⟨H+1,k,aF⟩ u) (H+2) vb s.aI (fun g=>(g=H\/g=H+1)\/ve.ownBlock=aG g)/\RwX EntS 120 (w.setCell ⟨H+1,k,aF⟩ u) (H+2) ve s.aJ (fun g=>(g=H\/g=H+1)\/vb.ownBlock=aG g)/\Arr (w.setCell ⟨H+1,k,aF⟩ u) H 38 [aA aF 0 0,aA aF 0 0,aB aC 0,aB aC 0] :=
 ⟨h.b.other (zF w _ k u) (fun b e1 e2=>by cases e1;have:=h.bB _ e2;omega) (fun b e=>by cases e;exact .inl (.inr rfl)),
  h.e.other (zF w _ k u) (fun b e1 e2=>by cases e1;have:=h.bE _ e2;omega) (fun b e=>by cases e;exact .inl (.inr rfl)),
  h.res.other wu u⟩
theorem Arr.all4 {w:World} {x0 x1 x2 x3:Value} (h:Arr w g e [x0,x1,x2,x3]) (y0 y1 y2 y3:Value) :
  Arr ((((w.setCell ⟨g,0,aF⟩ y0).setCell ⟨g,1,aF⟩ y1).setCell ⟨g,2,aF⟩ y2).setCell ⟨g,3,aF⟩ y3) g e [y0,y1,y2,y3] :=
 (((h.set (k:=0) ab y0).set (k:=1) ab y1).set (k:=2) ab y2).set (k:=3) ab y3
theorem RwX.set {S:Shp α} {w:World} (h:RwX S e w base v l N) (hg:g<base) (hN:N g) (u:Value):RwX S e (w.setCell ⟨g,k,aF⟩ u) base v l N :=
 h.other (zF w g k u) (fun b e1 e2=>by cases e1;have:=(h.rwo.blk e2).1;omega) (fun b e=>by cases e;exact hN)
end
theorem Arr.setsMid {g:Nat} {e:TypeId}:∀(ys xs zs ts:ak) (W:World),Arr W g e (zs++(xs++ts))->ys.length=xs.length->Arr (W.setCells g zs.length ys) g e (zs++(ys++ts))
 | [], [],zs,ts,W,h,_=>h
 | y::ys,x::xs,zs,ts,W,h,hl=>by
  have h1:=h.set (k:=zs.length) ab y
  rw [List.set_append_right _ _ ag,Nat.sub_self,List.cons_append,List.set_cons_zero]at h1
  have h2:=Arr.setsMid ys xs (zs++ [y]) ts _ (by simpa using h1) (by simpa using hl)
  rw [List.append_assoc]at h2
  simp only [List.length_append,List.length_cons,List.length_nil,Nat.zero_add]at h2
  exact h2
theorem xe (b off j:Nat):(⟨b,off,aF⟩:Addr).add j=⟨b,off+j,aF⟩:=by unfold Addr.add;split<;>simp_all
theorem xA {g k:Nat} (hne:k≠g):∀(ys:ak) (o:Nat) (W:World),(W.setCells g o ys).heap[k]?=W.heap[k]?
 | [],_,_=>rfl
 | y::ys,o,W=>(xA hne ys (o+1) _).trans (Below.heap_setCell W _ y k hne)
theorem Qw (W:World) (g o:Nat) (ys:ak):W.grownBy (W.setCells g o ys) (aG g) :=
 have h:=Below.sets (B:=0) (g:=g) (Nat.zero_le _) ys o W (Below.refl 0 W)
 ⟨h.os,h.tape,h.output,h.size,fun k hk hne=>xA (fun e=>hne (by rw [e])) ys o W⟩
section
variable {P:Program} {w:World}
theorem z20 {ty:TypeId} (E:El P t e size bytes) {us:ak} {m:Nat}
  (hown:w.ownsRow base e size (aA (aG ⟨g,0,aF⟩) n cap) n xs) (hl:us.length=m*size) (h1:∀u∈us,u.oneCell'=true) (hroom:n+m<=cap) :
  ∃w',(Builtin.append_ #[t,t] ty #[aA (aG ⟨g,0,aF⟩) n cap,aA (aG ⟨w.heap.size,0,aF⟩) m c]).run P (w.alloc (.cells us.toArray e'))= .ok (aA (aG ⟨g,0,aF⟩) (n+m) cap) w' /\
   w'.ownsRow base e size (aA (aG ⟨g,0,aF⟩) (n+m) cap) (n+m) (xs++us)/\w.grownBy w' (aG g):=by
 obtain⟨hu,⟨i,z,hi,hz,hs,hby,hzs⟩,hp,hq⟩:=E;subst hs;obtain⟨hxl,h2⟩:=hown;rcases h2 with ⟨h,_⟩ | ⟨g',cap',cur,e1,hb,hg,hn,hm,hsz,ht⟩
 ·cases h
 ·injection e1 with e1 _ e3;injection e1 with e1;injection e1 with e1;subst e1 e3;have hA0:Arr w g e cur.toList:=by simpa [Arr] using hg
  have hA:=hA0.alloc (.cells us.toArray e');have hcl:cur.toList.length=cap*i.size:=by simpa using hsz
  have hmul:(n+m)*i.size<=cap*i.size:=Nat.mul_le_mul_right _ hroom;rw [Nat.add_mul]at hmul;have hsplit:cur.toList=xs++((cur.toList.drop (n*i.size)).take (m*i.size)++cur.toList.drop ((n+m)*i.size)):=by
   have ht':cur.toList.take (n*i.size)=xs:=ht;rw [<-ht',Nat.add_mul,<-List.drop_drop,List.take_append_drop,List.take_append_drop]
  have hlt:=hA0.lt;have hrun:=run_append_room_cells (P:=P) (w:=w.alloc (.cells us.toArray e')) t ty e i hu hi g 0 n cap ⟨w.heap.size,0,aF⟩ m c us hl
   (fun j u hj=>by
    show(w.alloc _).cell? ((⟨w.heap.size,0,aF⟩:Addr).add j)=_;rw [xe,Nat.zero_add,World.cell?_alloc_new];simpa using hj) h1 hroom
   (fun j hj=>by
    rw [hA.cell (k:=0+n*i.size+j) (List.getElem?_eq_getElem (by rw [hcl];omega))];rfl)
   (fun j hj=>hA.frozen _)
  refine⟨_,hrun,⟨by rw [List.length_append,hxl,hl,Nat.add_mul],.inr ⟨g,cap,(xs++(us++cur.toList.drop ((n+m)*i.size))).toArray,rfl,hb,?_,hroom,hm,?_,?_⟩⟩,?_⟩
  ·rw [hsplit]at hA;have hA2:=Arr.setsMid us _ xs _ _ hA (by rw [List.length_take,List.length_drop,hcl,hl];omega);rw [Nat.zero_add,<-hxl];exact hA2
  ·simp only [List.size_toArray,List.length_append,List.length_drop,hcl,hxl,hl,Nat.add_mul];omega
  ·simp only [List.toList_toArray];rw [<-List.append_assoc,List.take_append_of_le_length (by rw [List.length_append,hxl,hl,Nat.add_mul];exact Nat.le_refl _),List.take_of_length_le (by rw [List.length_append,hxl,hl,Nat.add_mul];exact Nat.le_refl _)]
  ·have h5:=Qw (w.alloc (.cells us.toArray e')) g (0+n*i.size) us;exact⟨h5.os,h5.tape,h5.output,Nat.le_trans (by rw [World.size_alloc];omega) h5.size,fun k hk hne=>(h5.block k af hne).trans (Below.heap_alloc _ _ _ hk)⟩
theorem ju {ops:Array Oper} {rest:List Oper} {o:Oper} {a:Act} {Q:al} (hgd:o.guard=aF) (s x:Operand) 
  (ho:o.op= .call { callee:= .builtin .append,args:=#[s,x],argTypes:=#[t,t] }) (E:El P t e size bytes)
  {base g n cap:Nat} {xs:ak} (hs:a.eval s= aA (aG ⟨g,0,aF⟩) n cap) (hown:w.ownsRow base e size (aA (aG ⟨g,0,aF⟩) n cap) n xs)
  {us:ak} {m c:Nat} (hx:a.eval x= aA (aG ⟨w.heap.size,0,aF⟩) m c) (hl:us.length=m*size) (h1:∀u∈us,u.oneCell'=true) (hroom:n+m<=cap)
  (h:∀w',w'.ownsRow base e size (aA (aG ⟨g,0,aF⟩) (n+m) cap) (n+m) (xs++us)->w.grownBy w' (aG g)->wpList P ops Q rest (a.put o.dst (aA (aG ⟨g,0,aF⟩) (n+m) cap)) w') :
  wpList P ops Q (o::rest) a (w.alloc (.cells us.toArray e')) :=
 wpList_plain hgd fun K hK=>by
  obtain⟨w',hrun,h2,h3⟩:=z20 (P:=P) (ty:=o.type) (e':=e') E hown hl h1 hroom (c:=c)
  unfold Oper.wp execOp
  simp only [ho,resolve,invoke,builtin,Sem.run_bind,Sem.run_pure,Result.andThen_ok,List.map_toArray,List.map_cons,List.map_nil,hs,hx,hrun]
  exact hK _ _ (h w' h2 h3)
end
theorem Sl.other (h:Sl w size A n c xs) (hne:∀a,A=aG a->a.block≠g) (u:Value):Sl (w.setCell ⟨g,k,aF⟩ u) size A n c xs :=
 h.keep (by simp [World.setCell]) fun b hb hl=>by
  obtain⟨a,ha,rfl⟩:=hl
  exact Below.heap_setCell w _ u _ (hne a ha)
theorem yz (A:aj) (n c:Nat) (xs:ak) (w:World) (hb:n*40<=140737488355328) (hr:Rd w 3 A n xs) (h1:∀u∈xs,u.oneCell'=true) :
  Calls zZZ 95 #[aA A n c] w fun e w'=>∃v,e= .returned v/\w'.ownsRow w.heap.size 85 3 v n xs/\Below w.heap.size w w':=by
 have heq:=fun W=>Lib.run_eql_slice_nil (P:=zZZ) W 26 85 A n c 0 0 underlying26;cases A with
 | none =>
  obtain rfl:n=0:=by
   rcases Nat.eq_zero_or_pos n with h | h
   ·exact h
   ·obtain⟨_,_,h1,_⟩:=hr.2 h;cases h1
  obtain rfl:xs= []:=List.eq_nil_of_length_eq_zero (by simpa using hr.1);go_enter func95,ntmps95;go_wp2_with fail;go_ret;exact⟨_,rfl,World.ownsRow_nil _ _ _ _,Below.refl _ _⟩
 | some ad =>
  go_enter func95,ntmps95
  refine wL ?_;intros;refine zG rfl (.tmp 5) (.tmp 6) rfl Xz ac (World.ownsRow_made (size:=3) w #[] 0 ag (by simp [maxLen]) rfl) ac (hr.alloc _) h1 wu ab ?_;intro v1 w1 hown1 hg1 _;have hb1:=zh ((Below.refl _ _).alloc ag _) (World.ownsRow_made (size:=3) w #[] 0 ag (by simp [maxLen]) rfl) ag hg1;go_wp2_with fail;go_ret;exact⟨_,rfl,by simpa using hown1,hb1⟩
theorem vC (A:aj) (c:Nat) (l:List BlobP) (w:World) (hl:l.length<=100000) (hd:∀b∈l,b.data.length<=1000000) (hA:Rw BlobS w A l) :
  Calls zZZ 131 #[aA A l.length c] w fun e w'=>∃g,e= .returned (aA (aG ⟨g,0,aF⟩) l.length l.length)/\RwX BlobS 55 w' w.heap.size (aA (aG ⟨g,0,aF⟩) l.length l.length) l (fun b=>b<w.heap.size)/\Below w.heap.size w w':=by
 have HD:=sqH hd;clear hd
 let S:=BlobS
 go_enter func131,ntmps131
 refine wL ?_;intros;refine ya rfl (.const (aB aC 0)) (.tmp 7) rfl ue l.length ac ac rfl wu ?_;intro w1 g ho1 hb1;have hx1:RwX BlobS 55 w1 w.heap.size (aA (aG ⟨g,0,aF⟩) 0 l.length) [] (fun b=>b<w.heap.size):=RwX.nil_ ho1;clear ho1;go_wp2_with fail;go_loopg [3,11] l.length (fun gn v i wr=>∃j:Nat,gn=l.length - j/\i= aB aC j/\j<=l.length/\v= aA (aG ⟨g,0,aF⟩) j l.length/\RwX BlobS 55 wr w.heap.size (aA (aG ⟨g,0,aF⟩) j l.length) (l.take j) (fun b=>b<w.heap.size)/\Below w.heap.size w wr)
 case atStart=>exact⟨0,rfl,rfl,wu,rfl,hx1,hb1⟩
 case round =>
  clear hx1 hb1;obtain⟨j,hgk,rfl,hj,rfl,hx,hbl⟩:=hrel;have HGK:=sqH hgk;clear hgk;by_cases hlt:j<l.length
  ·have hcc:decide (j<l.length)=true:=decide_eq_true hlt;obtain⟨b,off,B,cb,rfl,hbb,c0,c1,c2,c3,hs⟩:=(hA.below hbl).blob_at j hlt;have hj0:=we j
   have hj1:(j:Int)<(l.length:Int):=wu;have HTK:=sqH (show l.take (j+1)=l.take j++ [l[j]] by rw [List.take_succ_eq_append_getElem hlt]);have hjl:(l.take j).length=j:=by rw [List.length_take];omega
   have HBD:=sqH (HD.o l[j] (List.getElem_mem hlt));generalize l[j]=x at *
   obtain⟨sx,hsx⟩:=wY (⟨x.dig.toArray⟩:ByteArray)
   rw [<-hsx]at c0;have HSX:=sqH hsx;clear hsx;have hX:Arr (wr.alloc (aE #[aD sx,aA B x.data.length cb,aB aC x.aQ,(.bool x.mark)] 55)) wr.heap.size 55 [aD sx,aA B x.data.length cb,aB aC x.aQ,(.bool x.mark)]:=Arr.new wr 55 _;have hba:=ws wr (aE #[aD sx,aA B x.data.length cb,aB aC x.aQ,(.bool x.mark)] 55);have hs2:=hs.below hba;have hbl2:=wm hbl hba;have hgw:wr.heap.size<(wr.alloc (aE #[aD sx,aA B x.data.length cb,aB aC x.aQ,(.bool x.mark)] 55)).heap.size:=ab;have x1:=hX.c1;have hxw:=hx.wider (N':=fun b=>b<w.heap.size\/b=wr.heap.size) (fun b hb=>hb.elim .inl (fun e=> .inr wu));have hx2:=hxw.below hba;have hsz:w.heap.size<=wr.heap.size:=hbl.size;have hgx:g<wr.heap.size:=(hx.rwo.blk rfl).2;clear hs hba hbl hx hxw;go_wp2_with fail;generalize wr.alloc (aE #[aD sx,aA B x.data.length cb,aB aC x.aQ,(.bool x.mark)] 55)=w2 at *
   generalize wr.heap.size=gx at *
   clear c0 c1 c2 c3 x1;have HCL:=sqH (kv B x.data.length cb x.data w2 rfl hs2.cap (wc HBD) hs2.rd);refine HCL.o.mono ?_;rintro e_ w3 ⟨v3,rfl,ho3,hb3⟩;dsimp only;obtain⟨A3,c3,rfl,hs3,hl3⟩:=uG ho3;have hX3:=hX.below hb3;have hx3:=hx2.below hb3;have hbl3:=wm hbl2 hb3;have hx4:=(hx3.other (zF w3 gx 1 (aA A3 x.data.length c3)) (fun b e1 e2=>by cases e1;have e3:g=gx:=Option.some.inj e2;omega) (fun b e=> .inr (by cases e;rfl))).wider (N':=fun b=>b<w.heap.size) (fun b hb=> .inl (.inl hb));have hX4:=hX3.set (k:=1) ab (aA A3 x.data.length c3);have hs4:=hs3.other (g:=gx) (k:=1) (fun a ha=>by have:=hl3 a ha;omega) (aA A3 x.data.length c3);have hbl4:=hbl3.setCell (p:=⟨gx,1,aF⟩) hsz (aA A3 x.data.length c3);have f1:=hX3.frozen 1;have x1:=hX3.c1;obtain⟨z0,z1,z2,z3⟩:=sqC4 hX4;have hge3:∀a,A3=aG a->w.heap.size<=a.block/\a.block≠g:=fun a ha=>by have:=hl3 a ha;have:=hb3.size;omega
   clear hX hX3 ho3 hs3 hx2 hx3 hs2 hb3 hbl2 hbl3 hl3;obtain⟨xs,hxo,hop⟩:=hx4.open_;rw [hjl]at hxo hop;have HOP:=sqH hop;clear hop hX4
   refine wL ?_;intros;clear x1 f1 z0 z1 z2 z3;have hz34:(w3.setCell ⟨gx,1,aF⟩ (aA A3 x.data.length c3)).heap.size=w3.heap.size:=by simp [World.setCell]
   rw [<-hz34];clear hz34;generalize w3.setCell ⟨gx,1,aF⟩ (aA A3 x.data.length c3)=w4 at *
   have hw4:w.heap.size<=w4.heap.size:=hbl4.size;refine ju rfl (.tmp 19) (.tmp 21) rfl ue ac hxo (us:= [aD sx,aA A3 x.data.length c3,aB aC x.aQ,(.bool x.mark)]) ac rfl (by
    intro u hu;simp only [List.mem_cons,List.not_mem_nil,or_false]at hu;rcases hu with rfl | rfl | rfl | rfl<;>rfl) wu ?_
   intro w5 ho5 hg5;have hcs:S.R w4 x [aD sx,aA A3 x.data.length c3,aB aC x.aQ,(.bool x.mark)]:=⟨A3,c3,by rw [HSX.o];rfl,hs4⟩
   have hx5:=HOP.o x _ w4 w5 _ (Below.refl _ _) hcs (fun b hb ⟨a,n',c',hm,e⟩=>by
    simp only [List.mem_cons,List.not_mem_nil,or_false,Value.slice.injEq,reduceCtorEq,false_or]at hm;obtain⟨q1,q2⟩:=hge3 a hm.1.symm;rcases hb with hb | hb
    ·cases hb;exact q2 e
    ·omega) ho5 hg5 (.inl rfl)
   have hbl5:=hbl4.grown hg5 hw4 (fun k hk=>by cases hk;exact(hx5.rwo.blk rfl).1);clear hxo hx4 hs4 hbl4 ho5 hg5 hcs hge3;rw [<-HTK.o]at hx5;go_wp2_with fail;go_roundg (l.length - (j+1))
   case measure=>exact wc HGK
   case rel=>exact⟨j+1,rfl,by go_num,wu,rfl,hx5,hbl5⟩
  ·obtain rfl:j=l.length:=by omega
   have hcc:decide (l.length<l.length)=false:=ab;rw [List.take_length]at hx;go_wp2_with fail;go_ret;exact⟨g,rfl,hx,hbl⟩
theorem QU (A:aj) (c:Nat) (l:List EntP) (w:World) (hl:l.length<=100000) (hd:∀x∈l,x.aP.length<=1000000) (hA:Rw EntS w A l) :
  Calls zZZ 132 #[aA A l.length c] w fun e w'=>∃g,e= .returned (aA (aG ⟨g,0,aF⟩) l.length l.length)/\RwX EntS 120 w' w.heap.size (aA (aG ⟨g,0,aF⟩) l.length l.length) l (fun b=>b<w.heap.size)/\Below w.heap.size w w':=by
 have HD:=sqH hd;clear hd
 let S:=EntS
 go_enter func132,ntmps132
 refine wL ?_;intros;refine ya rfl (.const (aB aC 0)) (.tmp 7) rfl Xy l.length ac ac rfl wu ?_;intro w1 g ho1 hb1;have hx1:RwX EntS 120 w1 w.heap.size (aA (aG ⟨g,0,aF⟩) 0 l.length) [] (fun b=>b<w.heap.size):=RwX.nil_ ho1;clear ho1;go_wp2_with fail;go_loopg [3,11] l.length (fun gn v i wr=>∃j:Nat,gn=l.length - j/\i= aB aC j/\j<=l.length/\v= aA (aG ⟨g,0,aF⟩) j l.length/\RwX EntS 120 wr w.heap.size (aA (aG ⟨g,0,aF⟩) j l.length) (l.take j) (fun b=>b<w.heap.size)/\Below w.heap.size w wr)
 case atStart=>exact⟨0,rfl,rfl,wu,rfl,hx1,hb1⟩
 case round =>
  clear hx1 hb1;obtain⟨j,hgk,rfl,hj,rfl,hx,hbl⟩:=hrel;have HGK:=sqH hgk;clear hgk;by_cases hlt:j<l.length
  ·have hcc:decide (j<l.length)=true:=decide_eq_true hlt;obtain⟨b,off,B,cb,rfl,hbb,c0,c1,c2,c3,hs⟩:=(hA.below hbl).ent_at j hlt;have hj0:=we j
   have hj1:(j:Int)<(l.length:Int):=wu;have HTK:=sqH (show l.take (j+1)=l.take j++ [l[j]] by rw [List.take_succ_eq_append_getElem hlt]);have hjl:(l.take j).length=j:=by rw [List.length_take];omega
   have HBD:=sqH (HD.o l[j] (List.getElem_mem hlt));generalize l[j]=x at *
   obtain⟨sx,hsx⟩:=wY (⟨x.key.toArray⟩:ByteArray)
   rw [<-hsx]at c0;have HSX:=sqH hsx;clear hsx;have hX:Arr (wr.alloc (aE #[aD sx,aA B x.aP.length cb,aB aC x.aQ,(aB aC x.aO)] 120)) wr.heap.size 120 [aD sx,aA B x.aP.length cb,aB aC x.aQ,(aB aC x.aO)]:=Arr.new wr 120 _;have hba:=ws wr (aE #[aD sx,aA B x.aP.length cb,aB aC x.aQ,(aB aC x.aO)] 120);have hs2:=hs.below hba;have hbl2:=wm hbl hba;have hgw:wr.heap.size<(wr.alloc (aE #[aD sx,aA B x.aP.length cb,aB aC x.aQ,(aB aC x.aO)] 120)).heap.size:=ab;have x1:=hX.c1;have hxw:=hx.wider (N':=fun b=>b<w.heap.size\/b=wr.heap.size) (fun b hb=>hb.elim .inl (fun e=> .inr wu));have hx2:=hxw.below hba;have hsz:w.heap.size<=wr.heap.size:=hbl.size;have hgx:g<wr.heap.size:=(hx.rwo.blk rfl).2;clear hs hba hbl hx hxw;go_wp2_with fail;generalize wr.alloc (aE #[aD sx,aA B x.aP.length cb,aB aC x.aQ,(aB aC x.aO)] 120)=w2 at *
   generalize wr.heap.size=gx at *
   clear c0 c1 c2 c3 x1;have HCL:=sqH (yz B x.aP.length cb (pcs x.aP) w2 (wc HBD) hs2.rd (jX _));refine HCL.o.mono ?_;rintro e_ w3 ⟨v3,rfl,ho3,hb3⟩;dsimp only;obtain⟨A3,c3,rfl,hs3,hl3⟩:=uG ho3;have hX3:=hX.below hb3;have hx3:=hx2.below hb3;have hbl3:=wm hbl2 hb3;have hx4:=(hx3.other (zF w3 gx 1 (aA A3 x.aP.length c3)) (fun b e1 e2=>by cases e1;have e3:g=gx:=Option.some.inj e2;omega) (fun b e=> .inr (by cases e;rfl))).wider (N':=fun b=>b<w.heap.size) (fun b hb=> .inl (.inl hb));have hX4:=hX3.set (k:=1) ab (aA A3 x.aP.length c3);have hs4:=hs3.other (g:=gx) (k:=1) (fun a ha=>by have:=hl3 a ha;omega) (aA A3 x.aP.length c3);have hbl4:=hbl3.setCell (p:=⟨gx,1,aF⟩) hsz (aA A3 x.aP.length c3);have f1:=hX3.frozen 1;have x1:=hX3.c1;obtain⟨z0,z1,z2,z3⟩:=sqC4 hX4;have hge3:∀a,A3=aG a->w.heap.size<=a.block/\a.block≠g:=fun a ha=>by have:=hl3 a ha;have:=hb3.size;omega
   clear hX hX3 ho3 hs3 hx2 hx3 hs2 hb3 hbl2 hbl3 hl3;obtain⟨xs,hxo,hop⟩:=hx4.open_;rw [hjl]at hxo hop;have HOP:=sqH hop;clear hop hX4
   refine wL ?_;intros;clear x1 f1 z0 z1 z2 z3;have hz34:(w3.setCell ⟨gx,1,aF⟩ (aA A3 x.aP.length c3)).heap.size=w3.heap.size:=by simp [World.setCell]
   rw [<-hz34];clear hz34;generalize w3.setCell ⟨gx,1,aF⟩ (aA A3 x.aP.length c3)=w4 at *
   have hw4:w.heap.size<=w4.heap.size:=hbl4.size;refine ju rfl (.tmp 19) (.tmp 21) rfl Xy ac hxo (us:= [aD sx,aA A3 x.aP.length c3,aB aC x.aQ,(aB aC x.aO)]) ac rfl (by
    intro u hu;simp only [List.mem_cons,List.not_mem_nil,or_false]at hu;rcases hu with rfl | rfl | rfl | rfl<;>rfl) wu ?_
   intro w5 ho5 hg5;have hcs:S.R w4 x [aD sx,aA A3 x.aP.length c3,aB aC x.aQ,(aB aC x.aO)]:=⟨A3,c3,by rw [HSX.o];rfl,hs4⟩
   have hx5:=HOP.o x _ w4 w5 _ (Below.refl _ _) hcs (fun b hb ⟨a,n',c',hm,e⟩=>by
    simp only [List.mem_cons,List.not_mem_nil,or_false,Value.slice.injEq,reduceCtorEq,false_or]at hm;obtain⟨q1,q2⟩:=hge3 a hm.1.symm;rcases hb with hb | hb
    ·cases hb;exact q2 e
    ·omega) ho5 hg5 (.inl rfl)
   have hbl5:=hbl4.grown hg5 hw4 (fun k hk=>by cases hk;exact(hx5.rwo.blk rfl).1);clear hxo hx4 hs4 hbl4 ho5 hg5 hcs hge3;rw [<-HTK.o]at hx5;go_wp2_with fail;go_roundg (l.length - (j+1))
   case measure=>exact wc HGK
   case rel=>exact⟨j+1,rfl,by go_num,wu,rfl,hx5,hbl5⟩
  ·obtain rfl:j=l.length:=by omega
   have hcc:decide (l.length<l.length)=false:=ab;rw [List.take_length]at hx;go_wp2_with fail;go_ret;exact⟨g,rfl,hx,hbl⟩
theorem jr (n:Int) (w:World):Calls zZZ 143 #[aB aC n] w fun e w'=>e= .returned (.bool (decide (1<=n/\n<=1000)))/\w=w':=by
 by_cases h1:1<=n
 ·by_cases h2:n<=1000
  ·have e1:decide (1<=n)=true:=by simpa using h1
   have e2:decide (n<=1000)=true:=by simpa using h2
   have e3:decide (1<=n/\n<=1000)=true:=by simp [h1,h2]
   have H3:=sqH e3;clear e3;go_enter func143,ntmps143
   refine wL ?_;intros;go_ret;rw [H3.o];exact⟨rfl,rfl⟩
  ·have e1:decide (1<=n)=true:=by simpa using h1
   have e2:decide (n<=1000)=false:=by simpa using h2
   have e3:decide (1<=n/\n<=1000)=false:=by simp [h1,h2]
   have H3:=sqH e3;clear e3;go_enter func143,ntmps143
   refine wL ?_;intros;go_ret;rw [H3.o];exact⟨rfl,rfl⟩
 ·have e1:decide (1<=n)=false:=by simpa using h1
  have e3:decide (1<=n/\n<=1000)=false:=by simp [h1]
  have H3:=sqH e3;clear e3;go_enter func143,ntmps143
  refine wL ?_;intros;go_ret;rw [H3.o];exact⟨rfl,rfl⟩
theorem z19:El zZZ 80 3 1 8:=El.mk' (z:= aB aC 0) underlying80 ww rfl wu wu
theorem XV (l:List Int):∀u∈ins l,u.oneCell'=true:=by
 intro u hu;simp only [ins,List.mem_map]at hu;obtain⟨_,_,rfl⟩:=hu;rfl
theorem yc (A:aj) (c:Nat) (l:List Int) (x:Int) (w:World) (hn:l.length<=9223372036854775807) (hr:Rd w 1 A l.length (ins l)) :
  Calls zZZ 145 #[aA A l.length c,aB aC x] w fun e w'=>e= .returned (.bool (l.contains x))/\w=w':=by
 rcases Nat.eq_zero_or_pos l.length with h0 | h0
 ·obtain rfl:=List.eq_nil_of_length_eq_zero h0;exact(Tryz.slices_Contains_int_empty A c x w).mono fun e w' h=>⟨h.1,h.2.symm⟩
 ·obtain⟨b,off,rfl,_,hc⟩:=hr.2 h0;refine(Tryz.slices_Contains_int b off l.length c l x w ag hn (fun j hj=>hc j _ ?_)).mono fun e w' h=>⟨?_,h.2.symm⟩
  ·rw [ins,List.getElem?_map,List.getElem?_eq_getElem hj,List.getD_eq_getElem?_getD,List.getElem?_eq_getElem hj];rfl
  ·rw [h.1,List.take_length]
theorem ud (s:ByteArray) (ld:Int) (A:aj) (c:Nat) (l:List Int) (w:World) (hn:l.length<=1000000) (hr:Rd w 1 A l.length (ins l)) :
  Calls zZZ 146 #[.agg #[aD s,aB aC ld,aA A l.length c]] w fun e w'=>∃v,e= .returned v/\w'.ownsRow w.heap.size 3 1 v (l.length+1) (ins (ld::l))/\Below w.heap.size w w':=by
 have hb1:=ws w (aE #[aD s,aB aC ld,aA A l.length c] 90);have hr1:=hr.alloc (aE #[aD s,aB aC ld,aA A l.length c] 90);go_enter func146,ntmps146
 refine wL ?_;intros;have hs1:(w.alloc (aE #[aD s,aB aC ld,aA A l.length c] 90)).heap.size=w.heap.size+1:=World.size_alloc _ _;generalize w.alloc (aE #[aD s,aB aC ld,aA A l.length c] 90)=w1 at *
 rw [<-hs1];have ho:(w1.alloc (aE #[aB aC ld] 3)).ownsRow w.heap.size 3 1 (aA (aG ⟨w1.heap.size,0,aF⟩) 1 1) 1 [aB aC ld] :=
  ⟨rfl,.inr ⟨w1.heap.size,1,#[aB aC ld],rfl,hb1.size,World.alloc_heap_new w1 _,Nat.le_refl _,by simp [maxLen],rfl,rfl⟩⟩
 have hb2:=hb1.alloc hb1.size (aE #[aB aC ld] 3);have hr2:=hr1.alloc (aE #[aB aC ld] 3);refine zG rfl (.tmp 5) (.tmp 7) rfl z19 ac ho ac hr2 (XV l) wu hb2.size ?_;intro v3 w3 ho3 hg3 _;have hb3:=zh hb2 ho ag hg3;rw [Nat.add_comm 1 l.length]at ho3
 refine wL ?_;intros;go_ret;exact⟨_,rfl,ho3,hb3⟩
theorem Ub (s k:ByteArray) (ld:Int) (sl:Value) (gk:Nat) (w:World) (hk:w.cell? ⟨gk,0,aF⟩=aG (aD k)) (hg:gk<w.heap.size) :
  Calls zZZ 125 #[.agg #[aD s,aB aC ld,sl],.pointer (aG ⟨gk,0,aF⟩)] w fun e w'=>e= .returned (.bool (s.toList==k.toList))/\Below w.heap.size w w':=by
 have hb1:=ws w (aE #[aD s,aB aC ld,sl] 90);have hk1:(w.alloc (aE #[aD s,aB aC ld,sl] 90)).cell? ⟨gk,0,aF⟩=aG (aD k):=(World.cell?_alloc_lt w _ ⟨gk,0,aF⟩ hg).trans hk;go_enter func125,ntmps125;go_wp2_with fail;go_ret;exact⟨rfl,hb1⟩
def fnd:Nat->List FlP->List UInt8->Option Nat
 | _, [],_=>aF
 | i,p::r,k=>if p.key=k then aG i else fnd (i+1) r k
theorem z0f (A:aj) (c:Nat) (fs:List FlP) (k:ByteArray) (gq:Nat) (w:World) (hn:fs.length<=1000000) (hf:Fls w A fs) (hk:w.cell? ⟨gq,0,aF⟩=aG (aD k)) (hg:gq<w.heap.size) :
  Calls zZZ 124 #[aA A fs.length c,.func (.func 125) #[] #[.pointer (aG ⟨gq,0,aF⟩)]] w fun e w' =>
   e= .returned (aB aC (match fnd 0 fs k.data.toList with | some i=>(i:Int) | none=> -1))/\Below w.heap.size w w':=by
 generalize hR:fnd 0 fs k.data.toList=R;have HR:=sqH hR;clear hR;go_enter func124,ntmps124
 refine wL ?_;intros;go_loopg [5,8] fs.length (fun gn u i wr=>∃j:Nat,gn=fs.length - j/\i= aB aC j/\j<=fs.length/\fnd 0 fs k.data.toList=fnd j (fs.drop j) k.data.toList/\Below w.heap.size w wr)
 case atStart=>exact⟨0,rfl,rfl,wu,rfl,Below.refl _ _⟩
 case round =>
  obtain⟨j,hgk,rfl,hj,hfn,hbl⟩:=hrel;have HGK:=sqH hgk;clear hgk;by_cases hlt:j<fs.length
  ·have hcc:decide (j<fs.length)=true:=decide_eq_true hlt;obtain⟨b,off,B,cb,rfl,hbb,c0,c1,c2,_,_,_⟩:=(hf.below hbl).at_ j hlt;have hj0:=we j
   have hj1:(j:Int)<(fs.length:Int):=wu;have hstep:fnd j (fs.drop j) k.data.toList=if fs[j].key=k.data.toList then aG j else fnd (j+1) (fs.drop (j+1)) k.data.toList:=by
    rw [List.drop_eq_getElem_cons hlt,fnd]
   obtain⟨s,hs⟩:=wY (⟨fs[j].key.toArray⟩:ByteArray)
   have hsd:s.data.toList=fs[j].key:=by rw [hs]
   rw [<-hs]at c0;rw [<-hsd]at hstep;have HST:=sqH (hfn.trans hstep);generalize fs[j].lead=ld at *
   generalize fs[j].wait.length=wl at *
   have hkk:=(hbl.cell (p:=⟨gq,0,aF⟩) hg).trans hk;have hgg:=Nat.lt_of_lt_of_le hg hbl.size;clear hfn hstep hs hsd
   refine wL ?_;intros;refine wZ (Ub s k ld (aA B wl cb) gq wr hkk hgg) fun w5 hb5=>?_;dsimp only;have hb05:=wm hbl hb5;by_cases he:s.data.toList=k.data.toList
   ·have e1:(s.toList==k.toList)=true:=by rw [ByteArray.toList_eq,ByteArray.toList_eq,he,beq_self_eq_true]
    have HF:=sqH (show R=aG j from by rw [<-HR.o,HST.o,if_pos he]);rw [e1];clear he e1
    refine wL ?_;intros;go_ret;rw [HF.o];exact⟨rfl,hb05⟩
   ·have e1:(s.toList==k.toList)=false:=by rw [beq_eq_false_iff_ne,ByteArray.toList_eq,ByteArray.toList_eq];exact he
    have HF:=sqH (show fnd 0 fs k.data.toList=fnd (j+1) (fs.drop (j+1)) k.data.toList from by rw [HST.o,if_neg he]);rw [e1];clear he e1
    refine wL ?_;intros;go_roundg (fs.length - (j+1))
    case measure=>exact wc HGK
    case rel=>exact⟨j+1,rfl,by go_num,wu,HF.o,hb05⟩
  ·obtain rfl:j=fs.length:=by omega
   have hcc:decide (fs.length<fs.length)=false:=ab;have HF:=sqH (show R=aF from by rw [<-HR.o,hfn,List.drop_length,fnd]);clear hfn
   refine wL ?_;intros;go_ret;rw [HF.o];exact⟨rfl,hbl⟩
theorem kP (A:aj) (c:Nat) (fs:List FlP) (k:ByteArray) (w:World) (hn:fs.length<=1000000) (hf:Fls w A fs) :
  Calls zZZ 89 #[aA A fs.length c,aD k] w fun e w'=>e= .returned (.tuple (match fnd 0 fs k.data.toList with | some i=>#[aB aC i,aB aC 0] | none=>#[aB aC 0,aB aC 5]))/\Below w.heap.size w w':=by
 obtain⟨w1,hw1⟩:=wY (w.alloc (aE #[aD k] 9))
 have hb1:Below w.heap.size w w1:=by rw [hw1];exact(Below.refl _ _).alloc ag _
 have hk1:w1.cell? ⟨w.heap.size,0,aF⟩=aG (aD k):=by rw [hw1];exact(Arr.new w 9 [aD k]).c0
 have hg1:w.heap.size<w1.heap.size:=by rw [hw1];simp
 have HI:=sqH (z0f A c fs k w.heap.size w1 hn (hf.below hb1) hk1 hg1);have HW:=sqH hw1;clear hw1 hk1 hf;cases hfn:fnd 0 fs k.data.toList with
 | none =>
  have hi:=HI.o;rw [hfn]at hi;dsimp only at hi;clear HI hfn;go_enter func89,ntmps89;go_wp2_with fail;rw [<-HW.o];refine wZ hi fun w2 hb2=>?_;dsimp only;go_wp2_with fail;go_ret2;exact⟨rfl,wm hb1 hb2⟩
 | some i =>
  have hi:=HI.o;rw [hfn]at hi;dsimp only at hi;have hneg:decide ((i:Int)<0)=false:=decide_eq_false wu;clear HI hfn;go_enter func89,ntmps89;go_wp2_with fail;rw [<-HW.o];refine wZ hi fun w2 hb2=>?_;dsimp only;go_wp2_with fail;go_ret2;exact⟨rfl,wm hb1 hb2⟩
def CrewOk (l:List Int):Prop:=∀j (h:j<l.length),(1<=l[j]/\l[j]<=1000)/\(l.take j).contains l[j]=false
structure GoodF (fs:List FlP):Prop where
 len:fs.length<=6
 key:∀j (h:j<fs.length),hexC fs[j].key=0/\fs[j].key.length<=1000
 one:∀j (h:j<fs.length),fnd 0 (fs.take j) fs[j].key=aF
 few:∀j (h:j<fs.length),fs[j].wait.length<=5
 crew:∀j (h:j<fs.length),CrewOk (fs[j].lead::fs[j].wait)
theorem uV:∀(fs:List FlP) (As:List (aj×Nat)) (k:Nat),As.length=fs.length ->
  ((fs.zip As).flatMap fun x=>qP x.1 x.2.1 x.2.2).take (k*3)=((fs.take k).zip (As.take k)).flatMap fun x=>qP x.1 x.2.1 x.2.2
 | [], [],k,_=>by simp
 | f::fs,a::As,0,_=>by simp
 | f::fs,a::As,k+1,h=>by
  rw [List.zip_cons_cons,List.flatMap_cons,List.take_succ_cons,List.take_succ_cons,List.zip_cons_cons,List.flatMap_cons,
   <-uV fs As k (by simpa using h),List.take_append,List.take_of_length_le (by simp [qP];omega)]
  congr 2
  simp [qP];omega
theorem Fls.take (h:Fls w A fs) (k:Nat) (hk:k<=fs.length):Fls w A (fs.take k):=by
 obtain⟨As,h1,h2,h3⟩:=h;refine⟨As.take k,by rw [List.length_take,List.length_take,h1],?_,fun j p a hp ha=> ?_⟩
 ·have:=h2.pre hk;rw [uV fs As k h1]at this;rw [List.length_take,Nat.min_eq_left hk];exact this
 ·rw [List.getElem?_take]at hp ha;split at hp
  ·rename_i hjk;rw [if_pos hjk]at ha;exact h3 j p a hp ha
  ·cases hp
theorem kb (A:aj) (c:Nat) (fs:List FlP) (w:World) (hG:GoodF fs) (hf:Fls w A fs) (hc:fs.length<=c) (hm:c<=maxLen) :
  Calls zZZ 123 #[aA A fs.length c] w fun e w'=>e= .returned (aB aC 0)/\Below w.heap.size w w':=by
 have HG:=sqH hG;have hn6:=hG.len;have e6:decide ((6:Int)<(fs.length:Int))=false:=decide_eq_false wu;have e6':decide (6<fs.length)=false:=decide_eq_false wu;have hcm:(c:Int)<=9223372036854775807:=by unfold maxLen at hm;omega
 clear hG;go_enter func123,ntmps123;go_wp2_with fail;go_loopg [3,16,4] fs.length (fun gn u i v wr=>∃j:Nat,gn=fs.length - j/\i= aB aC j/\j<=fs.length/\Below w.heap.size w wr)
 case atStart=>exact⟨0,rfl,rfl,wu,Below.refl _ _⟩
 case round =>
  obtain⟨j,hgk,rfl,hj,hbl⟩:=hrel;have HGK:=sqH hgk;clear hgk;by_cases hlt:j<fs.length
  ·have hcc:decide (j<fs.length)=true:=decide_eq_true hlt;have hfl:=hf.below hbl;obtain⟨b,off,B,cb,rfl,hbb,c0,c1,c2,hrw,hwc,hcbm⟩:=hfl.at_ j hlt;have hft:=hfl.take j wu;have hk:=HG.o.key j hlt;have h1:=HG.o.one j hlt;have hfw:=HG.o.few j hlt;have hcr:=HG.o.crew j hlt;have htl:(fs.take j).length=j:=by rw [List.length_take];omega
   obtain⟨s,hs⟩:=wY (⟨fs[j].key.toArray⟩:ByteArray)
   have hsd:s.data.toList=fs[j].key:=by rw [hs]
   have hss:s.size<=140737488351232:=by
    have h2:s.data.toList.length=s.size:=by rw [Array.length_toList];rfl
    rw [hsd]at h2;omega
   rw [<-hs]at c0;rw [<-hsd]at hk h1;generalize fs[j].lead=ld at *
   generalize fs[j].wait=wt at *
   have hj0:=we j
   have hj1:(j:Int)<(fs.length:Int):=wu;have hjc:(j:Int)<=(c:Int):=wu;obtain⟨HK,HT,H1,HCR⟩:=sqJ4 hk htl h1 hcr;have hP:=Arr.new wr 90 [aD s,aB aC ld,aA B wt.length cb];have hb1:=hbl.alloc hbl.size (aE #[aD s,aB aC ld,aA B wt.length cb] 90);have hft1:Fls (wr.alloc (aE #[aD s,aB aC ld,aA B wt.length cb] 90)) (aG ⟨b,off,aF⟩) (fs.take j):=hft.below ((Below.refl _ _).alloc ag _);have hrw1:=hrw.alloc (aE #[aD s,aB aC ld,aA B wt.length cb] 90);have hP':Arr (wr.alloc (aE #[aD s,aB aC ld,aA B wt.length cb] 90)) wr.heap.size 90 [aD s,aB aC ld,aA B wt.length cb]:=hP;clear hk h1 hcr hs hsd htl hft hrw hfl hP;go_wp2_with fail;generalize wr.alloc (aE #[aD s,aB aC ld,aA B wt.length cb] 90)=w1 at *
   generalize wr.heap.size=gp at *
   refine wZ (kF 0 rfl HK.o.1 w1 hss) fun w2 hb2=>?_;dsimp only;have hb12:=wm hb1 hb2;have hP2:=hP'.below hb2;have hft2:=hft1.below hb2;have hrw2:=hrw1.below hb2;have f0:=hP2.c0;have f2:=hP2.c2;clear c0 c1 c2;go_wp2_with fail;refine wp_region_held_drew (S:=(fun w'=>w'.cell? ⟨gp,0,aF⟩=aG (aD s))) ww ?_ (fun hHeld=> ?_)
   ·exact(hP2.drew).c0
   have hB:=(Below.refl w2.heap.size w2).drew;generalize w2.drew=wn0 at *
   refine wQ 0 ?_;refine wQ 1 ?_;refine wQ 2 ?_;refine wQ 3 ?_;refine wQ 4 ?_;refine wU 5 fun K hK=>?_;have hfi:=kP (aG ⟨b,off,aF⟩) c (fs.take j) s wn0 (by rw [HT.o];omega) (hft2.below hB);rw [H1.o,HT.o]at hfi;go_simp;refine(hfi).mono ?_;rintro e5 w5 ⟨rfl,hb5⟩;dsimp only;refine wF hK (((hP2.below hB).below hb5).c0) (Below wn0.heap.size wn0) hb5 fun wn1 hHeld hst=> ?_;have hB:=wm hB hst;clear hst;clear hK K
   refine wQ 6 ?_;refine wQ 7 ?_;refine wQ 8 ?_;refine wQ 9 ?_;refine wQ 10 ?_;refine wpAnyH_done ww ?_ _;clear hHeld;have hP5:=hP2.below hB;have hrw5:=hrw2.below hB;have hb15:=wm hb12 hB;obtain⟨f0,f1,f2⟩:=sqC3 hP5;have e5:decide ((5:Int)<(wt.length:Int))=false:=decide_eq_false wu;have e5':decide (5<wt.length)=false:=decide_eq_false wu;clear hP2 hft2 hrw2 hb12 hB;dsimp only [Exit.then];go_wp2_with fail;refine(ud s ld B cb wt wn1 wu hrw5).mono ?_;rintro e_ w6 ⟨v6,rfl,ho6,hb6⟩;dsimp only;have hb16:=wm hb15 hb6;obtain⟨A6,c6,rfl,hc6,hr6⟩:=Rd.of_own' ho6;have hl6:(ld::wt).length=wt.length+1:=rfl;obtain⟨l6,hl6e⟩:=wY (ld::wt)
   rw [<-hl6e]at hr6 hl6;have HCR6:=sqH (show CrewOk l6 from by rw [hl6e];exact HCR.o);have hcm6:c6<=maxLen:=by
    rcases ho6.2 with ⟨h1,h2⟩ | ⟨_,cap,_,h1,_,_,_,h2,_⟩
    ·omega
    ·injection h1 with _ _ h3;subst h3;exact h2
   have hc63:(c6:Int)<=9223372036854775807:=by unfold maxLen at hcm6;omega
   obtain⟨m6,hm6⟩:=wY (wt.length+1)
   rw [<-hm6]at hl6 hr6 hc6 ⊢
   have hm66:m6<=6:=wu;clear ho6 hl6e hP5 hrw5 f0 f1 f2 hm6;go_wp2_with fail;go_loopg [9,10,46] m6 (fun gn a b i wr=>∃q:Nat,gn=m6 - q/\i= aB aC q/\q<=m6/\Below w6.heap.size w6 wr)
   case atStart=>exact⟨0,rfl,rfl,wu,Below.refl _ _⟩
   case round =>
    obtain⟨q,hgq,rfl,hq,hbq⟩:=hrel;have HGQ:=sqH hgq;clear hgq;have hb1q:=wm hb16 hbq;by_cases hqt:q<m6
    ·have hqq:decide (q<m6)=true:=decide_eq_true hqt;have hql:q<l6.length:=wu
     obtain⟨b6,off6,rfl,hbb6,hcell⟩:=(hr6.below hbq).2 wu;have cx:=hcell q (aB aC l6[q]) (by rw [ins,List.getElem?_map,List.getElem?_eq_getElem hql];rfl);obtain⟨hw1,hw2⟩:=HCR6.o q hql;have hrt:=(hr6.below hbq).pre (k:=q) wu;rw [Nat.mul_one,show(ins l6).take q=ins (l6.take q) by simp [ins]]at hrt;have htq:(l6.take q).length=q:=by rw [List.length_take];omega
     have hwho:=jr l6[q] wr;rw [show decide (1<=l6[q]/\l6[q]<=1000)=true by simpa using hw1]at hwho;have hcon:=yc (aG ⟨b6,off6,aF⟩) c6 (l6.take q) l6[q] wr wu (by rw [htq];exact hrt);rw [hw2,htq]at hcon;generalize l6[q]=z at *
     have HWH:=sqH hwho;have HCO:=sqH hcon;have hq0:=we q
     have hq1:(q:Int)<(m6:Int):=wu;have hqc:(q:Int)<=(c6:Int):=wu;clear hcell hw1 hw2 hrt htq hwho hcon;go_wp2_with fail;refine HWH.o.mono ?_;rintro e_ _ ⟨rfl,rfl⟩;dsimp only;go_wp2_with fail;refine HCO.o.mono ?_;rintro e_ _ ⟨rfl,rfl⟩;dsimp only;go_wp2_with fail;go_roundg (m6 - (q+1))
     case measure=>exact wc HGQ
     case rel=>exact⟨q+1,rfl,by go_num,wu,hbq⟩
    ·obtain rfl:q=m6:=by omega
     have hqq:decide (q<q)=false:=ab;go_wp2_with fail;go_roundg (fs.length - (j+1))
     case measure=>exact wc HGK
     case rel=>exact⟨j+1,rfl,by go_num,wu,hb1q⟩
  ·obtain rfl:j=fs.length:=by omega
   have hcc:decide (fs.length<fs.length)=false:=ab;go_wp2_with fail;go_ret;exact⟨rfl,hbl⟩
theorem yQ:∀(fs gs:List FlP) (i:Nat) (k:ai),fs.map (·.key)=gs.map (·.key)->fnd i fs k=fnd i gs k
 | [], [],i,k,_=>rfl
 | f::fs,g::gs,i,k,h=>by
  simp only [List.map_cons,List.cons.injEq]at h
  rw [fnd,fnd,h.1,yQ fs gs (i+1) k h.2]
theorem CrewOk.snoc {l:List Int} {n:Int} (h:CrewOk l) (h1:1<=n) (h2:n<=1000) (hn:l.contains n=false):CrewOk (l++ [n]):=fun j hj=>by
 rw [List.length_append]at hj
 simp only [List.length_cons,List.length_nil]at hj
 by_cases hl:j<l.length
 ·rw [List.getElem_append_left hl,List.take_append_of_le_length wu]
  exact h j hl
 ·have he:j=l.length:=wu
  subst he
  rw [List.getElem_append_right ag,List.take_left]
  simp only [Nat.sub_self,List.getElem_cons_zero]
  exact⟨⟨h1,h2⟩,hn⟩
theorem CrewOk.one {n:Int} (h1:1<=n) (h2:n<=1000):CrewOk [n]:=fun j hj=>by
 have h0:j=0:=by simpa using hj
 subst h0
 exact⟨⟨h1,h2⟩,rfl⟩
theorem GoodF.nil_:GoodF []:=⟨ab,(fun j h=>by cases h),(fun j h=>by cases h),(fun j h=>by cases h),(fun j h=>by cases h)⟩
theorem GoodF.snoc {k:ai} {n:Int} (h:GoodF fs) (h6:fs.length<6) (hk:hexC k=0) (hkl:k.length<=1000) (hf:fnd 0 fs k=aF) (h1:1<=n) (h2:n<=1000):GoodF (fs++ [⟨k,n, []⟩]):=by
 have split:∀j,j<(fs++ [(⟨k,n, []⟩:FlP)]).length->j<fs.length\/j=fs.length:=fun j hj=>by
  rw [List.length_append]at hj;simp only [List.length_cons,List.length_nil]at hj;omega
 refine⟨by rw [List.length_append];simp only [List.length_cons,List.length_nil];omega,fun j hj=> ?_,fun j hj=> ?_,fun j hj=> ?_,fun j hj=> ?_⟩
 ·rcases split j hj with hl | rfl
  ·rw [List.getElem_append_left hl];exact h.key j hl
  ·rw [List.getElem_append_right ag];simp only [Nat.sub_self,List.getElem_cons_zero];exact⟨hk,hkl⟩
 ·rcases split j hj with hl | rfl
  ·rw [List.getElem_append_left hl,List.take_append_of_le_length wu];exact h.one j hl
  ·rw [List.getElem_append_right ag,List.take_left];simp only [Nat.sub_self,List.getElem_cons_zero];exact hf
 ·rcases split j hj with hl | rfl
  ·rw [List.getElem_append_left hl];exact h.few j hl
  ·rw [List.getElem_append_right ag];simp only [Nat.sub_self,List.getElem_cons_zero];exact Nat.zero_le _
 ·rcases split j hj with hl | rfl
  ·rw [List.getElem_append_left hl];exact h.crew j hl
  ·rw [List.getElem_append_right ag];simp only [Nat.sub_self,List.getElem_cons_zero];exact CrewOk.one h1 h2
theorem GoodF.set {i:Nat} {n:Int} (h:GoodF fs) (hi:i<fs.length) (h1:1<=n) (h2:n<=1000) (hin:(fs[i].lead::fs[i].wait).contains n=false) (h5:fs[i].wait.length<5) :
  GoodF (fs.set i ⟨fs[i].key,fs[i].lead,fs[i].wait++ [n]⟩):=by
 have hkeys:∀m,((fs.set i ⟨fs[i].key,fs[i].lead,fs[i].wait++ [n]⟩).take m).map (·.key)=(fs.take m).map (·.key):=fun m=>by
  rw [List.map_take,List.map_take,List.map_set]
  congr 1
  apply List.ext_getElem
  ·simp
  ·intro j h1 h2;rw [List.getElem_set];split
   ·rename_i e;subst e;simp
   ·rfl
 refine⟨by rw [List.length_set];exact h.len,fun j hj=> ?_,fun j hj=> ?_,fun j hj=> ?_,fun j hj=> ?_⟩
 all_goals
  rw [List.length_set]at hj;by_cases e:i=j
  ·subst e
   first
    | (rw [List.getElem_set_self];exact h.key i hi)
    | (rw [List.getElem_set_self,yQ _ _ _ _ (hkeys i)];exact h.one i hi)
    | (rw [List.getElem_set_self,List.length_append];simp only [List.length_cons,List.length_nil];omega)
    | (rw [List.getElem_set_self];exact(h.crew i hi).snoc h1 h2 hin)
  ·first
    | (rw [List.getElem_set_ne e];exact h.key j hj)
    | (rw [List.getElem_set_ne e,yQ _ _ _ _ (hkeys j)];exact h.one j hj)
    | (rw [List.getElem_set_ne e];exact h.few j hj)
    | (rw [List.getElem_set_ne e];exact h.crew j hj)
end Go.Proofs.YtcjmjaefcjcomaaGreat
