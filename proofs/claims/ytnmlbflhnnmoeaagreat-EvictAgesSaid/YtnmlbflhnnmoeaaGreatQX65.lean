/- Lemmas of the proof. Conditions: as stated. -/
import Derived.Test.YtnmlbflhnnmoeaaGreatQX64
set_option linter.unusedVariables false
set_option linter.unusedSimpArgs false
set_option maxRecDepth 100000
set_option maxHeartbeats 1000000
namespace Go.Proofs.YtnmlbflhnnmoeaaGreat
open Go.RowKit Go.Maps
theorem VO {es:List EntP} (hr:RisesBy (·.key) es) {x:EntP} (hx:x∈es):es.find? (fun y=>y.key==x.key)=some x:=by
 induction es with
 | nil=>cases hx
 | cons y l ih =>
  obtain⟨h1,h2⟩:=List.pairwise_cons.1 hr;by_cases hk:y.key=x.key
  ·rw [List.find?_cons_of_pos (by simpa using hk)];rcases List.mem_cons.1 hx with rfl | hx
   ·rfl
   ·have h3:Op.bytesLess y.key x.key=true:=h1 x hx;rw [hk,qM]at h3;cases h3
  ·rw [List.find?_cons_of_neg (by simpa using hk)];rcases List.mem_cons.1 hx with rfl | hx
   ·exact absurd rfl hk
   ·exact ih h2 hx
theorem JW {es:List EntP} (hr:RisesBy (·.key) es) {x:EntP} (hx:x∈es):stp es x.key=(x.stamp:Int):=by
 unfold stp;rw [VO hr hx]
structure AgeF (more:Nat) (s t:StoP) (g:List (List UInt8)):Prop where
 asc:∀i (h:i+1<g.length),stp s.ents g[i]≤stp s.ents g[i+1]
 rest:∀k (h:g.length=k+1),∀y∈t.ents,y.pins=0→stp s.ents g[k]≤(y.stamp:Int)
 good:GoodS { s with ents:=s.ents.filter (fun b=> !decide (b.key∈g.dropLast)) }
 last:0<g.length→¬usd (cln { s with ents:=s.ents.filter (fun b=> !decide (b.key∈g.dropLast)) }).blobs+more≤s.room
theorem Kp {more:Nat} {s t:StoP} {g:List (List UInt8)} (hg:GoodS s) (h:kS more s=some (t,g)):AgeF more s t g:=by
 obtain⟨xs,rfl,A⟩:=Kg hg h;have hst:∀x∈xs,stp s.ents x.key=(x.stamp:Int):=fun x hx=>JW hg.e.ris (A.mem x hx).1;refine⟨fun i hi=> ?_,fun k hk y hy hp=> ?_,yX hg List.filter_sublist,fun h0=>A.last (by rintro rfl;simp at h0)⟩
 ·rw [List.length_map]at hi;rw [List.getElem_map,List.getElem_map,hst _ (List.getElem_mem _),hst _ (List.getElem_mem _)];have:=List.pairwise_iff_getElem.1 A.asc i (i+1) (by omega) hi (by omega);omega
 ·rw [List.length_map]at hk;rw [List.getElem_map,hst _ (List.getElem_mem _)];have:=A.rest xs[k] (List.getElem_mem _) y hy hp;omega
theorem ut (A:Option Addr) (n c:Nat) (l:List RawP) (m:Int) (w:World) (hl:l.length=n) (hc:n≤c) (hm:c≤maxLen) (hok:∀r∈l,RawOk r) (hr:Rd w 4 A n (rcs l)) (m0: -9223372036854775808≤m) (m1:m≤9223372036854775807) :
  Calls Tryz.prog 5 #[.slice A n c,.int .i64 m] w fun e w'=>e= .returned (.bool true)∧Below w.heap.size w w':=by
 have HS:=sqH (uW A n c l w hl hc hm hok hr);have HGS:=sqH (x9 l);clear hok hl hr hc hm;generalize sto l=s at *
 have hbl:=HGS.out.b.len;have hel:=HGS.out.e.len;have HP1:=sqH (fun w'=>zQ m 4001 4001 rfl w' m0 m1 (by omega) (by omega));have hp1:=kG m (m:=4001) (by omega);clear m0 m1;generalize pk m 4001=k at *
 go_enter Tryz.func5,Tryz.ntmps5;go_wp2_with fail;refine(HS.out).mono ?_;rintro e_ w1 ⟨v1,v2,rfl,hb,he,hb1⟩;dsimp only;obtain⟨Ab,cb,rfl,hcb1,hcb2,hRb⟩:=hb.rows;obtain⟨Ae,ce,rfl,hce1,hce2,hRe⟩:=he.rows;have hrd1:RdSt w1 Ab cb Ae ce s:=⟨hRb,hRe,hcb1,hcb2,hce1,hce2⟩
 have hAs:Arr (w1.alloc (.cells #[.slice Ab s.blobs.length cb,.slice Ae s.ents.length ce,.int .i64 s.room,.int .i64 s.clock] 26)) w1.heap.size 26 [.slice Ab s.blobs.length cb,.slice Ae s.ents.length ce,.int .i64 s.room,.int .i64 s.clock]:=Arr.new w1 26 _;have hb2:=(Below.refl w1.heap.size w1).alloc (Nat.le_refl _) (.cells #[.slice Ab s.blobs.length cb,.slice Ae s.ents.length ce,.int .i64 s.room,.int .i64 s.clock] 26);have hb12:=hb1.trans (hb2.mono hb1.size);have hrd2:=hrd1.below hb2;obtain⟨q0,q1,q2,q3⟩:=sqC4 hAs;clear hb he hRb hRe hrd1 hb2 hb1;go_wp2_with fail;generalize w1.alloc (.cells #[.slice Ab s.blobs.length cb,.slice Ae s.ents.length ce,.int .i64 s.room,.int .i64 s.clock] 26)=w2 at *
 generalize w1.heap.size=gs at *
 clear q0 q1 q2 q3;refine(HP1.out w2).mono ?_;rintro e_ _ ⟨rfl,rfl⟩;dsimp only;obtain⟨q0,q1,q2,q3⟩:=sqC4 hAs;have HRUN:=sqH (z02 Ab cb Ae ce s k w2 (by omega) HGS.out hrd2);clear HP1;go_wp2_with fail;clear q0 q1 q2 q3;refine(HRUN.out).mono ?_;rintro e_ w3 ⟨hra,hb3⟩;have hb13:=hb12.trans (hb3.mono hb12.size);have hAs3:=hAs.below hb3;have hrd3:=hrd2.below hb3;cases hev:kS k s with
 | none =>
  rw [hev]at hra;obtain rfl:=hra;dsimp only;clear hrd2 hrd3 hAs hAs3 hb12 HRUN hev;have hb4:=hb13.alloc hb13.size (.cells #[.slice none 0 0,.slice none 0 0,.int .i64 0,.int .i64 0] 26);have hb5:=hb4.alloc hb4.size (.cells #[.slice none 0 0] 27);go_wp2_with fail;generalize ((w3.alloc (.cells #[.slice none 0 0,.slice none 0 0,.int .i64 0,.int .i64 0] 26)).alloc (.cells #[.slice none 0 0] 27))=w5 at *
  refine(Qi w5).mono ?_;rintro e_ w6 ⟨rfl,hb6⟩;dsimp only;have hb7:=hb5.trans (hb6.mono hb5.size);go_wp2_with fail;go_ret;exact⟨rfl,hb7⟩
 | some p =>
  obtain⟨t,g⟩:=p;rw [hev]at hra;obtain⟨Ax,cx,Bx,dx,v3,rfl,hrdx,hox⟩:=hra;dsimp only;obtain⟨Ag,cg,rfl,hcg,hrg⟩:=Rd.of_own' hox;obtain⟨hgt,hft,hlt,hrt,hct⟩:=Ks HGS.out hev;have hgl:g.length≤10:=by omega
  have htl:t.ents.length≤10:=by omega
  have HAF:=sqH (Kp HGS.out hev);clear hox hrd2 hAs hb12 HRUN hev hft hlt hrt hct hgt hb3;obtain⟨X,hX⟩:∃X,X=(Obj.cells #[.slice Ax t.blobs.length cx,.slice Bx t.ents.length dx,.int .i64 s.room,.int .i64 s.clock] 26):=⟨_,rfl⟩
  obtain⟨Y,hY⟩:∃Y,Y=(Obj.cells #[.slice Ag g.length cg] 27):=⟨_,rfl⟩
  have hs1:(w3.alloc X).heap.size=w3.heap.size+1:=Array.size_push _;have hbx:=(Below.refl w3.heap.size w3).alloc (Nat.le_refl _) X;have hby:=(Below.refl (w3.alloc X).heap.size (w3.alloc X)).alloc (Nat.le_refl _) Y;have hbxy:=hbx.trans (hby.mono hbx.size);have hAx:Arr ((w3.alloc X).alloc Y) w3.heap.size 26 [.slice Ax t.blobs.length cx,.slice Bx t.ents.length dx,.int .i64 s.room,.int .i64 s.clock]:=by
   rw [hX];rw [hX]at hby;exact(Arr.new w3 26 _).below hby
  have hAg:Arr ((w3.alloc X).alloc Y) (w3.heap.size+1) 27 [.slice Ag g.length cg]:=by
   rw [hY,←hs1];exact Arr.new (w3.alloc X) 27 _
  have hrd4:=hrd3.below hbxy;have hrdx4:=hrdx.below hbxy;have hrg4:=hrg.below hbxy;have hAs4:=hAs3.below hbxy;have hb14:=hb13.trans (hbxy.mono hb13.size);have HWE:=sqH (show(w3.alloc (.cells #[.slice Ax t.blobs.length cx,.slice Bx t.ents.length dx,.int .i64 s.room,.int .i64 s.clock] 26)).alloc (.cells #[.slice Ag g.length cg] 27)=(w3.alloc X).alloc Y from by rw [hX,hY]);clear hrd3 hrdx hrg hAs3 hbxy hby hbx hs1 hb13 hX hY;go_wp2_with fail;rw [HWE.out];clear HWE;generalize ((w3.alloc X).alloc Y)=w4 at *
  generalize w3.heap.size+1=gg at *
  generalize w3.heap.size=gx at *
  refine(Qi w4).mono ?_;rintro e_ w5 ⟨rfl,hb5⟩;dsimp only;have hrd5:=hrd4.below hb5;have hrdx5:=hrdx4.below hb5;have hrg5:=hrg4.below hb5;have hAs5:=hAs4.below hb5;have hAx5:=hAx.below hb5;have hAg5:=hAg.below hb5;have hb15:=hb14.trans (hb5.mono hb14.size);clear hrd4 hrdx4 hrg4 hAs4 hAx hAg hb14 hb5;have r0:=hAg5.cell (k:=0) rfl;by_cases h0:g.length=0
  ·have g0:((g.length:Int)==0)=true:=by rw [h0];rfl
   have G0:=sqH h0;clear h0;go_wp2_with fail;go_ret;exact⟨rfl,hb15⟩
  ·have g0:((g.length:Int)==0)=false:=by rw [beq_eq_false_iff_ne];omega
   have G0:=sqH (show 0<g.length by omega);clear h0;obtain⟨ab,ao,rfl,hab, -⟩:=hrg5.2 G0.out;have HGC:=sqH (show ∀V,Below w5.heap.size w5 V→∀i (h:i<g.length),V.cell? ⟨ab,ao+i,none⟩=some (.string ⟨g[i].toArray⟩) from fun V h i hi=>by
    obtain⟨b,off,u,e1,e2,e3,e4⟩:=(hrg5.below h).at_ hi;cases e1
    rw [strs,List.getElem?_map,List.getElem?_eq_getElem hi]at e3;cases e3
    exact e4)
   have HST:=sqH (fun V (h:Below w5.heap.size w5 V) key=>U3 gs Ab cb Ae ce s key V (by omega) (hAs5.below h) (hrd5.below h).e);have HGB:=sqH (fun V (h:Below w5.heap.size w5 V)=>(hAg5.below h).cell (k:=0) rfl);go_wp2_with fail;go_loopg [41] g.length (fun gn u wr=>∃i:Nat,gn=g.length - i∧u= .int .i64 i∧i≤g.length∧Below w5.heap.size w5 wr)
   case atStart=>exact⟨0,rfl,rfl,by omega,Below.refl _ _⟩
   case round =>
    clear r0;obtain⟨i,hgk,rfl,hi,hbl⟩:=hrel;have HGK:=sqH hgk;clear hgk;by_cases hlt:i<g.length
    ·have hcc:decide (i<g.length)=true:=decide_eq_true hlt;have hi0:(0:Int)≤(i:Int):=by omega
     have hi1:(i:Int)<(g.length:Int):=by omega
     have c0:=HGC.out wr hbl i hlt;have HBL:=sqH hbl;have HS1:=sqH (fun V (h:Below wr.heap.size wr V)=>HST.out V (hbl.trans (h.mono hbl.size)) g[i]);have HASC:=sqH (show ∀j (e:i=j+1),stp s.ents (g[j]'(by omega))≤stp s.ents g[i] from fun j e=>by subst e;exact HAF.out.asc j hlt);generalize hkb:(⟨g[i].toArray⟩:ByteArray)=kb at *
     generalize stp s.ents g[i]=za at *
     clear hkb;by_cases hz:i=0
     ·have z1:decide ((i:Int)>0)=false:=decide_eq_false (by omega);have z2:decide ((0:Int)<(i:Int))=false:=decide_eq_false (by omega);have z3:decide (0<i)=false:=decide_eq_false (by omega);have HZ:=sqH hz;clear hz;go_wp2_with fail;refine wp_region_held_drew (S:=(fun w'=>w'.cell? ⟨gg,0,none⟩=some (.slice (some ⟨ab,ao,none⟩) g.length cg))) (by kernel_rfl) ?_ (fun hHeld=> ?_)
      ·exact HGB.out _ (hbl.trans ((Below.refl _ wr).drew.mono hbl.size))
      have hB:=(Below.refl wr.heap.size wr).drew;generalize wr.drew=wn0 at *
      refine sqTH 0 ?_;try simp only [sqP]
      refine sqTH 1 ?_;try simp only [sqP]
      refine sqTH 2 ?_;try simp only [sqP]
      refine wpAnyH_take (i:=3) (oi:=_) (v:=undef) rfl (by kernel_rfl) (by kernel_rfl) (by kernel_rfl) (fun _ _ _ h=>h) (Or.inr ⟨by rfl,rfl⟩) (by assumption) ?_
      try simp only [sqP]
      refine wpAnyH_take (i:=4) (oi:=_) (v:=undef) rfl (by kernel_rfl) (by kernel_rfl) (by kernel_rfl) (fun _ _ _ h=>h) (Or.inr ⟨by rfl,rfl⟩) (by assumption) ?_
      try simp only [sqP]
      refine wpAnyH_take (i:=5) (oi:=_) (v:=undef) rfl (by kernel_rfl) (by kernel_rfl) (by kernel_rfl) (fun _ _ _ h=>h) (Or.inr ⟨by rfl,rfl⟩) (by assumption) ?_
      try simp only [sqP]
      refine wpAnyH_take (i:=6) (oi:=_) (v:=undef) rfl (by kernel_rfl) (by kernel_rfl) (by kernel_rfl) (fun _ _ _ h=>h) (Or.inr ⟨by rfl,rfl⟩) (by assumption) ?_
      try simp only [sqP]
      refine wpAnyH_take (i:=7) (oi:=_) (v:=undef) rfl (by kernel_rfl) (by kernel_rfl) (by kernel_rfl) (fun _ _ _ h=>h) (Or.inr ⟨by rfl,rfl⟩) (by assumption) ?_
      try simp only [sqP]
      refine wpAnyH_take (i:=8) (oi:=_) (v:=undef) rfl (by kernel_rfl) (by kernel_rfl) (by kernel_rfl) (fun _ _ _ h=>h) (Or.inr ⟨by rfl,rfl⟩) (by assumption) ?_
      try simp only [sqP]
      refine wpAnyH_take (i:=9) (oi:=_) (v:=undef) rfl (by kernel_rfl) (by kernel_rfl) (by kernel_rfl) (fun _ _ _ h=>h) (Or.inr ⟨by rfl,rfl⟩) (by assumption) ?_
      try simp only [sqP]
      refine wpAnyH_take (i:=10) (oi:=_) (v:=undef) rfl (by kernel_rfl) (by kernel_rfl) (by kernel_rfl) (fun _ _ _ h=>h) (Or.inr ⟨by rfl,rfl⟩) (by assumption) ?_
      try simp only [sqP]
      refine wpAnyH_take (i:=11) (oi:=_) (v:=undef) rfl (by kernel_rfl) (by kernel_rfl) (by kernel_rfl) (fun _ _ _ h=>h) (Or.inr ⟨by rfl,rfl⟩) (by assumption) ?_
      try simp only [sqP]
      refine wpAnyH_take (i:=12) (oi:=_) (v:=undef) rfl (by kernel_rfl) (by kernel_rfl) (by kernel_rfl) (fun _ _ _ h=>h) (Or.inr ⟨by rfl,rfl⟩) (by assumption) ?_
      try simp only [sqP]
      refine wpAnyH_take (i:=13) (oi:=_) (v:=undef) rfl (by kernel_rfl) (by kernel_rfl) (by kernel_rfl) (fun _ _ _ h=>h) (Or.inr ⟨by rfl,rfl⟩) (by assumption) ?_
      try simp only [sqP]
      refine sqTH 14 ?_;try simp only [sqP]
      refine wpAnyH_done (by kernel_rfl) ?_ _
      try dsimp only [Exit.then]
      clear hHeld;have hBz:=HBL.out.trans (hB.mono HBL.out.size);clear hB;go_wp2_with fail;go_roundg (g.length - (i+1))
      case measure=>have:=HGK.out;omega
      case rel=>exact⟨i+1,rfl,by go_num,by omega,hBz⟩
     ·obtain⟨j,rfl⟩:∃j,i=j+1:=⟨i - 1,by omega⟩
      have z1:decide (((j+1:Nat):Int)>0)=true:=decide_eq_true (by omega);have z2:decide ((0:Int)<((j+1:Nat):Int))=true:=decide_eq_true (by omega);have z3:decide (0<j+1)=true:=decide_eq_true (by omega);have hj:j<g.length:=by omega
      have hw1:IntKind.i64.wrap (((j+1:Nat):Int) - 1)=(j:Int):=by rw [IntWalk.i64_in _ (by omega)];omega
      have hw2:IntKind.i64.wrap (j:Int)=(j:Int):=IntWalk.i64_in _ (by omega);have hj0:(0:Int)≤(j:Int):=by omega
      have hj1:(j:Int)<(g.length:Int):=by omega
      have HS0:=sqH (fun V (h:Below wr.heap.size wr V)=>HST.out V (hbl.trans (h.mono hbl.size)) g[j]);have HSB:=sqH (show ∀V,Below wr.heap.size wr V→V.cell? ⟨gg,0,none⟩=some (.slice (some ⟨ab,ao,none⟩) g.length cg)∧V.cell? ⟨ab,ao+j,none⟩=some (.string ⟨g[j].toArray⟩) from fun V h=>⟨HGB.out V (hbl.trans (h.mono hbl.size)),HGC.out V (hbl.trans (h.mono hbl.size)) j hj⟩);have hlt2:decide (za<stp s.ents g[j])=false:=decide_eq_false (by have:=HASC.out j rfl;omega);clear HASC hz hbl;generalize hkp:(⟨g[j].toArray⟩:ByteArray)=kp at *
      generalize stp s.ents g[j]=zb at *
      clear hkp;go_wp2_with fail;refine wp_region_held_drew (S:=(fun w'=>w'.cell? ⟨gg,0,none⟩=some (.slice (some ⟨ab,ao,none⟩) g.length cg)∧w'.cell? ⟨ab,ao+j,none⟩=some (.string kp))) (by kernel_rfl) ?_ (fun hHeld=> ?_)
      ·exact HSB.out _ (Below.refl _ wr).drew
      have hB:=(Below.refl wr.heap.size wr).drew;generalize wr.drew=wn0 at *
      refine sqTH 0 ?_;try simp only [sqP]
      refine sqTH 1 ?_;try simp only [sqP]
      refine sqTH 2 ?_;try simp only [sqP]
      refine sqTH 3 ?_;try simp only [sqP]
      refine sqTH 4 ?_;try simp only [sqP]
      refine sqTH 6 ?_;try simp only [sqP]
      refine sqTH 7 ?_;try simp only [sqP]
      refine sqTH 8 ?_;try simp only [sqP]
      refine sqTH 9 ?_;try simp only [sqP]
      refine sqTH 10 ?_;try simp only [sqP]
      refine sqTH 11 ?_;try simp only [sqP]
      refine wpAnyH_ready (rs:= [5]) (by kernel_rfl) (by simp) ?_;refine AllReadyH.cons (o:=_) rfl (fun K hK=> ?_) ?_
      ·
       go_simp;refine(HS1.out wn0 hB).mono ?_;rintro e5 w5' ⟨rfl,hb5⟩;dsimp only;refine qJ hK ?_ (Below wn0.heap.size wn0) (fun W=>True) ?_ ?_ (fun wn1 hHeld hst hnew=> ?_)
       ·(exact HSB.out _ (hB.trans (hb5.mono hB.size)))
       ·(exact hb5)
       ·(trivial)
       have hB:=hB.trans (hst.mono hB.size);clear hst;clear hK K
       try simp only [sqP]
       refine wpAnyH_ready (rs:= [12]) (by kernel_rfl) (by simp) ?_;refine AllReadyH.cons (o:=_) rfl (fun K hK=> ?_) ?_
       ·
        go_simp;refine(HS0.out wn1 hB).mono ?_;rintro e5 w5' ⟨rfl,hb5⟩;dsimp only;refine qJ hK ?_ (Below wn1.heap.size wn1) (fun W=>True) ?_ ?_ (fun wn2 hHeld hst hnew=> ?_)
        ·(exact HSB.out _ (hB.trans (hb5.mono hB.size)))
        ·(exact hb5)
        ·(trivial)
        have hB:=hB.trans (hst.mono hB.size);clear hst;clear hK K
        try simp only [sqP]
        refine sqTH 13 ?_;try simp only [sqP]
        refine sqTH 14 ?_;try simp only [sqP]
        refine wpAnyH_done (by kernel_rfl) ?_ _
        try dsimp only [Exit.then]
        clear hHeld;have hBz:=HBL.out.trans (hB.mono HBL.out.size);clear hB;go_wp2_with fail;go_roundg (g.length - (j+1+1))
        case measure=>have:=HGK.out;omega
        case rel=>exact⟨j+1+1,rfl,by go_num,by omega,hBz⟩
       exact AllReadyH.nil
      exact AllReadyH.nil
    ·obtain rfl:i=g.length:=by omega
     have hjj:decide (g.length<g.length)=false:=by simp
     have x1:=(hAx5.below hbl).cell (k:=1) rfl;have HBL0:=sqH hbl;clear hlt hi hbl;go_wp2_with fail;clear x1;obtain⟨kl,hkl⟩:∃kl,g.length=kl+1:=⟨g.length - 1,by have:=G0.out;omega⟩
     have HKL:=sqH hkl;have hw1:IntKind.i64.wrap ((g.length:Int) - 1)=(kl:Int):=by rw [IntWalk.i64_in _ (by omega)];omega
     have hw2:IntKind.i64.wrap (kl:Int)=(kl:Int):=IntWalk.i64_in _ (by omega);have hkl0:(0:Int)≤(kl:Int):=by omega
     have hkl1:(kl:Int)<(g.length:Int):=by omega
     have HKI:=sqH (show kl<g.length by omega);clear hkl;go_loopg [65] t.ents.length (fun gn u wq=>∃j:Nat,gn=t.ents.length - j∧u= .int .i64 j∧j≤t.ents.length∧Below w5.heap.size w5 wq)
     case atStart=>exact⟨0,rfl,rfl,by omega,HBL0.out⟩
     case round =>
      clear HBL0 HGK;obtain⟨j,hgk,rfl,hj,hbl⟩:=hrel;have HGK:=sqH hgk;clear hgk;by_cases hlt:j<t.ents.length
      ·have hcc:decide (j<t.ents.length)=true:=decide_eq_true hlt;have hj0:(0:Int)≤(j:Int):=by omega
       have hj1:(j:Int)<(t.ents.length:Int):=by omega
       obtain⟨b,off,B',cb',rfl,hbb,c0,c1,c2,c3,hs⟩:=(hrdx5.below hbl).e.ent_at j hlt;have HRS:=sqH (show ∀k (h:g.length=k+1),t.ents[j].pins=0→stp s.ents g[k]≤(t.ents[j].stamp:Int) from fun k h hp=>HAF.out.rest k h _ (List.getElem_mem hlt) hp);clear hs;generalize t.ents[j]=x at *
       generalize (⟨x.key.toArray⟩:ByteArray)=xb at *
       have hb1:=(Below.refl wr.heap.size wr).alloc (Nat.le_refl _) (.cells #[.string xb,.slice B' x.parts.length cb',.int .i64 x.pins,.int .i64 x.stamp] 49);have HBL:=sqH (hbl.trans (hb1.mono hbl.size));have hX:Arr (wr.alloc (.cells #[.string xb,.slice B' x.parts.length cb',.int .i64 x.pins,.int .i64 x.stamp] 49)) wr.heap.size 49 [.string xb,.slice B' x.parts.length cb',.int .i64 x.pins,.int .i64 x.stamp]:=Arr.new wr 49 _;have HS1:=sqH (fun V (h:Below (wr.alloc (.cells #[.string xb,.slice B' x.parts.length cb',.int .i64 x.pins,.int .i64 x.stamp] 49)).heap.size (wr.alloc (.cells #[.string xb,.slice B' x.parts.length cb',.int .i64 x.pins,.int .i64 x.stamp] 49)) V)=>HST.out V (HBL.out.trans (h.mono HBL.out.size)) (g[kl]'HKI.out));have HSB:=sqH (show ∀V,Below (wr.alloc (.cells #[.string xb,.slice B' x.parts.length cb',.int .i64 x.pins,.int .i64 x.stamp] 49)).heap.size (wr.alloc (.cells #[.string xb,.slice B' x.parts.length cb',.int .i64 x.pins,.int .i64 x.stamp] 49)) V→V.cell? ⟨gg,0,none⟩=some (.slice (some ⟨ab,ao,none⟩) g.length cg)∧V.cell? ⟨ab,ao+kl,none⟩=some (.string ⟨(g[kl]'HKI.out).toArray⟩)∧V.cell? ⟨wr.heap.size,2,none⟩=some (.int .i64 x.pins)∧V.cell? ⟨wr.heap.size,3,none⟩=some (.int .i64 x.stamp) from fun V h=>⟨HGB.out V (HBL.out.trans (h.mono HBL.out.size)),HGC.out V (HBL.out.trans (h.mono HBL.out.size)) kl HKI.out,(hX.below h).cell (k:=2) rfl,(hX.below h).cell (k:=3) rfl⟩);clear hX hbl hb1;by_cases hp:x.pins=0
       ·have hlt2:decide ((x.stamp:Int)<stp s.ents (g[kl]'HKI.out))=false:=decide_eq_false (by have:=HRS.out kl HKL.out hp;omega);have p1:((x.pins:Int)==0)=true:=by rw [hp];rfl
        have HP:=sqH hp;generalize stp s.ents (g[kl]'HKI.out)=za at *
        generalize (⟨(g[kl]'HKI.out).toArray⟩:ByteArray)=kp at *
        clear hp HRS;go_wp2_with fail;clear c0 c1 c2 c3;generalize (wr.alloc (.cells #[.string xb,.slice B' x.parts.length cb',.int .i64 x.pins,.int .i64 x.stamp] 49))=wA at *
        generalize wr.heap.size=gy at *
        refine wp_region_held_drew (S:=(fun w'=>w'.cell? ⟨gg,0,none⟩=some (.slice (some ⟨ab,ao,none⟩) g.length cg)∧w'.cell? ⟨ab,ao+kl,none⟩=some (.string kp)∧w'.cell? ⟨gy,2,none⟩=some (.int .i64 x.pins)∧w'.cell? ⟨gy,3,none⟩=some (.int .i64 x.stamp))) (by kernel_rfl) ?_ (fun hHeld=> ?_)
        ·exact HSB.out _ (Below.refl _ wA).drew
        have hB:=(Below.refl wA.heap.size wA).drew;generalize wA.drew=wn0 at *
        refine sqTH 0 ?_;try simp only [sqP]
        refine sqTH 1 ?_;try simp only [sqP]
        refine sqTH 2 ?_;try simp only [sqP]
        refine sqTH 3 ?_;try simp only [sqP]
        refine sqTH 4 ?_;try simp only [sqP]
        refine sqTH 5 ?_;try simp only [sqP]
        refine sqTH 6 ?_;try simp only [sqP]
        refine sqTH 7 ?_;try simp only [sqP]
        refine sqTH 8 ?_;try simp only [sqP]
        refine sqTH 9 ?_;try simp only [sqP]
        refine sqTH 10 ?_;try simp only [sqP]
        refine sqTH 11 ?_;try simp only [sqP]
        refine sqTH 12 ?_;try simp only [sqP]
        refine wpAnyH_ready (rs:= [13]) (by kernel_rfl) (by simp) ?_;refine AllReadyH.cons (o:=_) rfl (fun K hK=> ?_) ?_
        ·
         go_simp;refine(HS1.out wn0 hB).mono ?_;rintro e5 w5' ⟨rfl,hb5⟩;dsimp only;refine qJ hK ?_ (Below wn0.heap.size wn0) (fun W=>True) ?_ ?_ (fun wn1 hHeld hst hnew=> ?_)
         ·(exact HSB.out _ (hB.trans (hb5.mono hB.size)))
         ·(exact hb5)
         ·(trivial)
         have hB:=hB.trans (hst.mono hB.size);clear hst;clear hK K
         try simp only [sqP]
         refine sqTH 14 ?_;try simp only [sqP]
         refine sqTH 15 ?_;try simp only [sqP]
         refine wpAnyH_done (by kernel_rfl) ?_ _
         try dsimp only [Exit.then]
         clear hHeld;have hBz:=HBL.out.trans (hB.mono HBL.out.size);clear hB;go_wp2_with fail;go_roundg (t.ents.length - (j+1))
         case measure=>have:=HGK.out;omega
         case rel=>exact⟨j+1,rfl,by go_num,by omega,hBz⟩
        exact AllReadyH.nil
       ·have p1:((x.pins:Int)==0)=false:=by rw [beq_eq_false_iff_ne];omega
        have HP:=sqH hp;generalize (⟨(g[kl]'HKI.out).toArray⟩:ByteArray)=kp at *
        clear hp HRS HS1;go_wp2_with fail;clear c0 c1 c2 c3;generalize (wr.alloc (.cells #[.string xb,.slice B' x.parts.length cb',.int .i64 x.pins,.int .i64 x.stamp] 49))=wA at *
        generalize wr.heap.size=gy at *
        refine wp_region_held_drew (S:=(fun w'=>w'.cell? ⟨gg,0,none⟩=some (.slice (some ⟨ab,ao,none⟩) g.length cg)∧w'.cell? ⟨ab,ao+kl,none⟩=some (.string kp)∧w'.cell? ⟨gy,2,none⟩=some (.int .i64 x.pins)∧w'.cell? ⟨gy,3,none⟩=some (.int .i64 x.stamp))) (by kernel_rfl) ?_ (fun hHeld=> ?_)
        ·exact HSB.out _ (Below.refl _ wA).drew
        have hB:=(Below.refl wA.heap.size wA).drew;generalize wA.drew=wn0 at *
        refine sqTH 0 ?_;try simp only [sqP]
        refine sqTH 1 ?_;try simp only [sqP]
        refine sqTH 2 ?_;try simp only [sqP]
        refine sqTH 3 ?_;try simp only [sqP]
        refine wpAnyH_take (i:=4) (oi:=_) (v:=undef) rfl (by kernel_rfl) (by kernel_rfl) (by kernel_rfl) (fun _ _ _ h=>h) (Or.inr ⟨by rfl,rfl⟩) (by assumption) ?_
        try simp only [sqP]
        refine wpAnyH_take (i:=5) (oi:=_) (v:=undef) rfl (by kernel_rfl) (by kernel_rfl) (by kernel_rfl) (fun _ _ _ h=>h) (Or.inr ⟨by rfl,rfl⟩) (by assumption) ?_
        try simp only [sqP]
        refine wpAnyH_take (i:=6) (oi:=_) (v:=undef) rfl (by kernel_rfl) (by kernel_rfl) (by kernel_rfl) (fun _ _ _ h=>h) (Or.inr ⟨by rfl,rfl⟩) (by assumption) ?_
        try simp only [sqP]
        refine wpAnyH_take (i:=7) (oi:=_) (v:=undef) rfl (by kernel_rfl) (by kernel_rfl) (by kernel_rfl) (fun _ _ _ h=>h) (Or.inr ⟨by rfl,rfl⟩) (by assumption) ?_
        try simp only [sqP]
        refine wpAnyH_take (i:=8) (oi:=_) (v:=undef) rfl (by kernel_rfl) (by kernel_rfl) (by kernel_rfl) (fun _ _ _ h=>h) (Or.inr ⟨by rfl,rfl⟩) (by assumption) ?_
        try simp only [sqP]
        refine wpAnyH_take (i:=9) (oi:=_) (v:=undef) rfl (by kernel_rfl) (by kernel_rfl) (by kernel_rfl) (fun _ _ _ h=>h) (Or.inr ⟨by rfl,rfl⟩) (by assumption) ?_
        try simp only [sqP]
        refine wpAnyH_take (i:=10) (oi:=_) (v:=undef) rfl (by kernel_rfl) (by kernel_rfl) (by kernel_rfl) (fun _ _ _ h=>h) (Or.inr ⟨by rfl,rfl⟩) (by assumption) ?_
        try simp only [sqP]
        refine wpAnyH_take (i:=11) (oi:=_) (v:=undef) rfl (by kernel_rfl) (by kernel_rfl) (by kernel_rfl) (fun _ _ _ h=>h) (Or.inr ⟨by rfl,rfl⟩) (by assumption) ?_
        try simp only [sqP]
        refine wpAnyH_take (i:=12) (oi:=_) (v:=undef) rfl (by kernel_rfl) (by kernel_rfl) (by kernel_rfl) (fun _ _ _ h=>h) (Or.inr ⟨by rfl,rfl⟩) (by assumption) ?_
        try simp only [sqP]
        refine wpAnyH_take (i:=13) (oi:=_) (v:=undef) rfl (by kernel_rfl) (by kernel_rfl) (by kernel_rfl) (fun _ _ _ h=>h) (Or.inr ⟨by rfl,rfl⟩) (by assumption) ?_
        try simp only [sqP]
        refine wpAnyH_take (i:=14) (oi:=_) (v:=undef) rfl (by kernel_rfl) (by kernel_rfl) (by kernel_rfl) (fun _ _ _ h=>h) (Or.inr ⟨by rfl,rfl⟩) (by assumption) ?_
        try simp only [sqP]
        refine sqTH 15 ?_;try simp only [sqP]
        refine wpAnyH_done (by kernel_rfl) ?_ _
        try dsimp only [Exit.then]
        clear hHeld;have hBz:=HBL.out.trans (hB.mono HBL.out.size);clear hB;go_wp2_with fail;go_roundg (t.ents.length - (j+1))
        case measure=>have:=HGK.out;omega
        case rel=>exact⟨j+1,rfl,by go_num,by omega,hBz⟩
      ·obtain rfl:j=t.ents.length:=by omega
       have hjj2:decide (t.ents.length<t.ents.length)=false:=by simp
       obtain⟨y0,y1,y2,y3⟩:=sqC4 (hAs5.below hbl);have HCP:=sqH (qe Ab cb Ae ce s wr (by omega) (by omega) (fun b hb=>by have:=(HGS.out.b.one b hb).2.1;omega) (fun x hx=>by have:=(zj (HGS.out.e.one x hx).2.1).1;omega) (hrd5.below hbl));have HGF:=sqH HAF.out.good;have HLA:=sqH (HAF.out.last G0.out);have HB1:=sqH (hb15.trans (hbl.mono hb15.size));have hAg6:=hAg5.below hbl;have hrg6:=hrg5.below hbl;have hgg:gg<wr.heap.size:=hAg6.lt;clear hlt hj HST HGC HGB HAF;go_wp2_with fail;clear y0 y1 y2 y3;refine HCP.out.mono ?_;rintro e_ w6 ⟨g1,g2,rfl,ho6,hb6⟩;dsimp only;have HHZ:=sqH (Nat.le_of_lt (Nat.lt_of_lt_of_le hgg hb6.size));have hb7:=(Below.refl w6.heap.size w6).alloc (Nat.le_refl _) (.cells #[.slice (some ⟨g1,0,none⟩) s.blobs.length s.blobs.length,.slice (some ⟨g2,0,none⟩) s.ents.length s.ents.length,.int .i64 s.room,.int .i64 s.clock] 26);have hZ:Arr (w6.alloc (.cells #[.slice (some ⟨g1,0,none⟩) s.blobs.length s.blobs.length,.slice (some ⟨g2,0,none⟩) s.ents.length s.ents.length,.int .i64 s.room,.int .i64 s.clock] 26)) w6.heap.size 26 [.slice (some ⟨g1,0,none⟩) s.blobs.length s.blobs.length,.slice (some ⟨g2,0,none⟩) s.ents.length s.ents.length,.int .i64 s.room,.int .i64 s.clock]:=Arr.new w6 26 _;have z1:=hZ.cell (k:=1) rfl;have hr6:wr.heap.size≤w6.heap.size:=hb6.size;have hbase:∀b,(some g2:Option Nat)=some b→wr.heap.size≤b:=fun b e=>(ho6.e.rwo.blk e).1;have hbase1:∀b,(some g1:Option Nat)=some b→wr.heap.size≤b∧b<w6.heap.size:=fun b e=>ho6.b.rwo.blk e;have hbase2:g2<w6.heap.size:=(ho6.e.rwo.blk rfl).2;have hb67:=hb6.trans (hb7.mono hb6.size);have HO7:=sqH ((ho6.wider (N':=fun b=>b<wr.heap.size∨b=w6.heap.size) (fun b hb=>hb.imp id (fun e=>by omega))).below hb7);have hT:=Ko (w6.alloc (.cells #[.slice (some ⟨g1,0,none⟩) s.blobs.length s.blobs.length,.slice (some ⟨g2,0,none⟩) s.ents.length s.ents.length,.int .i64 s.room,.int .i64 s.clock] 26)) (some g2) gg (some ⟨ab,ao,none⟩) cg kl g s.ents (Nat.lt_of_lt_of_le hgg hb67.size) (fun e=>by have:=hbase _ e;omega) HKL.out ((hAg6.below hb67).cell (k:=0) rfl) (by omega) (by omega) (hrg6.below hb67) (fun a e1 e2=>by
        cases e1
        have h3:wr.heap.size≤ab:=hbase _ e2;have h4:w5.heap.size≤wr.heap.size:=hbl.size;omega)
       have HDF:=sqH (VV wr.heap.size (.slice (some ⟨g2,0,none⟩) s.ents.length s.ents.length) s.ents _ _ _ _ _ (by omega) HO7.out.e hT);clear hT ho6 hAg6 hrg6 hgg;have hb17:Below w6.heap.size w6 (w6.alloc (.cells #[.slice (some ⟨g1,0,none⟩) s.blobs.length s.blobs.length,.slice (some ⟨g2,0,none⟩) s.ents.length s.ents.length,.int .i64 s.room,.int .i64 s.clock] 26)):=hb7;clear hb7 hbl hb6;have hGz:w6.heap.size<(w6.alloc (.cells #[.slice (some ⟨g1,0,none⟩) s.blobs.length s.blobs.length,.slice (some ⟨g2,0,none⟩) s.ents.length s.ents.length,.int .i64 s.room,.int .i64 s.clock] 26)).heap.size:=hZ.lt;go_wp2_with fail;clear z1;generalize (w6.alloc (.cells #[.slice (some ⟨g1,0,none⟩) s.blobs.length s.blobs.length,.slice (some ⟨g2,0,none⟩) s.ents.length s.ents.length,.int .i64 s.room,.int .i64 s.clock] 26))=w7 at *
       generalize hgz:w6.heap.size=gz at *
       have hb2z:g2<gz:=by omega
       have hrz:wr.heap.size≤gz:=by omega
       have hb1z:∀b,(some g1:Option Nat)=some b→b<gz:=fun b e=>by have:=hbase1 b e;omega
       clear hgz;refine HDF.out.mono ?_;rintro e_ w8 ⟨v2',rfl,hx8,hg8,hob⟩;dsimp only;obtain⟨B8,d8,e8, -, -, -⟩:=hx8.rwo.rows;subst e8;have ho8:=HO7.out.turnE hx8 hg8 hob;have hZ8:=hZ.grown hg8 (fun e=>Nat.ne_of_lt hb2z (Option.some.inj e));have f1:=hZ8.frozen 1;have y1:=hZ8.cell (k:=1) rfl;have hZ9:=hZ8.set (k:=1) (by simp) (.slice B8 (s.ents.filter (fun b=> !decide (b.key∈g.dropLast))).length d8);have hv1:(Value.slice (some ⟨g1,0,none⟩) s.blobs.length s.blobs.length).ownBlock≠some gz:=fun e=>by have:=hb1z _ e;omega
       have hv2:(Value.slice B8 (s.ents.filter (fun b=> !decide (b.key∈g.dropLast))).length d8).ownBlock≠some gz:=fun e=>Nat.ne_of_lt hb2z (Option.some.inj (hob.symm.trans e));have ho9:=ho8.setX (g:=gz) (k:=1) (.inr rfl) hv1 hv2 (.slice B8 (s.ents.filter (fun b=> !decide (b.key∈g.dropLast))).length d8);have hb78:Below wr.heap.size w7 w8:=⟨hg8.os,hg8.tape,hg8.output,hg8.size,fun k hk=>hg8.block k (by have:=hb67.size;omega) (fun e=>by have:=hbase k e.symm;omega)⟩
       have HB9:=sqH ((HB1.out.trans ((hb67.trans hb78).mono HB1.out.size)).setCell (p:=⟨gz,1,none⟩) (by have:=HB1.out.size;show _≤gz;omega) (.slice B8 (s.ents.filter (fun b=> !decide (b.key∈g.dropLast))).length d8));have hrd9:RdSt (w8.setCell ⟨gz,1,none⟩ (.slice B8 (s.ents.filter (fun b=> !decide (b.key∈g.dropLast))).length d8)) (some ⟨g1,0,none⟩) s.blobs.length B8 d8 { s with ents:=s.ents.filter (fun b=> !decide (b.key∈g.dropLast)) }:=by
        obtain⟨A',c',B',d',e1,e2,h⟩:=ho9.rows;cases e1
        cases e2
        exact h
       have hcl:=XW (some ⟨g1,0,none⟩) s.blobs.length B8 d8 { s with ents:=s.ents.filter (fun b=> !decide (b.key∈g.dropLast)) } _ HGF.out hrd9;have hgc:=qp HGF.out;have hus:=hgc.used;have hrm:=hgc.room;have hbn:=hgc.b.len;dsimp only [qN]at hcl hus hrm;have HCL:=sqH hcl;obtain⟨z0,z1,z2,z3⟩:=sqC4 hZ9;clear ho8 hZ8 hg8 hx8 hob hb78 hb67 hZ HO7 HDF HCP hcl hgc hrd9 ho9 hZ9 HGF;go_wp2_with fail;clear z0 z1 z2 z3;refine HCL.out.mono ?_;rintro e_ wA ⟨u1,u2,rfl,hoA,hbA⟩;dsimp only;have HBA:=sqH (HB9.out.trans (hbA.mono HB9.out.size));obtain⟨Aw,cw,Bw,dw,e1,e2,hrdw⟩:=hoA.rows;subst e1 e2;clear hoA hbA;generalize cln { s with ents:=s.ents.filter (fun b=> !decide (b.key∈g.dropLast)) }=s3 at *
       have hbW:=(Below.refl wA.heap.size wA).alloc (Nat.le_refl _) (.cells #[.slice Aw s3.blobs.length cw,.slice Bw s3.ents.length dw,.int .i64 s.room,.int .i64 s.clock] 26);have hW:Arr (wA.alloc (.cells #[.slice Aw s3.blobs.length cw,.slice Bw s3.ents.length dw,.int .i64 s.room,.int .i64 s.clock] 26)) wA.heap.size 26 [.slice Aw s3.blobs.length cw,.slice Bw s3.ents.length dw,.int .i64 s.room,.int .i64 s.clock]:=Arr.new wA 26 _;have HBB:=sqH (HBA.out.trans (hbW.mono HBA.out.size));have hfi:=jr Aw cw s3.blobs s.room k (wA.alloc (.cells #[.slice Aw s3.blobs.length cw,.slice Bw s3.ents.length dw,.int .i64 s.room,.int .i64 s.clock] 26)) (by omega) (by omega) (by omega) (by omega) (hrdw.below hbW).b;rw [if_neg HLA.out]at hfi;have HFI:=sqH hfi;have q0:=hW.cell (k:=0) rfl;have q2:=hW.cell (k:=2) rfl;clear hrdw hbW hW hfi;go_wp2_with fail;clear q0 q2;refine HFI.out.mono ?_;rintro e_ wB ⟨rfl,hbB⟩;dsimp only;have hbE:=HBB.out.trans (hbB.mono HBB.out.size);go_wp2_with fail;go_ret;exact⟨by simp,hbE⟩
end Go.Proofs.YtnmlbflhnnmoeaaGreat
