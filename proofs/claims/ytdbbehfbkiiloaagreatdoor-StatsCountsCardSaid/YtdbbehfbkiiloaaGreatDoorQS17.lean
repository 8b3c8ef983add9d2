/- Lemmas of the proof. Conditions: as stated. -/
import Derived.Test.YtdbbehfbkiiloaaGreatDoorQS11
set_option linter.unusedVariables false
set_option linter.unusedSimpArgs false
set_option maxRecDepth 100000
set_option maxHeartbeats 4000000
namespace Go.Proofs.YtdbbehfbkiiloaaGreatDoor
open Go.RowKit
theorem Qh (s:ByteArray) (r:List UInt8) (q:Nat) (w:World) (hs:s.size≤4000) (hq:s.size=2*q) (hun:qA s.data.toList=some r) :
  Calls Tryz.prog 33 #[.string s] w fun e w'=>∃v,e= .returned v∧w'.ownsRow w.heap.size 5 1 v r.length (bys r)∧Below w.heap.size w w':=by
 have hsz:s.data.toList.length=s.size:=by rw [Array.length_toList];rfl
 have hq1:q*2≤s.size:=by omega
 have hq2:s.size≤q*2:=by omega
 have HZ:=sqH hsz;have HUN:=sqH hun;clear hq hsz hun;go_enter Tryz.func33,Tryz.ntmps33;go_wp2_with fail;go_loopg [3,4] s.size (fun gn v i wr=>∃(k:Nat) (acc:List UInt8),gn=s.size - 2*k∧i= .int .i64 ((2*k:Nat):Int)∧k≤q∧acc.length=k∧qA s.data.toList=(qA (s.data.toList.drop (2*k))).map (acc++ ·) ∧
  wr.ownsRow w.heap.size 5 1 v acc.length (bys acc)∧Below w.heap.size w wr)
 case atStart=>exact⟨0, [],rfl,rfl,by omega,rfl,by simp,World.ownsRow_nil _ _ _ _,Below.refl _ _⟩
 case round =>
  obtain⟨k,acc,hgk,rfl,hk,hacc,hun,hown,hbel⟩:=hrel;have HGK0:=sqH hgk;have HU:=sqH hun;have HA:=sqH hacc;clear hun hacc hgk;have hsw:=hbel.size;generalize hm:2*k=m at *
  have HGK:=HGK0;have HM:=sqH hm;by_cases hlt:k<q
  ·have hm1:m+1<s.size:=by omega
   have hm0:m<s.size:=by omega
   have hi0:(0:Int)≤(m:Int):=by omega
   have hi1:(m:Int)<(s.size:Int):=by omega
   have hi2:(m:Int)+1<(s.size:Int):=by omega
   have hi3:(0:Int)≤(m:Int)+1:=by omega
   have hw1:IntKind.i64.wrap ((m:Int)+1)=(m:Int)+1:=IntWalk.i64_in _ (by omega);have hw2:IntKind.i64.wrap ((m:Int)+2)=(m:Int)+2:=IntWalk.i64_in _ (by omega);have hn1:((m:Int)+1).toNat=m+1:=by omega
   have hd:s.data.toList.drop m=s[m]::s[m+1]::s.data.toList.drop (m+2):=by
    have hz:=HZ.out;rw [List.drop_eq_getElem_cons (by omega),List.drop_eq_getElem_cons (i:=m+1) (by omega)];rfl
   have ra:=zV s[m];have rb:=zV s[m+1];have hbad:¬(val s[m]<0∨val s[m+1]<0):=fun hbad=>by
    have h:=HUN.out;rw [HU.out,hd,qA,if_pos hbad]at h;cases h
   have hstep:qA s.data.toList=(qA (s.data.toList.drop (m+2))).map ((acc++ [UInt8.ofNat (16*(val s[m]).toNat+(val s[m+1]).toNat)])++ ·):=by
    rw [HU.out,hd,qA,if_neg hbad,Option.map_map]
    congr 1;funext x;simp
   have HG:=sqH hstep;have hna:0≤val s[m]:=by omega
   have hnb:0≤val s[m+1]:=by omega
   have hmx1:max (0:Int) (val s[m])=val s[m]:=by omega
   have hmx2:max (0:Int) (val s[m+1])=val s[m+1]:=by omega
   have he1:bys [UInt8.ofNat (16*(val s[m]).toNat+(val s[m+1]).toNat)]= [.int .u8 (16*val s[m]+val s[m+1])]:=by
    simp only [bys,List.map_cons,List.map_nil,UInt8.toNat_ofNat']
    congr 2;omega
   have HE1:=sqH he1;have hw3:IntKind.i64.wrap (16*val s[m])=16*val s[m]:=IntWalk.i64_in _ (by omega);have hw4:IntKind.i64.wrap (16*val s[m]+val s[m+1])=16*val s[m]+val s[m+1]:=IntWalk.i64_in _ (by omega);have hw5:IntKind.u8.wrap (16*val s[m]+val s[m+1])=16*val s[m]+val s[m+1]:=by rw [IntKind.wrap_u8];omega
   have HOWN:=sqH hown;have HBEL:=sqH hbel;have hacl:=HA.out;clear hm hd hbad hstep hown hbel he1;go_wp2_with fail;refine wp_region_held_drew (S:=(fun _=>True)) (by kernel_rfl) ?_ (fun hHeld=> ?_)
   ·trivial
   have hB:=(Below.refl wr.heap.size wr).drew;generalize wr.drew=wn0 at *
   refine wpAnyH_take (i:=0) (oi:=_) (v:= ?_) rfl (by kernel_rfl) (by kernel_rfl) (by kernel_rfl) (fun _ _ _ h=>h) (Or.inl ⟨by rfl,?_⟩) (by assumption) ?_;rotate_left
   ·(intro w hSw;(try dsimp only at hSw);go_simp;try (with_reducible rfl))
   try simp only [sqQ]
   refine wpAnyH_take (i:=1) (oi:=_) (v:= ?_) rfl (by kernel_rfl) (by kernel_rfl) (by kernel_rfl) (fun _ _ _ h=>h) (Or.inl ⟨by rfl,?_⟩) (by assumption) ?_;rotate_left
   ·(intro w hSw;(try dsimp only at hSw);go_simp;try (with_reducible rfl))
   try simp only [sqQ]
   refine wpAnyH_take (i:=2) (oi:=_) (v:= ?_) rfl (by kernel_rfl) (by kernel_rfl) (by kernel_rfl) (fun _ _ _ h=>h) (Or.inl ⟨by rfl,?_⟩) (by assumption) ?_;rotate_left
   ·(intro w hSw;(try dsimp only at hSw);go_simp;try (with_reducible rfl))
   try simp only [sqQ]
   refine wpAnyH_take (i:=3) (oi:=_) (v:= ?_) rfl (by kernel_rfl) (by kernel_rfl) (by kernel_rfl) (fun _ _ _ h=>h) (Or.inl ⟨by rfl,?_⟩) (by assumption) ?_;rotate_left
   ·(intro w hSw;(try dsimp only at hSw);go_simp;try (with_reducible rfl))
   try simp only [sqQ]
   refine wpAnyH_take (i:=7) (oi:=_) (v:= ?_) rfl (by kernel_rfl) (by kernel_rfl) (by kernel_rfl) (fun _ _ _ h=>h) (Or.inl ⟨by rfl,?_⟩) (by assumption) ?_;rotate_left
   ·(intro w hSw;(try dsimp only at hSw);go_simp;try (with_reducible rfl))
   try simp only [sqQ]
   refine wpAnyH_take (i:=8) (oi:=_) (v:= ?_) rfl (by kernel_rfl) (by kernel_rfl) (by kernel_rfl) (fun _ _ _ h=>h) (Or.inl ⟨by rfl,?_⟩) (by assumption) ?_;rotate_left
   ·(intro w hSw;(try dsimp only at hSw);go_simp;try (with_reducible rfl))
   try simp only [sqQ]
   refine wpAnyH_take (i:=9) (oi:=_) (v:= ?_) rfl (by kernel_rfl) (by kernel_rfl) (by kernel_rfl) (fun _ _ _ h=>h) (Or.inl ⟨by rfl,?_⟩) (by assumption) ?_;rotate_left
   ·(intro w hSw;(try dsimp only at hSw);go_simp;try (with_reducible rfl))
   try simp only [sqQ]
   refine wpAnyH_take (i:=10) (oi:=_) (v:= ?_) rfl (by kernel_rfl) (by kernel_rfl) (by kernel_rfl) (fun _ _ _ h=>h) (Or.inl ⟨by rfl,?_⟩) (by assumption) ?_;rotate_left
   ·(intro w hSw;(try dsimp only at hSw);go_simp;try (with_reducible rfl))
   try simp only [sqQ]
   refine wpAnyH_ready (rs:= [4]) (by kernel_rfl) (by simp) ?_;refine AllReadyH.cons (o:=_) rfl (fun K hK=> ?_) ?_
   ·
    go_simp;refine(ZD _ _).mono ?_;rintro e6 w6 ⟨rfl,hw6⟩;replace hw6:=hw6.symm;subst hw6;dsimp only;refine qi hK ?_ (Below wn0.heap.size wn0) (fun W=>True) ?_ ?_ (fun wn1 hHeld hst hnew=> ?_)
    ·(trivial)
    ·(first | exact(Below.refl _ _).alloc (Nat.le_refl _) _ | exact Below.refl _ _)
    ·(trivial)
    have hB:=hB.trans (hst.mono hB.size);clear hst;clear hK K
    try simp only [sqQ]
    refine wpAnyH_take (i:=5) (oi:=_) (v:= ?_) rfl (by kernel_rfl) (by kernel_rfl) (by kernel_rfl) (fun _ _ _ h=>h) (Or.inl ⟨by rfl,?_⟩) (by assumption) ?_;rotate_left
    ·(intro w hSw;(try dsimp only at hSw);go_simp;try (with_reducible rfl))
    try simp only [sqQ]
    refine wpAnyH_take (i:=6) (oi:=_) (v:= ?_) rfl (by kernel_rfl) (by kernel_rfl) (by kernel_rfl) (fun _ _ _ h=>h) (Or.inl ⟨by rfl,?_⟩) (by assumption) ?_;rotate_left
    ·(intro w hSw;(try dsimp only at hSw);go_simp;try (with_reducible rfl))
    try simp only [sqQ]
    refine wpAnyH_ready (rs:= [11]) (by kernel_rfl) (by simp) ?_;refine AllReadyH.cons (o:=_) rfl (fun K hK=> ?_) ?_
    ·
     go_simp;refine(ZD _ _).mono ?_;rintro e6 w6 ⟨rfl,hw6⟩;replace hw6:=hw6.symm;subst hw6;dsimp only;refine qi hK ?_ (Below wn1.heap.size wn1) (fun W=>True) ?_ ?_ (fun wn2 hHeld hst hnew=> ?_)
     ·(trivial)
     ·(first | exact(Below.refl _ _).alloc (Nat.le_refl _) _ | exact Below.refl _ _)
     ·(trivial)
     have hB:=hB.trans (hst.mono hB.size);clear hst;clear hK K
     try simp only [sqQ]
     refine wpAnyH_take (i:=12) (oi:=_) (v:= ?_) rfl (by kernel_rfl) (by kernel_rfl) (by kernel_rfl) (fun _ _ _ h=>h) (Or.inl ⟨by rfl,?_⟩) (by assumption) ?_;rotate_left
     ·(intro w hSw;(try dsimp only at hSw);go_simp;try (with_reducible rfl))
     try simp only [sqQ]
     refine wpAnyH_take (i:=13) (oi:=_) (v:= ?_) rfl (by kernel_rfl) (by kernel_rfl) (by kernel_rfl) (fun _ _ _ h=>h) (Or.inl ⟨by rfl,?_⟩) (by assumption) ?_;rotate_left
     ·(intro w hSw;(try dsimp only at hSw);go_simp;try (with_reducible rfl))
     try simp only [sqQ]
     refine wpAnyH_take (i:=14) (oi:=_) (v:= ?_) rfl (by kernel_rfl) (by kernel_rfl) (by kernel_rfl) (fun _ _ _ h=>h) (Or.inl ⟨by rfl,?_⟩) (by assumption) ?_;rotate_left
     ·(intro w hSw;(try dsimp only at hSw);go_simp;try (with_reducible rfl))
     try simp only [sqQ]
     refine wpAnyH_ready (rs:= [15]) (by kernel_rfl) (by simp) ?_;refine AllReadyH.cons (o:=_) rfl (fun K hK=> ?_) ?_
     ·
      go_simp;refine qi hK ?_ (Below wn2.heap.size wn2) (fun W=>Rd W 1 (some ⟨wn2.heap.size,0,none⟩) 1 (bys [UInt8.ofNat (16*(val s[m]).toNat+(val s[m+1]).toNat)])) ?_ ?_ (fun wn3 hHeld hst hnew=> ?_)
      ·(trivial)
      ·(first | exact(Below.refl _ _).alloc (Nat.le_refl _) _ | exact Below.refl _ _)
      ·(rw [HE1.out];exact Rd.new1 _)
      have hB:=hB.trans (hst.mono hB.size);have h15:=hnew;clear hst;clear hK K
      try simp only [sqQ]
      refine wpAnyH_ready (rs:= [16]) (by kernel_rfl) (by simp) ?_;refine AllReadyH.cons (o:=_) rfl (fun K hK=> ?_) ?_
      ·
       refine yP rfl (.tmp 12) (.tmp 27) rfl yY (by rfl) (z6 HOWN.out hB) (by rfl) h15 (qT _) (by omega) (Nat.le_trans hsw hB.size) ?_;intro v7 w7 ho7 hg7 _;refine qi hK ?_ (fun W=>W.ownsRow w.heap.size 5 1 v7 (acc.length+1) (bys acc++bys [UInt8.ofNat (16*(val s[m]).toNat+(val s[m+1]).toNat)])) (Below w.heap.size w) ?_ ?_ (fun wn4 hHeld hF hG=> ?_)
       ·trivial
       ·exact ho7
       ·exact z7 (HBEL.out.trans (hB.mono hsw)) (z6 HOWN.out hB) (Nat.le_refl _) hg7
       clear hK K
       try simp only [sqQ]
       refine wpAnyH_take (i:=17) (oi:=_) (v:= ?_) rfl (by kernel_rfl) (by kernel_rfl) (by kernel_rfl) (fun _ _ _ h=>h) (Or.inl ⟨by rfl,?_⟩) (by assumption) ?_;rotate_left
       ·(intro w hSw;(try dsimp only at hSw);go_simp;try (with_reducible rfl))
       try simp only [sqQ]
       refine wpAnyH_done (by kernel_rfl) ?_ _;clear hHeld hB;go_wp2_with fail;go_roundg (s.size - (m+2))
       case measure=>have:=HGK.out;omega
       case rel =>
        refine⟨k+1,acc++ [UInt8.ofNat (16*(val s[m]).toNat+(val s[m+1]).toNat)],by rw [show 2*(k+1)=m+2 by have:=HM.out;omega],by have:=HM.out;go_num,by omega,by rw [List.length_append];simp only [List.length_cons,List.length_nil];omega,by rw [show 2*(k+1)=m+2 by have:=HM.out;omega];exact HG.out,?_,hG⟩;rw [zA,List.length_append];exact hF
      exact AllReadyH.nil
     exact AllReadyH.nil
    exact AllReadyH.nil
   exact AllReadyH.nil
  ·have hkq:k=q:=by omega
   have hfin:acc=r:=by
    have h:=HUN.out;rw [HU.out,List.drop_of_length_le (by have:=HZ.out;omega),qA]at h;simpa using h
   have hmm:s.size≤m:=by omega
   have hmb:m≤5000:=by omega
   subst hfin;clear hkq hm;have hcc:decide ((m:Int)+1<(s.size:Int))=false:=decide_eq_false (by omega);have hw1:IntKind.i64.wrap ((m:Int)+1)=(m:Int)+1:=IntWalk.i64_in _ (by omega);go_wp2_with fail;go_ret;exact⟨_,rfl,hown,hbel⟩
theorem jE (x:List PartP) (k:Nat) (h:k<x.length):(x.take (k+1)).flatMap kD=(x.take k).flatMap kD++kD x[k]:=by
 rw [List.take_succ_eq_append_getElem h,List.flatMap_append,List.flatMap_cons,List.flatMap_nil,List.append_nil]
theorem ZW (x:List PartP) (h:∀p∈x,Yj p) (k:Nat) (hx:x.length≤100):((x.take k).flatMap kD).length≤4800:=by
 have h1:=vP (x.take k) (fun p hp=>h p (List.mem_of_mem_take hp));rw [List.length_take]at h1;omega
theorem Kx {d:List UInt8} (h:hexC d=0):qA d=some (kj d).1∧d.length=64:=by
 unfold hexC at h;by_cases h64:d.length=64
 ·rw [if_neg (by omega)]at h;refine⟨?_,h64⟩;unfold kj at h ⊢
  rw [if_neg (by omega),if_neg (by omega)]at h ⊢
  cases hu:qA d with
  | none=>rw [hu]at h;cases h
  | some r=>rfl
 ·rw [if_pos h64]at h;cases h
theorem KQ (z:Nat):bits .or .u8 ((z:Int) % 128) 128=((UInt8.ofNat (z % 128+128)).toNat:Int):=by
 have key:∀a:Fin 128,bits .or .u8 (a.val:Int) 128=((UInt8.ofNat (a.val+128)).toNat:Int):=by decide +kernel
 have h:=key ⟨z % 128,by omega⟩;have h2:(z:Int) % 128=((z % 128:Nat):Int):=by omega
 rw [h2];exact h
theorem xO (A0:Option Addr) (n c0:Nat) (x:List PartP) (w:World) (hl:x.length=n) (hn:n≤100) (hf:∀p∈x,Yj p) (hr:Rd w 3 A0 n (pcs x)) :
  Calls Tryz.prog 16 #[.slice A0 n c0] w fun e w'=>∃A c,e= .returned (.slice A (enc x).length c)∧zY w' w.heap.size A c (enc x)∧Below w.heap.size w w':=by
 have HL:=sqH hl;have HF:=sqH hf;obtain⟨bn,hbn⟩:∃bn,bn=UInt8.ofNat n:=⟨_,rfl⟩
 have HEN:=sqH (show enc x= [65,77,49]++ [bn]++x.flatMap kD from by rw [enc,hl,zG (by omega),hbn]);have hkc:=fun (w:World) (C:Array Value) (n c:Nat)=>Lib.run_convert_bytes_const (P:=Tryz.prog) w 50 5 C n c Tryz.underlying50 Tryz.underlying5;have hw8:IntKind.u8.wrap (n:Int)=(bn.toNat:Int):=by rw [hbn,IntKind.wrap_u8,UInt8.toNat_ofNat'];omega
 clear hl hf hbn;go_enter Tryz.func16,Tryz.ntmps16
 repeat' (fail_if_success (first|at_builtin|at_make));first|go_values|go_skip|go_guarded|go_step|go_upon|go_back
 have hz1:zY (w.alloc (.cells #[.int .u8 65,.int .u8 77,.int .u8 49] 5 (3,4))) w.heap.size (some ⟨w.heap.size,0,none⟩) 3 [65,77,49] :=
  ⟨w.heap.size, [],(3,4),rfl,Nat.le_refl _,World.alloc_heap_new w _,rfl,by simp [maxLen],.inr (Nat.le_refl _)⟩
 have hb1:=(Below.refl w.heap.size w).alloc (Nat.le_refl _) (.cells #[.int .u8 65,.int .u8 77,.int .u8 49] 5 (3,4));have hr1:=hr.alloc (.cells #[.int .u8 65,.int .u8 77,.int .u8 49] 5 (3,4));have hs1:(w.alloc (.cells #[.int .u8 65,.int .u8 77,.int .u8 49] 5 (3,4))).heap.size=w.heap.size+1:=World.size_alloc _ _;generalize w.alloc (.cells #[.int .u8 65,.int .u8 77,.int .u8 49] 5 (3,4))=w1 at *
 have hz1':zY (w1.alloc (.cells #[.int .u8 (bn.toNat:Int)] 5)) w.heap.size (some ⟨w.heap.size,0,none⟩) 3 [65,77,49]:=hz1.below ((Below.refl _ _).alloc (Nat.le_refl _) _);have hb1':=hb1.alloc hb1.size (.cells #[.int .u8 (bn.toNat:Int)] 5);have hsrc:Src Tryz.prog (w1.alloc (.cells #[.int .u8 (bn.toNat:Int)] 5)) 50 (.slice (some ⟨w1.heap.size,0,none⟩) 1 1) 1 [bn]:=Src.sl Tryz.underlying50 1 (Rd.new1 _);rw [←hs1];refine kb rfl (.tmp 7) (.tmp 11) rfl (by rfl) hz1' rfl hsrc (by simp) hb1'.size ?_;intro A2 c2 w2 hz2 hb2;have hb12:=hb1'.trans (hb2.mono (Nat.le_refl _));have hr2:Rd w2 3 A0 n (pcs x):=(hr.below hb12)
 have HR0:=sqH hr;clear hz1' hb1' hsrc hz1 hb1 hr1 hs1 hb2 hr2 hr hkc hw8;go_wp2_with fail;go_loopg [3,15,5] n (fun gn v i u wr=>∃(k:Nat) (A:Option Addr) (c:Nat),gn=n - k∧i= .int .i64 k∧k≤n∧v= .slice A ([65,77,49]++ [bn]++(x.take k).flatMap kD).length c∧zY wr w.heap.size A c ([65,77,49]++ [bn]++(x.take k).flatMap kD)∧Below w.heap.size w wr)
 case atStart=>exact⟨0,A2,c2,rfl,rfl,by omega,rfl,hz2,hb12⟩
 case round =>
  clear hz2 hb12;obtain⟨k,A,c,hgk,rfl,hk,rfl,hZ,hbel⟩:=hrel;have HGK:=sqH hgk;clear hgk;by_cases hlt:k<n
  ·have hkl:k<x.length:=by have:=HL.out;omega
   have hstep:=jE x k hkl;have hfine:=HF.out x[k] (List.getElem_mem hkl);have hel:=ZW x HF.out k (by have:=HL.out;omega);have hat:=fun j (hj:j<3)=>kI x k j hkl hj;obtain⟨b,off,rfl,hbw',hcell⟩:=(HR0.out.below hbel).2 (by omega);generalize x[k]=p at *
   have c0:=hcell (k*3+0) _ (hat 0 (by omega));have c1:=hcell (k*3+1) _ (hat 1 (by omega));have c2:=hcell (k*3+2) _ (hat 2 (by omega));rw [Nat.add_zero]at c0;rw [show off+(k*3+1)=off+k*3+1 by omega]at c1;rw [show off+(k*3+2)=off+k*3+2 by omega]at c2;obtain⟨pn,pd,z⟩:=p;dsimp only [qu,List.getElem?_cons_zero,List.getElem?_cons_succ]at c0 c1 c2;obtain⟨s,hs⟩:∃s:ByteArray,s=⟨pn.toArray⟩:=⟨_,rfl⟩
   obtain⟨t,ht⟩:∃s:ByteArray,s=⟨pd.toArray⟩:=⟨_,rfl⟩
   rw [←hs]at c0;rw [←ht]at c1;have hsd:s.data.toList=pn:=by rw [hs]
   have htd:t.data.toList=pd:=by rw [ht]
   have hss:s.size=pn.length:=by rw [←hsd,Array.length_toList];rfl
   have hts:t.size=pd.length:=by rw [←htd,Array.length_toList];rfl
   have hn12:=qZ hfine.1;have hux:=Kx hfine.2.1;have hz300:=hfine.2.2;have HDLL:=(xp hfine.2.1).2;dsimp only at hn12 hux hz300 HDLL;obtain⟨bs,hbs⟩:∃bs,bs=UInt8.ofNat s.size:=⟨_,rfl⟩
   have hwb:IntKind.u8.wrap (s.size:Int)=(bs.toNat:Int):=by rw [hbs,IntKind.wrap_u8,UInt8.toNat_ofNat'];omega
   have HSTEP:=sqH (show(x.take (k+1)).flatMap kD=(x.take k).flatMap kD++([bs]++s.data.toList++(kj pd).1++num z) from by
    rw [hstep,kD,txt,hsd,hbs,hss,zG (n:=pn.length) (by omega)])
   have HUX:=sqH (show qA t.data.toList=some (kj pd).1 from by rw [htd];exact hux.1);have hs12:s.size≤12:=by omega
   have ht64:t.size=64:=by omega
   have hk0:(0:Int)≤(k:Int):=by omega
   have hk1:(k:Int)<(n:Int):=by omega
   have hcc:decide (k<n)=true:=decide_eq_true hlt;have hal:([65,77,49]++ [bn]++(x.take k).flatMap kD).length≤4900:=by
    simp only [List.length_append,List.length_cons,List.length_nil];omega
   obtain⟨acc,hacc⟩:∃acc,acc= [65,77,49]++ [bn]++(x.take k).flatMap kD:=⟨_,rfl⟩
   rw [←hacc]at hZ hal ⊢
   have HACC:=sqH hacc;have hH0:=hux.1;have HDL:=sqH (show(kj pd).1.length=32 from HDLL);generalize (kj pd).1=dg at *
   clear hstep hfine hel hat hcell hs ht hsd htd hss hts hbs hacc hux hH0 HDLL;go_wp2_with fail;have hZ':zY (wr.alloc (.cells #[.string s,.string t,.int .i64 z] 77)) w.heap.size A c acc:=hZ.below ((Below.refl _ _).alloc (Nat.le_refl _) _);have hP:=Arr.new wr 77 [.string s,.string t,.int .i64 z];have hbw:=hbel.alloc hbel.size (.cells #[.string s,.string t,.int .i64 z] 77);have hne:A≠some ⟨wr.heap.size,0,none⟩:=fun e=>by
    obtain⟨g,_,_,e',_,hg,_⟩:=hZ;rw [e]at e';cases e'
    have:=(Array.getElem?_eq_some_iff.1 hg).1;omega
   have hgw:w.heap.size≤wr.heap.size:=hbel.size;clear hZ hbel;have hZ:=hZ';clear hZ';have hP:Arr (wr.alloc (.cells #[.string s,.string t,.int .i64 z] 77)) wr.heap.size 77 [.string s,.string t,.int .i64 z]:=hP;generalize wr.alloc (.cells #[.string s,.string t,.int .i64 z] 77)=wa at *
   generalize wr.heap.size=gp at *
   clear c0 c1 c2;refine wp_region_held_drew (S:=(fun w'=>w'.cell? ⟨gp,0,none⟩=some (.string s))) (by kernel_rfl) ?_ (fun hHeld=> ?_)
   ·exact(hP.drew).cell (k:=0) rfl
   have hB:=(Below.refl wa.heap.size wa).drew;have hPn:=hP.drew;have hZn:zY wa.drew w.heap.size A c acc:=hZ;have hbn:=hbw.drew;clear hP hZ hbw;generalize wa.drew=wn0 at *
   refine wpAnyH_take (i:=0) (oi:=_) (v:= ?_) rfl (by kernel_rfl) (by kernel_rfl) (by kernel_rfl) (fun _ _ _ h=>h) (Or.inl ⟨by rfl,?_⟩) (by assumption) ?_;rotate_left
   ·(intro w hSw;(try dsimp only at hSw);go_simp;try (with_reducible rfl))
   try simp only [sqQ]
   refine wpAnyH_take (i:=1) (oi:=_) (v:= ?_) rfl (by kernel_rfl) (by kernel_rfl) (by kernel_rfl) (fun _ _ _ h=>h) (Or.inl ⟨by rfl,?_⟩) (by assumption) ?_;rotate_left
   ·(intro w hSw;(try dsimp only at hSw);go_simp;try (with_reducible rfl))
   try simp only [sqQ]
   refine wpAnyH_take (i:=2) (oi:=_) (v:= ?_) rfl (by kernel_rfl) (by kernel_rfl) (by kernel_rfl) (fun _ _ _ h=>h) (Or.inl ⟨by rfl,?_⟩) (by assumption) ?_;rotate_left
   ·(intro w hSw;(try dsimp only at hSw);go_simp;try (with_reducible rfl))
   try simp only [sqQ]
   refine wpAnyH_take (i:=3) (oi:=_) (v:= ?_) rfl (by kernel_rfl) (by kernel_rfl) (by kernel_rfl) (fun _ _ _ h=>h) (Or.inl ⟨by rfl,?_⟩) (by assumption) ?_;rotate_left
   ·(intro w hSw;(try dsimp only at hSw);go_simp;try (with_reducible rfl))
   try simp only [sqQ]
   refine wpAnyH_take (i:=4) (oi:=_) (v:= ?_) rfl (by kernel_rfl) (by kernel_rfl) (by kernel_rfl) (fun _ _ _ h=>h) (Or.inl ⟨by rfl,?_⟩) (by assumption) ?_;rotate_left
   ·(intro w hSw;(try dsimp only at hSw);go_simp;try (with_reducible rfl))
   try simp only [sqQ]
   refine wpAnyH_take (i:=7) (oi:=_) (v:= ?_) rfl (by kernel_rfl) (by kernel_rfl) (by kernel_rfl) (fun _ _ _ h=>h) (Or.inl ⟨by rfl,?_⟩) (by assumption) ?_;rotate_left
   ·(intro w hSw;(try dsimp only at hSw);go_simp;try (with_reducible rfl))
   try simp only [sqQ]
   refine wpAnyH_take (i:=8) (oi:=_) (v:= ?_) rfl (by kernel_rfl) (by kernel_rfl) (by kernel_rfl) (fun _ _ _ h=>h) (Or.inl ⟨by rfl,?_⟩) (by assumption) ?_;rotate_left
   ·(intro w hSw;(try dsimp only at hSw);go_simp;try (with_reducible rfl))
   try simp only [sqQ]
   refine wpAnyH_ready (rs:= [5]) (by kernel_rfl) (by simp) ?_;refine AllReadyH.cons (o:=_) rfl (fun K hK=> ?_) ?_
   ·
    go_simp;refine qi hK ?_ (Below wn0.heap.size wn0) (fun W=>Arr W gp 77 [.string s,.string t,.int .i64 z]∧zY W w.heap.size A c acc∧Below w.heap.size w W∧Rd W 1 (some ⟨wn0.heap.size,0,none⟩) 1 (bys [bs])) ?_ ?_ (fun wn1 hHeld hst hnew=> ?_)
    ·(exact(hPn.alloc _).cell (k:=0) rfl)
    ·(first | exact(Below.refl _ _).alloc (Nat.le_refl _) _ | exact Below.refl _ _)
    ·(exact⟨hPn.alloc _,hZn.below ((Below.refl _ _).alloc (Nat.le_refl _) _),hbn.alloc hbn.size _,Rd.new1 _⟩)
    have hB:=hB.trans (hst.mono hB.size);clear hPn hZn hbn;obtain⟨hPn,hZn,hbn,h5⟩:=hnew;clear hst;clear hK K
    try simp only [sqQ]
    refine wpAnyH_ready (rs:= [6]) (by kernel_rfl) (by simp) ?_;refine AllReadyH.cons (o:=_) rfl (fun K hK=> ?_) ?_
    ·
     refine ue rfl (.tmp 19) (.tmp 24) rfl (by rfl) hZn rfl (Src.sl Tryz.underlying50 1 h5) (by omega) hbn.size ?_;intro A6 c6 w6 hz6 hb6 hg6 ha6;refine qi hK ?_ (fun W=>Arr W gp 77 [.string s,.string t,.int .i64 z]∧zY W w.heap.size A6 c6 (acc++ [bs])∧A6≠some ⟨gp,0,none⟩) (Below w.heap.size w) ?_ ?_ (fun wn2 hHeld hF hG=> ?_)
     ·exact(hPn.beside hg6 hne hZn.addr).cell (k:=0) rfl
     ·refine⟨hPn.beside hg6 hne hZn.addr,hz6,fun e=> ?_⟩;rcases ha6 gp e with h | h
      ·exact hne h
      ·have:=hPn.lt;omega
     ·exact hbn.trans (hb6.mono (Nat.le_refl _))
     clear hPn hZn hbn hne hB;obtain⟨hPn,hZn,hne⟩:=hF;have hbn:=hG;clear hG;clear hK K
     try simp only [sqQ]
     refine wpAnyH_ready (rs:= [9]) (by kernel_rfl) (by simp) ?_;refine AllReadyH.cons (o:=_) rfl (fun K hK=> ?_) ?_
     ·
      refine ue rfl (.tmp 25) (.tmp 27) rfl (by rfl) hZn rfl (Src.str Tryz.underlying9 s) (by rw [List.length_append];simp only [List.length_cons,List.length_nil];omega) hbn.size ?_;intro A9 c9 w9 hz9 hb9 hg9 ha9;refine qi hK ?_ (fun W=>Arr W gp 77 [.string s,.string t,.int .i64 z]∧zY W w.heap.size A9 c9 (acc++ [bs]++s.data.toList)∧A9≠some ⟨gp,0,none⟩) (Below w.heap.size w) ?_ ?_ (fun wn3 hHeld hF hG=> ?_)
      ·exact(hPn.beside hg9 hne hZn.addr).cell (k:=0) rfl
      ·refine⟨hPn.beside hg9 hne hZn.addr,hz9,fun e=> ?_⟩;rcases ha9 gp e with h | h
       ·exact hne h
       ·have:=hPn.lt;omega
      ·exact hbn.trans (hb9.mono (Nat.le_refl _))
      clear hPn hZn hbn hne;obtain⟨hPn,hZn,hne⟩:=hF;have hbn:=hG;clear hG;generalize hacc2:acc++ [bs]++s.data.toList=acc2 at *
      have HA2:=sqH hacc2;clear hacc2;clear hK K
      try simp only [sqQ]
      refine wpAnyH_take (i:=10) (oi:=_) (v:= ?_) rfl (by kernel_rfl) (by kernel_rfl) (by kernel_rfl) (fun _ _ _ h=>h) (Or.inl ⟨by rfl,?_⟩) (by assumption) ?_;rotate_left
      ·(intro w hSw;(try dsimp only at hSw);go_simp;try (with_reducible rfl))
      try simp only [sqQ]
      refine wpAnyH_done (by kernel_rfl) ?_ _;clear hHeld;have hal2:acc2.length≤5000:=by
       have h:=congrArg List.length HA2.out;have h2:s.data.toList.length=s.size:=by rw [Array.length_toList];rfl
       simp only [List.length_append,List.length_cons,List.length_nil,h2]at h;omega
      have f1:=hPn.cell (k:=1) rfl;go_wp2_with fail;refine(Qh t dg 32 wn3 (by omega) (by omega) HUX.out).mono ?_;rintro e_ w4 ⟨v4,rfl,ho4,hb4⟩;dsimp only;have hb14:=hbn.trans (hb4.mono hbn.size);have hP4:=hPn.below hb4;have hZ4:=hZn.below hb4;obtain⟨A4,c4,rfl,hc4,hr4⟩:=Rd.of_own' ho4;have hdl:dg.length≤5000:=by have:=HDL.out;omega
      clear ho4 hPn hZn hbn hb4 f1
      repeat' (fail_if_success (first|at_builtin|at_make));first|go_values|go_skip|go_guarded|go_step|go_upon|go_back
      refine vr rfl (.tmp 29) (.tmp 32) rfl (by rfl) hZ4 rfl (Src.sl Tryz.underlying50 c4 hr4) (by omega) hb14.size ?_;intro A5 c5 w5 hz5 hb5 hg5 ha5;have hP5:=hP4.beside hg5 hne hZ4.addr;have hne5:A5≠some ⟨gp,0,none⟩:=fun e=>by
       rcases ha5 gp e with h | h
       ·exact hne h
       ·have:=hP4.lt;omega
      have hb15:=hb14.trans (hb5.mono (Nat.le_refl _));have hal3:(acc2++dg).length≤11000:=by rw [List.length_append];omega
      generalize hacc3:acc2++dg=acc3 at *
      have HA3:=sqH hacc3;have f2:=hP5.cell (k:=2) rfl;clear hacc3 hZ4 hP4 hg5 ha5 hr4 hb5 hb14 hne;by_cases hbig:127<z
      ·have e1:decide ((127:Int)<(z:Int))=true:=decide_eq_true (by omega);obtain⟨b0,hb0⟩:∃b,b=UInt8.ofNat (z % 128+128):=⟨_,rfl⟩
       obtain⟨b1,hb1⟩:∃b,b=UInt8.ofNat (z / 128):=⟨_,rfl⟩
       have HNZ:=sqH (show num z= [b0,b1] from by rw [va (by omega),zG (n:=z / 128) (by omega),hb0,hb1]);have q1:bits .or .u8 ((z:Int) % 128) 128=(b0.toNat:Int):=by
        rw [hb0];exact KQ z
       have q1':IntKind.u8.wrap ((z:Int) % 128)=(z:Int) % 128:=by rw [IntKind.wrap_u8];omega
       have q2:IntKind.u8.wrap ((z:Int) / 128)=(b1.toNat:Int):=by rw [hb1,IntKind.wrap_u8,UInt8.toNat_ofNat'];omega
       clear hb0 hb1 hbig
       repeat' (fail_if_success (first|at_builtin|at_make));first|go_values|go_skip|go_guarded|go_step|go_upon|go_back
       have hz5':zY (w5.alloc (.cells #[.int .u8 (b0.toNat:Int),.int .u8 (b1.toNat:Int)] 5)) w.heap.size A5 c5 acc3:=hz5.below ((Below.refl _ _).alloc (Nat.le_refl _) _);refine kb rfl (.tmp 37) (.tmp 47) rfl (by rfl) hz5' (k:= [b0,b1]) rfl (Src.sl Tryz.underlying50 2 (Rd.newN (w:=w5) (e:=5) (size:=1) (m:=2) (bys [b0,b1]) rfl)) (by omega) (Nat.le_trans hb15.size (by simp)) ?_;intro A6 c6 w6 hz6 hb6;have hb16:=(hb15.alloc hb15.size (.cells #[.int .u8 (b0.toNat:Int),.int .u8 (b1.toNat:Int)] 5)).trans (hb6.mono (Nat.le_refl _));have hacc4:acc3++ [b0,b1]= [65,77,49]++ [bn]++(x.take (k+1)).flatMap kD:=by
        rw [HSTEP.out,HNZ.out,←HA3.out,←HA2.out,HACC.out];simp only [List.append_assoc]
       rw [hacc4]at hz6 ⊢
       clear hacc4 hz5' hz5 hb15 hb6;generalize hX: [65,77,49]++ [bn]++(x.take (k+1)).flatMap kD=X4 at *
       go_wp2_with fail;go_roundg (n - (k+1))
       case measure=>have:=HGK.out;omega
       case rel=>exact⟨k+1,A6,c6,rfl,by go_num,by omega,by rw [hX],by rw [hX];exact hz6,hb16⟩
      ·have e1:decide ((127:Int)<(z:Int))=false:=decide_eq_false (by omega);obtain⟨bz,hbz⟩:∃b,b=UInt8.ofNat z:=⟨_,rfl⟩
       have HNZ:=sqH (show num z= [bz] from by rw [zG (by omega),hbz]);have q2:IntKind.u8.wrap (z:Int)=(bz.toNat:Int):=by rw [hbz,IntKind.wrap_u8,UInt8.toNat_ofNat'];omega
       clear hbz hbig
       repeat' (fail_if_success (first|at_builtin|at_make));first|go_values|go_skip|go_guarded|go_step|go_upon|go_back
       have hz5':zY (w5.alloc (.cells #[.int .u8 (bz.toNat:Int)] 5)) w.heap.size A5 c5 acc3:=hz5.below ((Below.refl _ _).alloc (Nat.le_refl _) _);refine kb rfl (.tmp 49) (.tmp 53) rfl (by rfl) hz5' (k:= [bz]) rfl (Src.sl Tryz.underlying50 1 (Rd.new1 _)) (by omega) (Nat.le_trans hb15.size (by simp)) ?_;intro A6 c6 w6 hz6 hb6;have hb16:=(hb15.alloc hb15.size (.cells #[.int .u8 (bz.toNat:Int)] 5)).trans (hb6.mono (Nat.le_refl _));have hacc4:acc3++ [bz]= [65,77,49]++ [bn]++(x.take (k+1)).flatMap kD:=by
        rw [HSTEP.out,HNZ.out,←HA3.out,←HA2.out,HACC.out];simp only [List.append_assoc]
       rw [hacc4]at hz6 ⊢
       clear hacc4 hz5' hz5 hb15 hb6;generalize hX: [65,77,49]++ [bn]++(x.take (k+1)).flatMap kD=X4 at *
       go_wp2_with fail;go_roundg (n - (k+1))
       case measure=>have:=HGK.out;omega
       case rel=>exact⟨k+1,A6,c6,rfl,by go_num,by omega,by rw [hX],by rw [hX];exact hz6,hb16⟩
     exact AllReadyH.nil
    exact AllReadyH.nil
   exact AllReadyH.nil
  ·obtain rfl:k=n:=by omega
   have hcc:decide (k<k)=false:=by simp
   have hfin: [65,77,49]++ [bn]++(x.take k).flatMap kD=enc x:=by
    rw [HEN.out,List.take_of_length_le (by have:=HL.out;omega)]
   rw [hfin]at hZ ⊢
   clear hfin;generalize hX:enc x=X4 at *
   go_wp2_with fail;go_ret;rw [hX];exact⟨A,c,rfl,hZ,hbel⟩
theorem Y4:El Tryz.prog 27 9 1 16:=El.mk' (z:= .string ByteArray.empty) Tryz.underlying27 (by kernel_rfl) rfl (by omega) (by omega)
def dcs (l:List PartP):List Value:=l.map fun p=> .string ⟨p.dig.toArray⟩
theorem ZT (l:List PartP) (k:Nat) (h:k<l.length):dcs (l.take (k+1))=dcs (l.take k)++ [.string ⟨l[k].dig.toArray⟩]:=by
 rw [dcs,List.take_succ_eq_append_getElem h,List.map_append];rfl
theorem xj:∀(n:Nat) (out:List PartP) (l:List UInt8),(zk n out l).2.1.length≤out.length+n
 | 0,out,l=>Nat.le_refl _
 | n+1,out,l=>by
  rw [zk]
  split
  ·exact Nat.zero_le _
  ·have:=xj n (out++ [(xI l).1]) (xI l).2.1
   rw [List.length_append]at this;simp only [List.length_cons,List.length_nil]at this;omega
theorem kq (b:List UInt8):(kC b).1.length≤8:=by
 have h0:=xj (zc (b.drop 3)).1 [] (zc (b.drop 3)).2.1;simp only [List.length_nil,Nat.zero_add]at h0;unfold kC;split
 ·exact Nat.zero_le _
 ·split
  ·exact Nat.zero_le _
  ·split
   ·exact Nat.zero_le _
   ·split
    ·exact Nat.zero_le _
    ·split
     ·exact Nat.zero_le _
     ·split
      ·exact Nat.zero_le _
      ·split
       ·exact Nat.zero_le _
       ·dsimp only;omega
theorem x8 (s:ByteArray) (A:Option Addr) (n c:Nat) (l:List UInt8) (pn:Int) (mk:Bool) (w:World) (hl:l.length=n) (hc:n≤c) (hm:c≤maxLen) (hr:Rd w 1 A n (bys l)) :
  Calls Tryz.prog 48 #[.agg #[.string s,.slice A n c,.int .i64 pn,.bool mk]] w fun e w'=>∃v,e= .returned v∧w'.ownsRow w.heap.size 9 1 v (kC l).1.length (dcs (kC l).1)∧Below w.heap.size w w':=by
 have HD:=sqH (fun w' hr'=>uY A n c l w' hl hc hm hr');have hx8:=kq l;generalize kC l=D at *
 obtain⟨x,er⟩:=D;dsimp only at HD hx8 ⊢
 obtain⟨w1,hw1⟩:∃w1,w1=w.alloc (.cells #[.string s,.slice A n c,.int .i64 pn,.bool mk] 52):=⟨_,rfl⟩
 have hb1:Below w.heap.size w w1:=by rw [hw1];exact(Below.refl _ _).alloc (Nat.le_refl _) _
 have hr1:Rd w1 1 A n (bys l):=by rw [hw1];exact hr.alloc _
 have HW:=sqH hw1;clear hw1 hl hr;go_enter Tryz.func48,Tryz.ntmps48;go_wp2_with fail;rw [←HW.out];refine(HD.out w1 hr1).mono ?_;rintro e_ w2 ⟨v2,rfl,ho2,hb2⟩;dsimp only;have hb12:=hb1.trans (hb2.mono hb1.size);obtain⟨A2,c2,rfl,hc2,hr2⟩:=Rd.of_own' ho2;have HR2:=sqH hr2;clear ho2 hr1;go_wp2_with fail;go_loopg [5,16,7] x.length (fun gn v i u wr=>∃k:Nat,gn=x.length - k∧i= .int .i64 k∧k≤x.length∧wr.ownsRow w2.heap.size 9 1 v k (dcs (x.take k))∧Below w2.heap.size w2 wr∧Below w.heap.size w wr)
 case atStart=>exact⟨0,rfl,rfl,by omega,World.ownsRow_nil _ _ _ _,Below.refl _ _,hb12⟩
 case round =>
  obtain⟨k,hgk,rfl,hk,ho,hbl,hbel⟩:=hrel;have HGK:=sqH hgk;clear hgk;by_cases hlt:k<x.length
  ·have hstep:=ZT x k hlt;have hat:=fun j (hj:j<3)=>kI x k j hlt hj;obtain⟨b,off,rfl,hbw',hcell⟩:=(HR2.out.below hbl).2 (by omega);have c0:=hcell (k*3+0) _ (hat 0 (by omega));have c1:=hcell (k*3+1) _ (hat 1 (by omega));have c2:=hcell (k*3+2) _ (hat 2 (by omega));rw [Nat.add_zero]at c0;rw [show off+(k*3+1)=off+k*3+1 by omega]at c1;rw [show off+(k*3+2)=off+k*3+2 by omega]at c2
   try dsimp only [qu,List.getElem?_cons_zero,List.getElem?_cons_succ]at c0 c1 c2
   generalize (⟨x[k].name.toArray⟩:ByteArray)=s' at *
   generalize (⟨x[k].dig.toArray⟩:ByteArray)=t' at *
   generalize (x[k].size:Int)=z' at *
   have HST:=sqH hstep;have hk0:(0:Int)≤(k:Int):=by omega
   have hk1:(k:Int)<(x.length:Int):=by omega
   have hcc:decide (k<x.length)=true:=decide_eq_true hlt;clear hstep hat hcell
   repeat' (fail_if_success (first|at_builtin|at_make));first|go_values|go_skip|go_guarded|go_step|go_upon|go_back
   have hbl':=hbl.alloc hbl.size (.cells #[.string s',.string t',.int .i64 z'] 77);have hbel':=hbel.alloc hbel.size (.cells #[.string s',.string t',.int .i64 z'] 77);have ho':=ho.alloc (.cells #[.string s',.string t',.int .i64 z'] 77);have hs1:(wr.alloc (.cells #[.string s',.string t',.int .i64 z'] 77)).heap.size=wr.heap.size+1:=World.size_alloc _ _;generalize wr.alloc (.cells #[.string s',.string t',.int .i64 z'] 77)=wb at *
   rw [←hs1];clear hs1 ho hbl hbel c0 c1 c2;refine zd rfl (.tmp 20) (.tmp 23) rfl Y4 (by rfl) ho' (us:= [.string t']) (m:=1) (by rfl) rfl (by intro u hu;simp at hu;subst hu;rfl) (by omega) hbl'.size ?_;intro v5 w5 ho5 hg5 hv5;rw [←HST.out]at ho5;have hbl5:=z7 hbl' ho' (Nat.le_refl _) hg5;have hbel5:=hb12.trans (hbl5.mono hb12.size);go_wp2_with fail;go_roundg (x.length - (k+1))
   case measure=>have:=HGK.out;omega
   case rel=>exact⟨k+1,rfl,by go_num,by omega,ho5,hbl5,hbel5⟩
  ·obtain rfl:k=x.length:=by omega
   have hcc:decide (x.length<x.length)=false:=by simp
   rw [List.take_length]at ho;go_wp2_with fail;go_ret;exact⟨_,rfl,zg ho hb12.size,hbel⟩
end Go.Proofs.YtdbbehfbkiiloaaGreatDoor
namespace Go.Proofs.YtdbbehfbkiiloaaGreatDoor
theorem qg:∀(fs gs:List FlP) (i:Nat) (k:List UInt8),fs.map (·.key)=gs.map (·.key)→fnd i fs k=fnd i gs k
 | [], [],i,k,_=>rfl
 | f::fs,g::gs,i,k,h=>by
  simp only [List.map_cons,List.cons.injEq]at h
  rw [fnd,fnd,h.1,qg fs gs (i+1) k h.2]
theorem CrewOk.snoc {l:List Int} {n:Int} (h:CrewOk l) (h1:1≤n) (h2:n≤1000) (hn:l.contains n=false):CrewOk (l++ [n]):=fun j hj=>by
 rw [List.length_append]at hj
 simp only [List.length_cons,List.length_nil]at hj
 by_cases hl:j<l.length
 ·rw [List.getElem_append_left hl,List.take_append_of_le_length (by omega)]
  exact h j hl
 ·have he:j=l.length:=by omega
  subst he
  rw [List.getElem_append_right (Nat.le_refl _),List.take_left]
  simp only [Nat.sub_self,List.getElem_cons_zero]
  exact⟨⟨h1,h2⟩,hn⟩
theorem CrewOk.one {n:Int} (h1:1≤n) (h2:n≤1000):CrewOk [n]:=fun j hj=>by
 have h0:j=0:=by simpa using hj
 subst h0
 exact⟨⟨h1,h2⟩,rfl⟩
theorem GoodF.nil_:GoodF []:=⟨by simp,(fun j h=>by cases h),(fun j h=>by cases h),(fun j h=>by cases h),(fun j h=>by cases h)⟩
theorem GoodF.snoc {fs:List FlP} {k:List UInt8} {n:Int} (h:GoodF fs) (h6:fs.length<6) (hk:hexC k=0) (hkl:k.length≤1000) (hf:fnd 0 fs k=none) (h1:1≤n) (h2:n≤1000):GoodF (fs++ [⟨k,n, []⟩]):=by
 have split:∀j,j<(fs++ [(⟨k,n, []⟩:FlP)]).length→j<fs.length∨j=fs.length:=fun j hj=>by
  rw [List.length_append]at hj;simp only [List.length_cons,List.length_nil]at hj;omega
 refine⟨by rw [List.length_append];simp only [List.length_cons,List.length_nil];omega,fun j hj=> ?_,fun j hj=> ?_,fun j hj=> ?_,fun j hj=> ?_⟩
 ·rcases split j hj with hl | rfl
  ·rw [List.getElem_append_left hl];exact h.key j hl
  ·rw [List.getElem_append_right (Nat.le_refl _)];simp only [Nat.sub_self,List.getElem_cons_zero];exact⟨hk,hkl⟩
 ·rcases split j hj with hl | rfl
  ·rw [List.getElem_append_left hl,List.take_append_of_le_length (by omega)];exact h.one j hl
  ·rw [List.getElem_append_right (Nat.le_refl _),List.take_left];simp only [Nat.sub_self,List.getElem_cons_zero];exact hf
 ·rcases split j hj with hl | rfl
  ·rw [List.getElem_append_left hl];exact h.few j hl
  ·rw [List.getElem_append_right (Nat.le_refl _)];simp only [Nat.sub_self,List.getElem_cons_zero];exact Nat.zero_le _
 ·rcases split j hj with hl | rfl
  ·rw [List.getElem_append_left hl];exact h.crew j hl
  ·rw [List.getElem_append_right (Nat.le_refl _)];simp only [Nat.sub_self,List.getElem_cons_zero];exact CrewOk.one h1 h2
theorem GoodF.set {fs:List FlP} {i:Nat} {n:Int} (h:GoodF fs) (hi:i<fs.length) (h1:1≤n) (h2:n≤1000) (hin:(fs[i].lead::fs[i].wait).contains n=false) (h5:fs[i].wait.length<5) :
  GoodF (fs.set i ⟨fs[i].key,fs[i].lead,fs[i].wait++ [n]⟩):=by
 have hkeys:∀m,((fs.set i ⟨fs[i].key,fs[i].lead,fs[i].wait++ [n]⟩).take m).map (·.key)=(fs.take m).map (·.key):=fun m=>by
  rw [List.map_take,List.map_take,List.map_set]
  congr 1
  apply List.ext_getElem
  ·simp
  ·intro j h1 h2;rw [List.getElem_set];split
   ·rename_i e;subst e;simp
   ·rfl
 refine⟨by rw [List.length_set];exact h.len,fun j hj=> ?_,fun j hj=> ?_,fun j hj=> ?_,fun j hj=> ?_⟩
 all_goals
  rw [List.length_set]at hj;by_cases e:i=j
  ·subst e
   first
    | (rw [List.getElem_set_self];exact h.key i hi)
    | (rw [List.getElem_set_self,qg _ _ _ _ (hkeys i)];exact h.one i hi)
    | (rw [List.getElem_set_self,List.length_append];simp only [List.length_cons,List.length_nil];omega)
    | (rw [List.getElem_set_self];exact(h.crew i hi).snoc h1 h2 hin)
  ·first
    | (rw [List.getElem_set_ne e];exact h.key j hj)
    | (rw [List.getElem_set_ne e,qg _ _ _ _ (hkeys j)];exact h.one j hj)
    | (rw [List.getElem_set_ne e];exact h.few j hj)
    | (rw [List.getElem_set_ne e];exact h.crew j hj)
end Go.Proofs.YtdbbehfbkiiloaaGreatDoor
namespace Go.Proofs.YtdbbehfbkiiloaaGreatDoor
open Go.RowKit
def yb (fs:List FlP) (As:List (Option Addr×Nat)):List Value:=(fs.zip As).flatMap fun x=>qG x.1 x.2.1 x.2.2
def blk (a:Option Addr×Nat):Option Nat:=a.1.map (·.block)
theorem jv (a:Option Addr×Nat) (n:Nat):(Value.slice a.1 n a.2).ownBlock=blk a:=by
 obtain⟨A,c⟩:=a;cases A<;>rfl
def FlsO (w:World) (base:Nat) (v:Value) (fs:List FlP):Prop :=
 ∃(As:List (Option Addr×Nat)),As.length=fs.length∧w.ownsRow base 46 3 v fs.length (yb fs As) ∧
  (∀(k:Nat) (p:FlP) (a:Option Addr×Nat),fs[k]?=some p→As[k]?=some a→w.ownsRow base 3 1 (.slice a.1 p.wait.length a.2) p.wait.length (ins p.wait)∧∀g,blk a=some g→v.ownBlock≠some g) ∧
  (∀(k j:Nat) (a b:Option Addr×Nat),k<j→As[k]?=some a→As[j]?=some b→∀g,blk a=some g→blk b≠some g)
theorem Kn {w:World} {base n c:Nat} {A:Option Addr} {e:TypeId} {xs:List Value} (h:w.ownsRow base e 1 (.slice A n c) n xs):n≤c∧c≤maxLen:=by
 rcases h.2 with ⟨h1,h2⟩ | ⟨_,cap,_,h1,_,_,h2,h3,_⟩
 ·injection h1 with _ _ h3;subst h3;omega
 ·injection h1 with _ _ h4;subst h4;exact⟨h2,h3⟩
theorem FlsO.fls {w:World} {base:Nat} {v:Value} {fs:List FlP} (h:FlsO w base v fs):∃A c,v= .slice A fs.length c∧fs.length≤c∧Fls w A fs:=by
 obtain⟨As,h1,h2,h3,h4⟩:=h;obtain⟨A,c,rfl,hc,hr⟩:=Rd.of_own' h2;refine⟨A,c,rfl,hc,As,h1,hr,fun k p a hp ha=> ?_⟩;have ho:=(h3 k p a hp ha).1;exact⟨Rd.of_own ho,Kn ho⟩
theorem FlsO.nil_ (w:World) (base:Nat) (v:Value) (h:w.ownsRow base 46 3 v 0 []):FlsO w base v [] :=
 ⟨[],rfl,h,(fun k p a hp _=>by cases hp),(fun k j a b _ ha=>by cases ha)⟩
theorem FlsO.below {w w':World} {base:Nat} {v:Value} {fs:List FlP} (h:FlsO w base v fs) (hb:Below w.heap.size w w'):FlsO w' base v fs:=by
 obtain⟨As,h1,h2,h3,h4⟩:=h;exact⟨As,h1,z6 h2 hb,(fun k p a hp ha=>⟨z6 (h3 k p a hp ha).1 hb,(h3 k p a hp ha).2⟩),h4⟩
theorem FlsO.lower {w:World} {base b':Nat} {v:Value} {fs:List FlP} (h:FlsO w base v fs) (hb:b'≤base):FlsO w b' v fs:=by
 obtain⟨As,h1,h2,h3,h4⟩:=h;exact⟨As,h1,zg h2 hb,(fun k p a hp ha=>⟨zg (h3 k p a hp ha).1 hb,(h3 k p a hp ha).2⟩),h4⟩
theorem kA:∀(fs:List FlP) (As:List (Option Addr×Nat)) (p:FlP) (a:Option Addr×Nat),As.length=fs.length→yb (fs++ [p]) (As++ [a])=yb fs As++qG p a.1 a.2
 | [], [],p,a,_=>by simp [yb]
 | f::fs,b::As,p,a,h=>by
  have ih:=kA fs As p a (by simpa using h)
  simp only [yb]at ih ⊢
  rw [List.cons_append,List.cons_append,List.zip_cons_cons,List.zip_cons_cons,List.flatMap_cons,List.flatMap_cons,ih,List.append_assoc]
theorem FlsO.snoc {w w':World} {base:Nat} {v v':Value} {fs:List FlP} {p:FlP} {B:Option Addr} {c:Nat} {As:List (Option Addr×Nat)} (h1:As.length=fs.length)
  (h3:∀(k:Nat) (p:FlP) (a:Option Addr×Nat),fs[k]?=some p→As[k]?=some a→w.ownsRow base 3 1 (.slice a.1 p.wait.length a.2) p.wait.length (ins p.wait)∧∀g,blk a=some g→v.ownBlock≠some g)
  (h4:∀(k j:Nat) (a b:Option Addr×Nat),k<j→As[k]?=some a→As[j]?=some b→∀g,blk a=some g→blk b≠some g)
  (ho:w'.ownsRow base 46 3 v' (fs.length+1) (yb fs As++qG p B c))
  (hg:w.grownBy w' v.ownBlock) (hv:v'.ownBlock=v.ownBlock∨∃g,v'.ownBlock=some g∧w.heap.size≤g)
  (hB:w.ownsRow base 3 1 (.slice B p.wait.length c) p.wait.length (ins p.wait)) (hne:∀g,blk (B,c)=some g→v.ownBlock≠some g)
  (hfr:∀(k:Nat) (a:Option Addr×Nat),As[k]?=some a→∀g,blk a=some g→blk (B,c)≠some g):FlsO w' base v' (fs++ [p]):=by
 have keep:∀(a:Option Addr×Nat) (l:List Int),w.ownsRow base 3 1 (.slice a.1 l.length a.2) l.length (ins l)→(∀g,blk a=some g→v.ownBlock≠some g) →
   w'.ownsRow base 3 1 (.slice a.1 l.length a.2) l.length (ins l)∧∀g,blk a=some g→v'.ownBlock≠some g:=fun a l hr hn=>by
  refine⟨hr.kept hg ?_,fun g e=> ?_⟩
  ·rw [jv];cases hb:blk a with
   | none=>exact .inl rfl
   | some g=>exact .inr (fun h=>hn g hb h.symm)
  ·rcases hv with h | ⟨g',h,hge⟩
   ·rw [h];exact hn g e
   ·rw [h];have:=(hr.lt g (by rw [jv];exact e)).2;intro h';cases h';omega
 refine⟨As++ [(B,c)],by simp [h1],?_,fun k q a hq ha=> ?_,fun k j a b hkj ha hb g hag=> ?_⟩
 ·rw [kA fs As p (B,c) h1,List.length_append];exact ho
 ·by_cases hk:k<fs.length
  ·rw [List.getElem?_append_left hk]at hq;rw [List.getElem?_append_left (by omega)]at ha;obtain⟨i1,i2⟩:=h3 k q a hq ha;exact keep a q.wait i1 i2
  ·rw [List.getElem?_append_right (by omega)]at hq ha;have hk0:k - fs.length=0:=by
    have:=(List.getElem?_eq_some_iff.1 hq).1;simp at this;exact this
   rw [h1,hk0]at ha;rw [hk0]at hq;simp only [List.getElem?_cons_zero,Option.some.injEq]at hq ha;subst hq ha;exact keep (B,c) p.wait hB hne
 ·have hjl:=(List.getElem?_eq_some_iff.1 hb).1;rw [List.length_append]at hjl;simp only [List.length_cons,List.length_nil]at hjl;rw [List.getElem?_append_left (by omega)]at ha;by_cases hj:j<As.length
  ·rw [List.getElem?_append_left hj]at hb;exact h4 k j a b hkj ha hb g hag
  ·rw [List.getElem?_append_right (by omega)]at hb;have:j - As.length=0:=by omega
   rw [this]at hb;simp only [List.getElem?_cons_zero,Option.some.injEq]at hb;subst hb;exact hfr k a ha g hag
end Go.Proofs.YtdbbehfbkiiloaaGreatDoor
