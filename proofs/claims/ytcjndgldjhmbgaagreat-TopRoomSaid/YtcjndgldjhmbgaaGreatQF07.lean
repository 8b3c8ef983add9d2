/- Lemmas, as stated. -/
import Derived.Sort.KeysCollected
import Derived.Sort.OwnSorted
import Derived.Lib.SlicesCompact
import Derived.Lib.RowBridge
import Derived.Shelf.SlIter.Nil
import Derived.Shelf.SortM.Plain
import Derived.Shelf.SortM.SortNone
import Derived.Ground.GgzProg
import Derived.Ground.SlgmProg
import Derived.Test.YtcjndgldjhmbgaaGreatProg
import Derived.Maps.OwnSet
import Derived.Carry
import Derived.Test.YtcjndgldjhmbgaaGreatQF06
set_option linter.unusedVariables false
set_option linter.unusedSimpArgs false
set_option maxRecDepth 100000
set_option maxHeartbeats 8000000
open Go.Proofs.Tryz
open Go.Proofs.Tryz renaming prog->zZZ
open Go.Value renaming slice->aw,int->ax,string->az
open Option renaming some->aC,none->aB
open Go.IntKind renaming i64->ay
open Go.Obj renaming cells->aA
namespace Go.Proofs.YtcjndgldjhmbgaaGreat
open Go.RowKit
variable {p:List UInt8->Prop} {L:List ac} {a b:ac}
def strs (L:List ac):af:=L.map fun s=> az ⟨s.toArray⟩
theorem kG (L:List ac) (k:Nat) (h:k<L.length):(strs L)[k]?=some (az ⟨L[k].toArray⟩):=by
 rw [strs,List.getElem?_map,List.getElem?_eq_getElem h];rfl
structure StrL (L:List ac) (p:List UInt8->Prop):Prop where
 nd:L.Nodup
 le:L.Pairwise (fun x y=>leB x y=true)
 mem:∀x,x∈L↔p x
theorem StrL.uniq {L':List ac} (h:StrL L p) (h':StrL L' p):L=L':=by
 have hp:L.Perm L':=(List.perm_ext_iff_of_nodup h.nd h'.nd).2 fun x=>by rw [h.mem,h'.mem]
 refine List.Perm.eq_of_pairwise (le:=fun a b=>leB a b=true) (fun a b _ _ h1 h2=> ?_) h.le h'.le hp;simp only [leB,decide_eq_true_eq]at h1 h2;exact List.le_antisymm h1 h2
def nub:List ac->List ac
 | []=> []
 | x::l=>if x∈l then nub l else x::nub l
theorem xP (x:ac):∀l,x∈nub l↔x∈l
 | []=>Iff.rfl
 | y::l=>by
  rw [nub]
  split
  ·rename_i h
   rw [xP x l,List.mem_cons]
   exact⟨.inr,fun h2=>h2.elim (fun e=>e▸h) id⟩
  ·rw [List.mem_cons,xP x l,List.mem_cons]
theorem ZR:∀l,(nub l).Nodup
 | []=>List.nodup_nil
 | y::l=>by
  rw [nub]
  split
  ·exact ZR l
  ·rename_i h
   exact List.nodup_cons.2 ⟨fun h2=>h ((xP y l).1 h2),ZR l⟩
theorem JJ (x y:ac):leB x y= !Op.bytesLess y x:=by
 rw [Yb];show decide (x<=y)=_;by_cases h:y<x
 ·rw [decide_eq_true h,decide_eq_false (by rw [List.not_le];exact h)];rfl
 ·rw [decide_eq_false h,decide_eq_true (List.not_lt.1 h)];rfl
theorem YT (A:ae) (c:Nat) (L:List ac) (d:ac) (w:World) (hl:L.length<=1000000000) (hr:Rd w 1 A L.length (strs L)) :
  Calls zZZ 110 #[aw A L.length c,az ⟨d.toArray⟩] w fun e w'=>e= .returned (.bool (decide (d∈L)))/\w'=w:=by
 rcases Nat.eq_zero_or_pos L.length with h0 | h0
 ·obtain rfl:L= []:=List.eq_nil_of_length_eq_zero h0;exact(Tryz.slices_Contains_string_empty A c ⟨d.toArray⟩ w).mono fun e w' ⟨h1,h2⟩=>⟨by rw [h1];simp,h2⟩
 ·obtain⟨b,off,rfl,_,hc⟩:=hr.2 h0;have hz:(L.map fun s=>(⟨s.toArray⟩:ByteArray)).length=L.length:=List.length_map _;refine(Tryz.slices_Contains_string b off L.length c (L.map fun s=>⟨s.toArray⟩) ⟨d.toArray⟩ w (by rw [hz];exact Nat.le_refl _) wj (fun j hj=> ?_)).mono ?_
  ·have hj':j<L.length:=wj
   rw [hc j _ (kG L j hj')];simp [List.getD,List.getElem?_map,List.getElem?_eq_getElem hj']
  ·rintro e w' ⟨rfl,rfl⟩;refine⟨?_,rfl⟩
   congr 2
   rw [<-hz,List.take_length];by_cases hm:d∈L
   ·rw [decide_eq_true hm,Lib.containsS_iff];exact List.mem_map.2 ⟨d,hm,rfl⟩
   ·rw [decide_eq_false hm,<-Bool.not_eq_true,Lib.containsS_iff];intro h;obtain⟨x,hx,e⟩:=List.mem_map.1 h;exact hm (by rw [<-z1y.1 e];exact hx)
open Go.Sort
theorem j6:El zZZ 28 9 1 16:=El.mk' (z:= az ByteArray.empty) underlying28 wm rfl wj wj
theorem Z9 (L:List ac):∀u∈strs L,u.oneCell'=true:=by
 intro u hu;obtain⟨s,_,rfl⟩:=List.mem_map.1 hu;rfl
theorem vK (L M:List ac):strs (L++M)=strs L++strs M:=by simp [strs]
theorem V2 {c:ac} (h1:leB a b=true) (h2:leB b c=true):leB a c=true:=by simp only [leB,decide_eq_true_eq] at *;exact List.le_trans h1 h2
theorem UZ (h1:leB a b=true) (h2:leB b a=true):a=b:=by simp only [leB,decide_eq_true_eq] at *;exact List.le_antisymm h1 h2
theorem VC (L:List ac):(L.mergeSort leB).Pairwise (fun x y=>leB x y=true):=by
 have to:∀a b:ac,(leB a b||leB b a)=true:=fun a b=>by simp only [leB,Bool.or_eq_true,decide_eq_true_eq];exact List.le_total a b
 have tr:∀a b c:ac,leB a b=true->leB b c=true->leB a c=true:=fun a b c h1 h2=>V2 h1 h2;exact List.pairwise_mergeSort tr to L
theorem uZ (d:Array (ac)) (hp:∀i j,i<j->j<d.size->leB d[i]! d[j]! = true):∀m,m<=d.size ->
  (∀x,x∈Lib.compactUpTo d m↔∃j,j<m/\d[j]! = x)/\(Lib.compactUpTo d m).Pairwise (fun x y=>leB x y=true)/\(Lib.compactUpTo d m).Nodup
 | 0,_=>⟨fun x=>by simp [Lib.compactUpTo],by simp [Lib.compactUpTo],by simp [Lib.compactUpTo]⟩
 | m+1,hm=>by
  obtain⟨h1,h2,h3⟩:=uZ d hp m wj
  rw [Lib.compactUpTo_succ]
  cases hk:Lib.keeps d m with
  | false =>
   rw [if_neg ws,List.append_nil]
   refine⟨fun x=> ?_,h2,h3⟩
   rw [h1]
   constructor
   ·rintro⟨j,hj,e⟩;exact⟨j,wj,e⟩
   ·rintro⟨j,hj,e⟩
    by_cases hjm:j=m
    ·subst hjm
     have:¬(j=0\/d[j]! ≠ d[j - 1]!):=by simpa [Lib.keeps] using hk
     have h0:j≠0:=fun h=>this (.inl h)
     have he:d[j]! = d[j - 1]! := Classical.not_not.1 fun h=>this (.inr h)
     exact⟨j - 1,wj,by rw [<-he];exact e⟩
    ·exact⟨j,wj,e⟩
  | true =>
   rw [if_pos rfl]
   have hlt:∀x∈Lib.compactUpTo d m,leB x d[m]! = true/\x≠d[m]! := fun x hx=>by
    obtain⟨j,hj,rfl⟩:=(h1 x).1 hx
    refine⟨hp j m hj wj,fun e=> ?_⟩
    have hkk:m=0\/d[m]! ≠ d[m - 1]! := by simpa [Lib.keeps] using hk
    rcases hkk with h | h
    ·omega
    ·refine h (UZ ?_ (hp (m - 1) m wj wj))
     rw [<-e]
     rcases Nat.lt_or_ge j (m - 1) with hj2 | hj2
     ·exact hp j (m - 1) hj2 wj
     ·have:j=m - 1:=by omega
      rw [this];simp [leB]
   refine⟨fun x=> ?_,?_,?_⟩
   ·rw [List.mem_append,h1,List.mem_singleton]
    constructor
    ·rintro(⟨j,hj,e⟩ | rfl)
     ·exact⟨j,wj,e⟩
     ·exact⟨m,wj,rfl⟩
    ·rintro⟨j,hj,e⟩
     by_cases hjm:j=m
     ·subst hjm;exact .inr e.symm
     ·exact .inl ⟨j,wj,e⟩
   ·exact List.pairwise_append.2 ⟨h2,List.pairwise_singleton _ _,fun x hx y hy=>by rw [List.mem_singleton.1 hy];exact(hlt x hx).1⟩
   ·exact List.nodup_append.2 ⟨h3,ws,fun x hx y hy=>by rw [List.mem_singleton.1 hy];exact(hlt x hx).2⟩
theorem Zv (hp:L.Pairwise (fun x y=>leB x y=true)):StrL (Lib.compact L) (fun x=>x∈L):=by
 have hsz:L.toArray.size=L.length:=ws;obtain⟨h1,h2,h3⟩:=uZ L.toArray (fun i j hij hj=>by
  have hj':j<L.length:=by simpa using hj
  have:=List.pairwise_iff_getElem.1 hp i j wj hj' hij;simpa [getElem!_pos,hj',show i<L.length by omega] using this) L.length ws
 refine⟨h3,h2,fun x=> ?_⟩;show x∈Lib.compactUpTo L.toArray L.length↔_;rw [h1];constructor
 ·rintro⟨j,hj,rfl⟩;simp [getElem!_pos,hj]
 ·intro hx;obtain⟨j,hj,rfl⟩:=List.mem_iff_getElem.1 hx;exact⟨j,hj,by simp [getElem!_pos,hj]⟩
theorem StrL.len {N:List ac} (h:StrL L p) (hn:N.Nodup) (hm:∀x,x∈N↔p x):L.length=N.length :=
 ((List.perm_ext_iff_of_nodup h.nd hn).2 fun x=>by rw [h.mem,hm]).length_eq
theorem Uu (base:Nat) (v:Value) (L:List ac) (w:World) (hl:L.length<=1000000000) (h:w.ownsRow base 9 1 v L.length (strs L)) :
  Calls zZZ 148 #[v] w fun e w'=>e= .returned (.tuple #[])/\w'.ownsRow base 9 1 v L.length (strs (L.mergeSort leB))/\w.grownBy w' v.ownBlock:=by
 rcases h.2 with ⟨rfl,h0⟩ | ⟨g,cap,cur,rfl,hbase,hb,h1,h2,h3,h4⟩
 ·have hL:L= []:=List.eq_nil_of_length_eq_zero h0;subst hL;refine(Tryz.slices_Sort_string_none none 0 w).mono ?_;rintro e w' ⟨rfl,rfl⟩;exact⟨rfl,by rw [List.mergeSort_nil];exact World.ownsRow_nil _ _ _ _,World.grownBy.refl _ _⟩
 ·refine(Tryz.slices_Sort_string g 0 cap L w (holds_of_block hb (by rw [Nat.mul_one]at h4;exact h4)) (Array.getElem?_eq_some_iff.1 hb).1 wj).mono ?_;rintro e w' ⟨rfl,n,os,rfl⟩;exact⟨rfl,ownsRow_sorted ws hbase hb h1 h2 h3,grownBy_sorted _⟩
theorem Qb (base:Nat) (v:Value) (L:List ac) (w:World) (hl:L.length<=1000000000) (h:w.ownsRow base 9 1 v L.length (strs L)) :
  Calls zZZ 174 #[v] w fun e w'=>∃v',e= .returned v'/\w'.ownsRow base 9 1 v' (Lib.compact L).length (strs (Lib.compact L))/\w.grownBy w' v.ownBlock:=by
 rcases h.2 with ⟨rfl,h0⟩ | ⟨g,cap,cur,rfl,hbase,hb,h1,h2,h3,h4⟩
 ·have hL:L= []:=List.eq_nil_of_length_eq_zero h0;subst hL;refine(Tryz.slices_Compact_string_empty none 0 w).mono ?_;rintro e w' ⟨rfl,rfl⟩;exact⟨_,rfl,World.ownsRow_nil _ _ _ _,World.grownBy.refl _ _⟩
 ·refine(Tryz.slices_Compact_string g 0 cap L w (holds_of_block hb (by rw [Nat.mul_one]at h4;exact h4)) wj h1).mono ?_;rintro e w' ⟨rfl,q,rfl⟩;have hcl:=Lib.compact_length_le L;have hgr:∀W:World,Go.Sort.grow W #[]=W:=fun W=>by simp [Go.Sort.grow]
  have hlen:(Lib.compact L++List.replicate (L.length - (Lib.compact L).length) []).length=L.length:=by simp;omega
  have ho:=ownsRow_sorted (n:=q) (os:=#[]) hlen hbase hb h1 h2 h3;rw [hgr]at ho;have hc:=z1m ho hcl;refine⟨_,rfl,?_,?_⟩
  ·have e:((Lib.compact L++List.replicate (L.length - (Lib.compact L).length) []).map encStr).take ((Lib.compact L).length*1)=strs (Lib.compact L):=by
    rw [Nat.mul_one,List.map_append,List.take_append_of_le_length ws,List.take_of_length_le ws];rfl
   rw [e]at hc;exact hc
  ·have:=grownBy_sorted (w:=w) (g:=g) (n:=q) (os:=#[]) (Lib.compact L++List.replicate (L.length - (Lib.compact L).length) []).toArray;rw [hgr]at this;exact this
theorem kO (A:ae) (c:Nat) (L:List ac) (w:World) (hl:L.length<=1000000000) (hr:Rd w 1 A L.length (strs L)) :
  Calls zZZ 84 #[aw A L.length c] w fun e w'=>∃v,e= .returned v/\w'.ownsRow w.heap.size 9 1 v L.length (strs L)/\Below w.heap.size w w':=by
 rcases Nat.eq_zero_or_pos L.length with h0 | h0
 ·obtain rfl:L= []:=List.eq_nil_of_length_eq_zero h0;cases A with
  | none =>
   refine(Tryz.slices_Clone_string_nil 0 c w).mono ?_;rintro e w' ⟨rfl,rfl⟩;exact⟨_,rfl,World.ownsRow_nil _ _ _ _,Below.refl _ _⟩
  | some a =>
   refine(Tryz.slices_Clone_string_zero a c w).mono ?_;rintro e w' ⟨v,rfl,h1,_,h2⟩;exact⟨_,rfl,h1,h2⟩
 ·obtain⟨b,off,rfl,_,hc⟩:=hr.2 h0;have hz:(L.map fun s=>(⟨s.toArray⟩:ByteArray)).length=L.length:=List.length_map _;refine(Tryz.slices_Clone_string b off L.length c (L.map fun s=>⟨s.toArray⟩) w wj wj (fun j hj=> ?_)).mono ?_
  ·have hj':j<L.length:=wj
   rw [hc j _ (kG L j hj')];simp [List.getD,List.getElem?_map,List.getElem?_eq_getElem hj']
  ·rintro e w' ⟨v,rfl,h1,_,h2⟩;refine⟨v,rfl,?_,h2⟩;rw [List.take_of_length_le wj,List.map_map]at h1;exact h1
theorem Qi (n:Nat) (N:Int) (hN:N=n) (w:World) (hn:n<=8000000000) :
  Calls zZZ 139 #[aw none 0 0,ax .i64 N] w fun e w'=>∃v,e= .returned v/\w'.ownsRow w.heap.size 9 1 v 0 []/\Below w.heap.size w w':=by
 subst hN;by_cases h0:n=0
 ·subst h0;go_enter func139,ntmps139;go_wp2_with fail;go_ret;exact⟨_,rfl,World.ownsRow_nil _ _ _ _,Below.refl _ _⟩
 ·have hp:0<n:=wj
  go_enter func139,ntmps139
  refine wH ?_;intros;refine YD rfl (.tmp 20) (.tmp 21) rfl j6 underlying3 n hp wj wu wu ?_;intro A c w1 hown1 hc1 hb1;cases A with
  | none =>
   rcases hown1.2 with ⟨h1,_⟩ | ⟨g,_,_,h1,_⟩
   ·injection h1;omega
   ·cases h1
  | some ad =>
   go_wp2_with fail;go_ret;exact⟨_,rfl,hown1,hb1⟩
theorem uR (g:Nat) (A B:ae) (c d:Nat) (L M:List ac) (w:World) (hc:L.length<=c) (hd:M.length<=d) (hl:L.length<=1000000000) (hm:M.length<=1000000000)
  (h0:w.cell? ⟨g,0,none⟩=some (aw A L.length c)) (h1:w.cell? ⟨g,1,none⟩=some (aw B M.length d)) (hr:Rd w 1 A L.length (strs L)) (hr':Rd w 1 B M.length (strs M)) :
  Calls zZZ 89 #[aw (some ⟨g,0,none⟩) 2 2] w fun e w'=>∃v,e= .returned v/\w'.ownsRow w.heap.size 9 1 v (L++M).length (strs (L++M))/\Below w.heap.size w w':=by
 obtain⟨n,hn⟩:=wU L.length
 obtain⟨m,hm'⟩:=wU M.length
 rw [<-hn]at h0 hr hc hl;rw [<-hm']at h1 hr' hd hm;have HN:=sqH hn;have HM:=sqH hm';clear hn hm';go_enter func89,ntmps89;go_wp2_with fail;go_loop [3,11] (fun s i=>(i= ax .i64 0/\s= ax .i64 0)\/(i= ax .i64 1/\s= ax .i64 n)\/(i= ax .i64 2/\s= ax .i64 ((n:Int)+m))) (fun _ i=>2 - (intOf i).toNat)
 case atStart=>exact .inl ⟨rfl,rfl⟩
 case round =>
  rcases hrel with ⟨rfl,rfl⟩ | ⟨rfl,rfl⟩ | ⟨rfl,rfl⟩
  ·go_wp2_with fail;go_round
   case rel=>exact .inr (.inl ⟨rfl,rfl⟩)
   case measure=>simp [intOf]
  ·go_wp2_with fail;go_round
   case rel=>exact .inr (.inr ⟨rfl,by go_num⟩)
   case measure=>simp [intOf]
  ·go_wp2_with fail;refine(Qi (n+m) _ wj _ wj).mono ?_;rintro e_ w1 ⟨v1,rfl,hown1,hb1⟩;dsimp only;go_wp2_with fail;go_loopw [6,27] (fun v i wr=>((i= ax .i64 0/\wr.ownsRow w.heap.size 9 1 v 0 [])\/(i= ax .i64 1/\wr.ownsRow w.heap.size 9 1 v n (strs L))\/(i= ax .i64 2/\wr.ownsRow w.heap.size 9 1 v (n+m) (strs L++strs M)))/\Below w.heap.size w wr) (fun _ i _=>2 - (intOf i).toNat)
   case atStart=>exact⟨.inl ⟨rfl,hown1⟩,hb1⟩
   case round =>
    obtain⟨hcase,hbel⟩:=hrel;have b0:=World.block_lt_of_cell? w _ h0;have h0':=(hbel.cell (p:=⟨g,0,none⟩) b0).trans h0;have h1':=(hbel.cell (p:=⟨g,1,none⟩) b0).trans h1;have hs:=hbel.size;rcases hcase with ⟨rfl,hown⟩ | ⟨rfl,hown⟩ | ⟨rfl,hown⟩
    ·refine wH ?_;intros
     refine zK rfl (.tmp 31) (.tmp 32) rfl j6 wu hown wu (hr.below hbel) (Z9 _) wj hs ?_;intro v2 w2 hown2 hg2 _;have hb2:=zj hbel hown ab hg2;go_wp2_with fail;go_roundw
     case rel=>exact⟨.inr (.inl ⟨rfl,by simpa using hown2⟩),hb2⟩
     case measure=>simp [intOf]
    ·refine wH ?_;intros
     refine zK rfl (.tmp 31) (.tmp 32) rfl j6 wu hown wu (hr'.below hbel) (Z9 _) wj hs ?_;intro v2 w2 hown2 hg2 _;have hb2:=zj hbel hown ab hg2;go_wp2_with fail;go_roundw
     case rel=>exact⟨.inr (.inr ⟨rfl,hown2⟩),hb2⟩
     case measure=>simp [intOf]
    ·rw [<-vK]at hown;have hlen:(L++M).length=n+m:=by rw [List.length_append,HN.o,HM.o]
     refine wH ?_;intros;go_ret;exact⟨_,rfl,by rw [hlen];exact hown,hbel⟩
theorem Jw (A B:ae) (c d:Nat) (L M:List ac) (w:World) (hc:L.length<=c) (hd:M.length<=d) (hl:L.length<=100000000) (hm:M.length<=100000000) (hr:Rd w 1 A L.length (strs L)) (hr':Rd w 1 B M.length (strs M)) :
  Calls zZZ 150 #[aw A L.length c,aw B M.length d] w fun e w'=>∃v N,e= .returned v/\StrL N (fun x=>x∈L\/x∈M)/\N.length<=L.length+M.length/\w'.ownsRow w.heap.size 9 1 v N.length (strs N)/\Below w.heap.size w w':=by
 have hbox:Arr (w.alloc (.cells #[aw A L.length c,aw B M.length d] 28)) w.heap.size 28 [aw A L.length c,aw B M.length d]:=Arr.new w 28 _;have hb1:=wi w (.cells #[aw A L.length c,aw B M.length d] 28);have hr1:=hr.below hb1;have hr1':=hr'.below hb1;have HCC:=sqH (uR w.heap.size A B c d L M _ hc hd wj wj (hbox.c0) (hbox.c1) hr1 hr1');have hlm:(L++M).length<=200000000:=by rw [List.length_append];omega
 have HLM:=sqH (show(L++M).length=L.length+M.length from List.length_append);have HMM:=sqH (fun x=>show x∈L++M↔x∈L\/x∈M from List.mem_append);clear hr hr' hr1 hr1' hbox;go_enter func150,ntmps150;go_wp2_with fail;generalize (w.alloc (.cells #[aw A L.length c,aw B M.length d] 28))=w1 at *
 refine HCC.o.mono ?_;rintro e_ w2 ⟨v2,rfl,ho2,hb2⟩;dsimp only;have hb12:=wg hb1 hb2;have hs1:=hb1.size;generalize L++M=K at *
 clear HCC hb1 hb2;go_wp2_with fail;refine(Uu _ v2 K w2 wj ho2).mono ?_;rintro e_ w3 ⟨rfl,ho3,hg3⟩;dsimp only;have hb13:=zj hb12 ho2 hs1 hg3;have hp:=VC K;have hperm:=List.mergeSort_perm K leB;have hkl:(K.mergeSort leB).length=K.length:=List.length_mergeSort K;rw [<-hkl]at ho3;have HKP:=sqH (And.intro hp (And.intro hperm hkl));generalize K.mergeSort leB=Q at *
 clear ho2 hg3 hb12 hp hperm;go_wp2_with fail;refine(Qb _ v2 Q w3 wj ho3).mono ?_;rintro e_ w4 ⟨v4,rfl,ho4,hg4⟩;dsimp only;have hb14:=zj hb13 ho3 hs1 hg4;have HST:=sqH (Zv HKP.o.1);have hcl:=Lib.compact_length_le Q;obtain⟨A4,c4,rfl,_,hr4⟩:=Rd.of_own' ho4;generalize Lib.compact Q=N at *
 clear ho3 hg4 hb13 ho4;go_wp2_with fail;refine(kO A4 c4 N w4 wj hr4).mono ?_;rintro e_ w5 ⟨v5,rfl,ho5,hb5⟩;dsimp only;have hb15:=wg hb14 hb5;have hs4:=hb14.size;clear hb14 hb5 hr4;go_wp2_with fail;go_ret;refine⟨v5,N,rfl,⟨HST.o.nd,HST.o.le,fun x=> ?_⟩,by have:=HLM.o;omega,zb ho5 hs4,hb15⟩;rw [HST.o.mem,HKP.o.2.1.mem_iff,HMM.o]
end Go.Proofs.YtcjndgldjhmbgaaGreat
namespace Go.Proofs
open Go.Shelf
def Tryz.keys103_ren:Go.Shelf.Ren:=⟨fun | 7=>103 | 10=>149 | n=>n,fun | 23=>155 | 26=>9 | 3=>4 | 28=>158 | 0=>0 | 27=>157 | 33=>140 | 4=>4 | n=>n,fun | n=>n⟩
theorem Tryz.keys103:Go.Proofs.SlLaysZ.n7 Tryz.prog Tryz.keys103_ren:= {
 mixed:=by kernel_rfl
 f7:=⟨Tryz.f103.name,by decide,Tryz.func103.trans (congrArg aC (by kernel_rfl))⟩
 f10:=⟨Tryz.f149.name,by decide,Tryz.func149.trans (congrArg aC (by kernel_rfl))⟩
 t0:=Tryz.underlying0
 a0:=Tryz.isAgg0
 z0:=Tryz.sizeOf0
 v0:=Tryz.zeroValue0
 t4:=Tryz.underlying4
 a4:=Tryz.isAgg4
 z4:=Tryz.sizeOf4
 v4:=Tryz.zeroValue4
 t23:=Tryz.underlying155
 a23:=Tryz.isAgg155
 z23:=Tryz.sizeOf155
 v23:=Tryz.zeroValue155
 t26:=Tryz.underlying9
 a26:=Tryz.isAgg9
 z26:=Tryz.sizeOf9
 v26:=Tryz.zeroValue9
 t27:=Tryz.underlying157
 a27:=Tryz.isAgg157
 z27:=Tryz.sizeOf157
 v27:=Tryz.zeroValue157
 t28:=Tryz.underlying158
 a28:=Tryz.isAgg158
 z28:=Tryz.sizeOf158
 v28:=Tryz.zeroValue158
 t33:=Tryz.underlying140
 a33:=Tryz.isAgg140
 z33:=Tryz.sizeOf140
 v33:=Tryz.zeroValue140 }
def Tryz.sorted102_ren:Go.Shelf.Ren:=⟨fun | 6=>102 | 8=>147 | 9=>148 | 11=>171 | 13=>173 | 12=>172 | 23=>201 | 24=>202 | 14=>192 | 15=>193 | 16=>194 | 17=>195 | 18=>196 | 19=>197 | 20=>198 | 21=>199 | 22=>200 | 25=>214 | 26=>215 | 27=>216 | 28=>217 | 29=>218 | 30=>219 | 31=>228 | n=>n,fun | 26=>9 | 28=>158 | 24=>28 | 0=>0 | 3=>3 | 37=>208 | 48=>129 | 50=>128 | 4=>4 | 40=>263 | 39=>262 | 45=>268 | 5=>5 | 9=>9 | 51=>284 | 55=>288 | 57=>294 | 58=>295 | 33=>140 | n=>n,fun | n=>n⟩
theorem Tryz.sorted102:Go.Proofs.SlLaysZ.n6 Tryz.prog Tryz.sorted102_ren:= {
 mixed:=by kernel_rfl
 f6:=⟨Tryz.f102.name,by decide,Tryz.func102.trans (congrArg aC (by kernel_rfl))⟩
 f8:=⟨Tryz.f147.name,by decide,Tryz.func147.trans (congrArg aC (by kernel_rfl))⟩
 f11:=⟨Tryz.f171.name,by decide,Tryz.func171.trans (congrArg aC (by kernel_rfl))⟩
 t0:=Tryz.underlying0
 a0:=Tryz.isAgg0
 z0:=Tryz.sizeOf0
 v0:=Tryz.zeroValue0
 t24:=Tryz.underlying28
 a24:=Tryz.isAgg28
 z24:=Tryz.sizeOf28
 v24:=Tryz.zeroValue28
 t26:=Tryz.underlying9
 a26:=Tryz.isAgg9
 z26:=Tryz.sizeOf9
 v26:=Tryz.zeroValue9
 t28:=Tryz.underlying158
 a28:=Tryz.isAgg158
 z28:=Tryz.sizeOf158
 v28:=Tryz.zeroValue158
 i26:=by kernel_rfl }
def Tryz.sort148_ren:Go.Shelf.Ren:=⟨fun | 6=>148 | 8=>173 | 9=>172 | 19=>201 | 20=>202 | 21=>192 | 22=>193 | 23=>194 | 24=>195 | 25=>196 | 26=>197 | 27=>198 | 28=>199 | 29=>200 | 36=>214 | 31=>215 | 32=>216 | 37=>217 | 38=>218 | 39=>219 | 41=>228 | n=>n,fun | 27=>28 | 29=>9 | 3=>3 | 32=>208 | 26=>28 | 0=>0 | 44=>129 | 46=>128 | 4=>4 | 36=>263 | 35=>262 | 41=>268 | 5=>5 | 9=>9 | 53=>284 | 57=>288 | 63=>294 | 64=>295 | n=>n,fun | n=>n⟩
theorem Tryz.sort148:Go.Proofs.SlLaysM.n6 Tryz.prog Tryz.sort148_ren:= {
 mixed:=by kernel_rfl
 f6:=⟨Tryz.f148.name,by decide,Tryz.func148.trans (congrArg aC (by kernel_rfl))⟩
 f8:=Tryz.func173.trans (congrArg aC (by kernel_rfl))
 f9:=⟨Tryz.f172.name,by decide,Tryz.func172.trans (congrArg aC (by kernel_rfl))⟩
 f19:=Tryz.func201.trans (congrArg aC (by kernel_rfl))
 f20:=Tryz.func202.trans (congrArg aC (by kernel_rfl))
 f21:=⟨Tryz.f192.name,by decide,Tryz.func192.trans (congrArg aC (by kernel_rfl))⟩
 f22:=⟨Tryz.f193.name,by decide,Tryz.func193.trans (congrArg aC (by kernel_rfl))⟩
 f23:=⟨Tryz.f194.name,by decide,Tryz.func194.trans (congrArg aC (by kernel_rfl))⟩
 f24:=⟨Tryz.f195.name,by decide,Tryz.func195.trans (congrArg aC (by kernel_rfl))⟩
 f25:=⟨Tryz.f196.name,by decide,Tryz.func196.trans (congrArg aC (by kernel_rfl))⟩
 f26:=⟨Tryz.f197.name,by decide,Tryz.func197.trans (congrArg aC (by kernel_rfl))⟩
 f27:=⟨Tryz.f198.name,by decide,Tryz.func198.trans (congrArg aC (by kernel_rfl))⟩
 f28:=⟨Tryz.f199.name,by decide,Tryz.func199.trans (congrArg aC (by kernel_rfl))⟩
 f29:=⟨Tryz.f200.name,by decide,Tryz.func200.trans (congrArg aC (by kernel_rfl))⟩
 f31:=Tryz.func215.trans (congrArg aC (by kernel_rfl))
 f32:=Tryz.func216.trans (congrArg aC (by kernel_rfl))
 f36:=⟨Tryz.f214.name,by decide,Tryz.func214.trans (congrArg aC (by kernel_rfl))⟩
 f37:=⟨Tryz.f217.name,by decide,Tryz.func217.trans (congrArg aC (by kernel_rfl))⟩
 f38:=⟨Tryz.f218.name,by decide,Tryz.func218.trans (congrArg aC (by kernel_rfl))⟩
 f39:=⟨Tryz.f219.name,by decide,Tryz.func219.trans (congrArg aC (by kernel_rfl))⟩
 f41:=⟨Tryz.f228.name,by decide,Tryz.func228.trans (congrArg aC (by kernel_rfl))⟩
 t0:=Tryz.underlying0
 a0:=Tryz.isAgg0
 z0:=Tryz.sizeOf0
 v0:=Tryz.zeroValue0
 t3:=Tryz.underlying3
 a3:=Tryz.isAgg3
 z3:=Tryz.sizeOf3
 v3:=Tryz.zeroValue3
 t4:=Tryz.underlying4
 a4:=Tryz.isAgg4
 z4:=Tryz.sizeOf4
 v4:=Tryz.zeroValue4
 t5:=Tryz.underlying5
 a5:=Tryz.isAgg5
 z5:=Tryz.sizeOf5
 v5:=Tryz.zeroValue5
 t9:=Tryz.underlying9
 a9:=Tryz.isAgg9
 z9:=Tryz.sizeOf9
 v9:=Tryz.zeroValue9
 t26:=Tryz.underlying28
 a26:=Tryz.isAgg28
 z26:=Tryz.sizeOf28
 v26:=Tryz.zeroValue28
 t27:=Tryz.underlying28
 a27:=Tryz.isAgg28
 z27:=Tryz.sizeOf28
 v27:=Tryz.zeroValue28
 t29:=Tryz.underlying9
 a29:=Tryz.isAgg9
 z29:=Tryz.sizeOf9
 v29:=Tryz.zeroValue9
 t32:=Tryz.underlying208
 a32:=Tryz.isAgg208
 z32:=Tryz.sizeOf208
 v32:=Tryz.zeroValue208
 t35:=Tryz.underlying262
 a35:=Tryz.isAgg262
 z35:=Tryz.sizeOf262
 v35:=Tryz.zeroValue262
 t36:=Tryz.underlying263
 a36:=Tryz.isAgg263
 z36:=Tryz.sizeOf263
 v36:=Tryz.zeroValue263
 t41:=Tryz.underlying268
 a41:=Tryz.isAgg268
 z41:=Tryz.sizeOf268
 v41:=Tryz.zeroValue268
 t44:=Tryz.underlying129
 a44:=Tryz.isAgg129
 z44:=Tryz.sizeOf129
 v44:=Tryz.zeroValue129
 t46:=Tryz.underlying128
 a46:=Tryz.isAgg128
 z46:=Tryz.sizeOf128
 v46:=Tryz.zeroValue128
 t53:=Tryz.underlying284
 a53:=Tryz.isAgg284
 z53:=Tryz.sizeOf284
 v53:=Tryz.zeroValue284
 t57:=Tryz.underlying288
 a57:=Tryz.isAgg288
 z57:=Tryz.sizeOf288
 v57:=Tryz.zeroValue288
 t63:=Tryz.underlying294
 a63:=Tryz.isAgg294
 z63:=Tryz.sizeOf294
 v63:=Tryz.zeroValue294
 t64:=Tryz.underlying295
 a64:=Tryz.isAgg295
 z64:=Tryz.sizeOf295
 v64:=Tryz.zeroValue295 }
end Go.Proofs
namespace Go.Proofs.YtcjndgldjhmbgaaGreat
open Go.RowKit
variable {α:Type} {bl l m:List BlobP} {L M M' ds:List ac} {b base i k more n:Nat} {g:Option Nat} {s t:StoP} {v v1 v2:Value} {V W w w':World} {d:ac} {zs:af} {N:ai}
def kids (bl:List BlobP) (x:ac):List ac :=
 match bl.findIdx? (fun b=>b.dig==x) with
 | some i=>match bl[i]? with
  | some b=>(kw b.data).1.map (·.dig)
  | none=> []
 | none=> []
def InB (bl:List BlobP) (x:ac):Prop:=∃b∈bl,b.dig=x
theorem jW {x:ac}:InB bl x↔(bl.findIdx? (fun b=>b.dig==x)).isSome=true:=by
 rw [List.findIdx?_isSome,List.any_eq_true];constructor
 ·rintro⟨b,hb,rfl⟩;exact⟨b,hb,ws⟩
 ·rintro⟨b,hb,h⟩;exact⟨b,hb,by simpa using h⟩
inductive Rch (bl:List BlobP) (ds:List ac):List UInt8->Prop where
 | root {x}:x∈ds->InB bl x->Rch bl ds x
 | step {x y}:Rch bl ds x->y∈kids bl x->InB bl y->Rch bl ds y
theorem Rch.inB {x:ac} (h:Rch bl ds x):InB bl x:=by
 cases h<;>assumption
theorem Rch.mono {es:List ac} {x:ac} (h:Rch bl ds x) (hd:∀y∈ds,InB bl y->Rch bl es y):Rch bl es x:=by
 induction h with
 | root h1 h2=>exact hd _ h1 h2
 | step _ h2 h3 ih=>exact .step ih h2 h3
def unmet (bl:List BlobP) (M:List ac):Nat:=(bl.filter fun b=> !M.contains b.dig).length
theorem uj {α:Type} {p q:α->Bool}:∀(l:List α),(∀x∈l,p x=true->q x=true)->(l.filter p).length<=(l.filter q).length
 | [],_=>Nat.le_refl _
 | x::l,h=>by
  have ih:=uj l (fun y hy=>h y (by simp [hy]))
  by_cases hp:p x=true
  ·rw [List.filter_cons_of_pos hp,List.filter_cons_of_pos (h x ws hp)];simpa using ih
  ·rw [List.filter_cons_of_neg hp]
   by_cases hq:q x=true
   ·rw [List.filter_cons_of_pos hq];simp only [List.length_cons];omega
   ·rw [List.filter_cons_of_neg hq];exact ih
theorem ul {α:Type} {p q:α->Bool}:∀(l:List α),(∀x∈l,p x=true->q x=true)->(∃x∈l,p x=false/\q x=true)->(l.filter p).length<(l.filter q).length
 | [],_,h=>by obtain⟨x,hx,_⟩:=h;cases hx
 | x::l,h,h2=>by
  have hl:=fun y hy=>h y (List.mem_cons_of_mem x hy)
  by_cases hp:p x=true
  ·rw [List.filter_cons_of_pos hp,List.filter_cons_of_pos (h x ws hp)]
   obtain⟨y,hy,h3,h4⟩:=h2
   rcases List.mem_cons.1 hy with rfl | hy
   ·rw [hp]at h3;cases h3
   ·have:=ul l hl ⟨y,hy,h3,h4⟩;simpa using this
  ·rw [List.filter_cons_of_neg hp]
   by_cases hq:q x=true
   ·rw [List.filter_cons_of_pos hq];have:=uj l hl;simp only [List.length_cons];omega
   ·rw [List.filter_cons_of_neg hq]
    obtain⟨y,hy,h3,h4⟩:=h2
    rcases List.mem_cons.1 hy with rfl | hy
    ·exact absurd h4 hq
    ·exact ul l hl ⟨y,hy,h3,h4⟩
theorem jv (h:∀x∈M,x∈M'):unmet bl M'<=unmet bl M:=by
 refine uj _ fun b _ hb=> ?_;simp only [Bool.not_eq_true',List.contains_eq_mem,decide_eq_false_iff_not]at hb ⊢
 exact fun h2=>hb (h _ h2)
theorem KE (hi:InB bl d) (hd:d∉M):unmet bl (M++ [d])<unmet bl M:=by
 obtain⟨b,hb,rfl⟩:=hi;refine ul _ (fun x _ hx=> ?_) ⟨b,hb,ws,by simp [hd]⟩;simp only [Bool.not_eq_true',List.contains_eq_mem,decide_eq_false_iff_not,List.mem_append,not_or]at hx ⊢
 exact hx.1
theorem VO (bl:List BlobP):unmet bl []<=bl.length:=List.length_filter_le _ _
structure SeekR (bl:List BlobP) (M ds M':List ac):Prop where
 sub:∀x∈M,x∈M'
 hit:∀d∈ds,InB bl d->d∈M'
 come:∀x∈M',x∈M\/Rch bl ds x
 clo:∀x∈M',x∉M->∀y∈kids bl x,InB bl y->y∈M'
 len:M'.length+unmet bl M'<=M.length+unmet bl M
theorem SeekR.nil (bl:List BlobP) (M:List ac):SeekR bl M [] M:=⟨fun _ h=>h,fun _ h=>absurd h ws,fun _ h=> .inl h,fun _ h h2=>absurd h h2,Nat.le_refl _⟩
theorem SeekR.none_ (h:¬InB bl d):SeekR bl M [d] M :=
 ⟨fun _ h=>h,fun x h1 h2=>absurd h2 (by rw [List.mem_singleton.1 h1];exact h),fun _ h=> .inl h,fun _ h h2=>absurd h h2,Nat.le_refl _⟩
theorem SeekR.met (h:d∈M):SeekR bl M [d] M :=
 ⟨fun _ h=>h,fun x h1 _=>by rw [List.mem_singleton.1 h1];exact h,fun _ h=> .inl h,fun _ h h2=>absurd h h2,Nat.le_refl _⟩
theorem SeekR.snoc {M1 M2:List ac} (h1:SeekR bl M ds M1) (h2:SeekR bl M1 [d] M2):SeekR bl M (ds++ [d]) M2:=by
 refine⟨fun x h=>h2.sub x (h1.sub x h),fun x h hi=> ?_,fun x h=> ?_,fun x h hn y hy hi=> ?_,Nat.le_trans h2.len h1.len⟩
 ·rcases List.mem_append.1 h with h | h
  ·exact h2.sub x (h1.hit x h hi)
  ·exact h2.hit x h hi
 ·rcases h2.come x h with h3 | h3
  ·rcases h1.come x h3 with h4 | h4
   ·exact .inl h4
   ·exact .inr (h4.mono fun y hy hi=> .root (by simp [hy]) hi)
  ·exact .inr (h3.mono fun y hy hi=> .root (by simp [List.mem_singleton.1 hy]) hi)
 ·by_cases h3:x∈M1
  ·exact h2.sub y (h1.clo x h3 hn y hy hi)
  ·exact h2.clo x h h3 y hy hi
theorem SeekR.into (hi:InB bl d) (hd:d∉M) (h:SeekR bl (M++ [d]) (kids bl d) M'):SeekR bl M [d] M':=by
 have hroot:Rch bl [d] d:= .root ws hi;have hdm:d∈M':=h.sub d ws;have hl:=KE hi hd;refine⟨fun x hx=>h.sub x (by simp [hx]),fun x hx _=>by rw [List.mem_singleton.1 hx];exact hdm,fun x hx=> ?_,fun x hx hn y hy hiy=> ?_,by have:=h.len;rw [List.length_append]at this;simp only [List.length_cons,List.length_nil]at this;omega⟩
 ·rcases h.come x hx with h1 | h1
  ·rcases List.mem_append.1 h1 with h1 | h1
   ·exact .inl h1
   ·exact .inr (by rw [List.mem_singleton.1 h1];exact hroot)
  ·exact .inr (h1.mono fun y hy hiy=> .step hroot hy hiy)
 ·by_cases hxd:x=d
  ·subst hxd;exact h.hit y hy hiy
  ·exact h.clo x hx (by simp [hn,hxd]) y hy hiy
theorem SeekR.all (h:SeekR bl [] ds M') (x:ac):x∈M'↔Rch bl ds x:=by
 constructor
 ·intro hx;rcases h.come x hx with h1 | h1
  ·cases h1
  ·exact h1
 ·intro hx
  induction hx with
  | root h1 h2=>exact h.hit _ h1 h2
  | step h1 h2 h3 ih=>exact h.clo _ ih ws _ h2 h3
open Go.Maps
def tt:DataW Unit:= .lit (.bool true)
def yx (w:World) (b:Nat) (M:List ac):Prop:=w.ownsMap zZZ 9 (plainElem zZZ 4) b M.length (setOf tt (M.map Lit.string))
theorem z58:Keyed zZZ 9:=string_keyed underlying9
theorem XZ (d:ac) (hd:d.length<=maxLen):keyOf zZZ 9 (.string ⟨d.toArray⟩)=aC (.string d):=by
 simp [keyOf,underlying9,mapKey,ByteArray.size,hd]
theorem vF (M:List ac):∀x∈M.map Lit.string,WideAt.IsKeyLit x:=by
 intro x hx;obtain⟨s,_,rfl⟩:=List.mem_map.1 hx;trivial
theorem KA (a b:ac):(Lit.string a).sameKey (.string b)=decide (a=b):=by
 by_cases h:a=b
 ·subst h;simp [Lit.sameKey]
 ·simp [Lit.sameKey,h]
theorem z1e (M:List ac) (d:ac):has (setOf tt (M.map Lit.string)) (.string d)=decide (d∈M):=by
 rw [has_setOf _ _ _ (vF M),List.any_map];by_cases h:d∈M
 ·rw [decide_eq_true h,List.any_eq_true];exact⟨d,h,by simp [KA]⟩
 ·rw [decide_eq_false h,List.any_eq_false];intro x hx;simp only [Function.comp_def,KA,decide_eq_true_eq];rintro rfl;exact h hx
theorem Zr (d:ac) (z:DataW Unit):∀(n:Nat) (M:List ac),M.length=n->(setOf tt (M.map Lit.string)).atKey (.string d) z=if d∈M then tt else z
 | 0,M,h=>by
  obtain rfl:=List.eq_nil_of_length_eq_zero h
  rfl
 | n+1,M,h=>by
  obtain⟨M0,x,rfl⟩:∃M0 x,M=M0++ [x]:=⟨M.dropLast,M.getLast (by intro e;simp [e]at h),(List.dropLast_concat_getLast _).symm⟩
  have h0:M0.length=n:=by simpa using h
  rw [List.map_append,List.map_cons,List.map_nil,setOf_snoc]
  by_cases hx:d=x
  ·subst hx
   rw [atKey_put_same (tidy_setOf _ _ (vF M0)).isMap (show WideAt.IsKeyLit (.string d) from trivial),if_pos ws]
  ·rw [atKey_put_other (by intro e;injection e with e;exact hx e),Zr d z n M0 h0]
   by_cases hm:d∈M0
   ·rw [if_pos hm,if_pos (by simp [hm])]
   ·rw [if_neg hm,if_neg (by simp [hm,hx])]
theorem JL (x:Bool):plainElem (H:=Unit) zZZ 4 (.bool x)=aC (.lit (.bool x), []):=plainElem_bool underlying4 x
theorem jb {y:Bool} {ps:List MemPlace} (h:plainElem (H:=Unit) zZZ 4 v=aC (.lit (.bool y),ps)):v= .bool y:=by
 unfold plainElem at h;cases v<;>simp [underlying4]at h
 all_goals first | (obtain⟨rfl,_⟩:=h;rfl) | simp_all
theorem yx.look (h:yx w b M) (d:ac) (hd:d.length<=maxLen) :
  (Instr.lookup 155 (.map (aC b)) (.string ⟨d.toArray⟩) false).run zZZ w= .ok (.bool (decide (d∈M))) w:=by
 obtain⟨v,ps,hrun,hv⟩:=World.ownsMap.lookup h z58 underlying155 (z:= .bool false) wu (JL false) (XZ d hd);rw [Zr d _ _ M rfl]at hv;rw [hrun];by_cases hm:d∈M
 ·rw [if_pos hm]at hv;rw [decide_eq_true hm,jb hv]
 ·rw [if_neg hm]at hv;rw [decide_eq_false hm,jb hv]
theorem yx.put (h:yx w b M) (d:ac) (hd:d.length<=maxLen) (hn:M.length<maxLen) :
  ∃w',(Instr.mapUpdate 155 (.map (aC b)) (.string ⟨d.toArray⟩) (.bool true)).run zZZ w= .ok () w'/\yx w' b (M++ [d])/\w.grownBy w' (aC b):=by
 obtain⟨w',hrun,h1,h2⟩:=World.ownsMap.update h z58 underlying155 hn (XZ d hd) (JL true);refine⟨w',hrun,?_,h2⟩;unfold yx;rw [List.map_append,List.map_cons,List.map_nil,setOf_snoc,List.length_append];exact h1
theorem yx.made (w:World):yx (w.alloc (.map #[] 0)) w.heap.size []:=World.ownsMap_made w _ _ _
theorem yx.lt (h:yx w b M):b<w.heap.size:=World.ownsMap.lt h
theorem yx.kept {row:Option Nat} (h:yx w b M) (hg:w.grownBy w' row) (hne:aC b≠row):yx w' b M:=World.ownsMap.kept h hg hne
theorem yx.below (h:yx w b M) (hb:Below w.heap.size w w'):yx w' b M:=h.kept ⟨hb.os,hb.tape,hb.output,hb.size,fun k hk _=>hb.block k hk⟩ (row:=none) ws
theorem V0 {ss:List ac} (hs:yx w b M) (h:ss.Perm (strKeys (setOf tt (M.map Lit.string)))):StrL (ss.mergeSort leB) (fun x=>x∈M):=by
 obtain⟨es,he,hp⟩:=tidy_setOf tt (M.map Lit.string) (vF M);obtain⟨es',he',hk'⟩:=World.ownsMap.keysOf hs;have e1:es=es':=by rw [he]at he';injection he'
 subst e1;have hk:∀p∈es,∃x,p.1= .string x:=fun p hp'=>by
  obtain⟨v,hv⟩:=hk' p hp';obtain⟨x,_,e,_⟩:=Maps.keyOf_str underlying9 hv;exact⟨x,e⟩
 have h1:=perm_strKeys hp hk (ZR M) (fun x=>by rw [xP,<-he,z1e];simp);rw [he]at h;have h2:=h.trans h1.symm;have h3:=(List.mergeSort_perm ss leB).trans h2;have tr:∀a b c:ac,leB a b=true->leB b c=true->leB a c=true:=fun a b c h1 h2=>by simp only [leB,decide_eq_true_eq] at *;exact List.le_trans h1 h2
 have to:∀a b:ac,(leB a b||leB b a)=true:=fun a b=>by simp only [leB,Bool.or_eq_true,decide_eq_true_eq];exact List.le_total a b
 exact⟨h3.nodup_iff.2 (ZR M),List.pairwise_mergeSort tr to ss,fun x=>by rw [h3.mem_iff,xP]⟩
open Go.Sort Go.Shelf
theorem z1w (m:Nat):AnyZ.SortsIn zZZ Tryz.sorted102_ren Fence.wide m :=
 ⟨fun blk off cap ss W hH hblk hsz=>callsIn_wide.2 (AnyM.slices_Sort_string Tryz.sort148 blk off cap ss W hH hblk hsz),
  fun p cap W=>callsIn_wide.2 (AnyM.slices_Sort_string_none Tryz.sort148 p cap W)⟩
theorem X0 (b:Nat) (W:World):Calls zZZ 103 #[.map (aC b)] W fun e w'=>e= .returned (.func (.func 149) #[] #[.pointer (aC ⟨W.heap.size,0,none⟩)])/\w'=W.alloc (aA #[.map (aC b)] 155) :=
 callsIn_wide.1 (AnyZ.keys_in Tryz.keys103 Fence.wide 5 trivial rfl (aC b) W)
theorem Zn (b:Nat) (M:List ac) (w:World) (hs:yx w b M) (hmax:M.length<=1000000) :
  Calls zZZ 102 #[.func (.func 149) #[] #[.pointer (aC ⟨w.heap.size,0,none⟩)]] (w.alloc (aA #[.map (aC b)] 155)) fun e w'=>∃v L,e= .returned v/\StrL L (fun x=>x∈M)/\L.length<=M.length /\
   w'.ownsRow (w.alloc (aA #[.map (aC b)] 155)).heap.size 9 1 v L.length (strs L)/\Below (w.alloc (aA #[.map (aC b)] 155)).heap.size (w.alloc (aA #[.map (aC b)] 155)) w':=by
 have hown:=hs;unfold yx at hown;have hbl:=World.ownsMap.lt hown;have hsz:=World.ownsMap.size_le hown;have hseq:SeqGives Fence.wide 2 zZZ 149 #[.pointer (aC ⟨w.heap.size,0,none⟩)] encStr (fun ss=>ss.Perm (strKeys (setOf tt (M.map Lit.string)))) (Maps.size (setOf tt (M.map Lit.string))) (w.alloc (aA #[.map (aC b)] 155)) :=
  AnyZ.keys_gives (ρ:=Tryz.keys103_ren) { Tryz.keys103 with } Fence.wide _ trivial rfl wj w.heap.size b M.length _ _ ws ws (by
   obtain⟨es,aG,hb,Ft,hs,hD⟩:=hown;exact⟨es,aG,(Below.heap_alloc _ _ b hbl).trans hb,Ft,hs,hD⟩)
 have h:=AnyZ.sorted_in Tryz.sorted102 Fence.wide 5 trivial trivial trivial trivial rfl wj (z1w _) (enters_of func148 wm rfl) 149 #[.pointer (aC ⟨w.heap.size,0,none⟩)] trivial (enters_of func149 wm rfl) _ _ (by unfold maxLen;omega) wj _ hseq;refine(callsIn_wide.1 h).mono ?_;rintro e w' ⟨v,ss,rfl,hp,hrow,_,hb⟩;have hL:=V0 hs hp;have hlen:(ss.mergeSort leB).length=ss.length:=List.length_mergeSort ss;refine⟨v,ss.mergeSort leB,rfl,hL,?_,?_,hb⟩
 ·rw [hlen,hp.length_eq];obtain⟨es,he,_⟩:=tidy_setOf tt (M.map Lit.string) (vF M);rw [he]at hsz ⊢
  show(es.map _).length<=_;rw [List.length_map];exact hsz
 ·rw [hlen];exact hrow
theorem V1 (h:bl.findIdx? (fun b=>b.dig==d)=aC i) (hi:i<bl.length):kids bl d=(kw bl[i].data).1.map (·.dig):=by
 unfold kids;rw [h];dsimp only;rw [List.getElem?_eq_getElem hi]
theorem vC (x:List PartP):dcs x=strs (x.map (·.dig)):=by simp [dcs,strs]
theorem z0n (gs b c:Nat) (A:ae) (bl:List BlobP) (w0:World) (hg:w0.heap.size<=gs) (hbs:w0.heap.size<=b) (hne:gs≠b) (hl:bl.length<=1000) (hcap:bl.length<=c) (hcm:c<=maxLen) (hdig:∀x∈bl,x.dig.length<=1000) (hrd:Rw BlobS w0 A bl) :
  ∀(m:Nat) (M:List ac) (d:ac) (w:World),unmet bl M<m->M.length+unmet bl M<=bl.length->Below w0.heap.size w0 w->Arr w gs 166 [aw A bl.length c,.map (aC b)]->yx w b M ->
   Calls zZZ 107 #[.pointer (aC ⟨gs,0,none⟩),.string ⟨d.toArray⟩] w fun e w'=>e= .returned (.tuple #[])/\∃M',SeekR bl M [d] M'/\yx w' b M'/\w.grownBy w' (aC b):=by
 intro m
 induction m with
 | zero=>intro M d w h;exact absurd h wj
 | succ m ih =>
  intro M d w hun hlen hb0 hbox hset;have HF:=ku A c bl d w wj (hrd.below hb0);have a0:=hbox.c0;have HB0:=sqH hb0;have hs0:=hb0.size;cases hf:bl.findIdx? (fun x=>x.dig==d) with
  | none =>
   rw [hf]at HF;obtain⟨HFF,HR,HST,HIH⟩:=sqJ4 HF (SeekR.none_ (bl:=bl) (M:=M) (d:=d) (by rw [jW,hf];simp)) hset ih;clear HF hf hset ih;go_enter func107,ntmps107;go_wp2_with fail;refine wV HFF.o fun w2 hb2=>?_;dsimp only;unfold xn;dsimp only;go_wp2_with fail
   ((try simp only [Exit.inBlock,Exit.then]);first | (refine bodyPost_ret (results_none rfl _ _ _) rfl ?_) | (refine bodyPost_end (results_none rfl _ _ _) rfl ?_))
   exact⟨rfl,M,HR.o,HST.o.below hb2,q6 hb2 _⟩
  | some i =>
   rw [hf]at HF;have HFF:=sqH HF;have hi:i<bl.length:=(List.findIdx?_eq_some_iff_getElem.1 hf).1;have hdi:bl[i].dig=d:=by simpa using (List.findIdx?_eq_some_iff_getElem.1 hf).2.1
   have hin:InB bl d:=⟨bl[i],List.getElem_mem hi,hdi⟩
   have hdl:d.length<=maxLen:=by have:=hdig _ (List.getElem_mem hi);rw [hdi]at this;unfold maxLen;omega
   obtain⟨HKD,HDL,HIN⟩:=sqJ3 (V1 hf hi) hdl hin;have hi0:=wX i
   have hi1:(i:Int)<(bl.length:Int):=wj;have HIH:=sqH ih;have HI:=sqH hi;clear HF hf hdi hin hdl ih;by_cases hm:d∈M
   ·have HR:=sqH (SeekR.met (bl:=bl) hm);have hlk:=fun (w2:World) (h:yx w2 b M)=>h.look d HDL.o;rw [decide_eq_true hm]at hlk;have HLK:=sqH hlk;have HST:=sqH hset;clear hm hlk hset;go_enter func107,ntmps107;go_wp2_with fail;refine wV HFF.o fun w2 hb2=>?_;dsimp only;unfold xn;dsimp only;have hset2:=HST.o.below hb2;have hrun:=HLK.o w2 hset2;have a1:=(hbox.below hb2).c1;go_wp2_with fail
    ((try simp only [Exit.inBlock,Exit.then]);first | (refine bodyPost_ret (results_none rfl _ _ _) rfl ?_) | (refine bodyPost_end (results_none rfl _ _ _) rfl ?_))
    exact⟨rfl,M,HR.o,hset2,q6 hb2 _⟩
   ·have HMU:=sqH (KE HIN.o hm);have hlk:=fun (w2:World) (h:yx w2 b M)=>h.look d HDL.o;rw [decide_eq_false hm]at hlk;obtain⟨HLK,HST,HNM⟩:=sqJ3 hlk hset hm;have hMn:M.length<maxLen:=by unfold maxLen;omega
    clear hm hlk hset;go_enter func107,ntmps107;go_wp2_with fail;refine wV HFF.o fun w2 hb2=>?_;dsimp only;unfold xn;dsimp only;have hset2:=HST.o.below hb2;have hrun:=HLK.o w2 hset2;have hbox2:=hbox.below hb2;have a1:=hbox2.c1;obtain⟨w3,hput,hset3,hg3⟩:=hset2.put d HDL.o hMn;have hbox3:=hbox2.grown hg3 (fun e=>hne (by injection e with e;exact e.symm));have a2:=hbox3.c0;have hb03:=(hb0.trans (hb2.mono hs0)).grown hg3 (by have:=hb2.size;omega) (fun k hk=>by cases hk;exact hbs);obtain⟨bq,oq,B,cq,hA,hbq,d0,d1,d2,d3,hs⟩:=(hrd.below hb03).blob_at i hi;have HPT:=sqH (vR ⟨bl[i].dig.toArray⟩ B bl[i].data.length cq bl[i].data (bl[i].aM:Int) bl[i].mark w3 rfl hs.cap hs.max hs.rd);have hx8:=yJ bl[i].data;have hG03:=(q6 hb2 (row:=aC b)).trans hg3;subst hA;have HHS:=sqH hrd;clear hs hset2 hg3 hbox hbox2 a0 hrd;obtain⟨ks,hks⟩:∃ks,kids bl d=ks:=⟨_,rfl⟩
    obtain⟨xs,hxs⟩:∃xs,(kw bl[i].data).1=xs:=⟨_,rfl⟩
    have hkx:xs.map (·.dig)=ks:=by rw [<-hks,<-hxs];exact HKD.o.symm
    have hkl:xs.length=ks.length:=by rw [<-hkx,List.length_map]
    rw [hxs,vC,hkx,hkl]at HPT;rw [hxs,hkl]at hx8;have HKS:=sqH hks;clear hks hkx hkl hxs HKD;go_wp2_with fail;refine HPT.o.mono ?_;rintro e_ w4 ⟨v4,rfl,ho4,hb4⟩;dsimp only;have hset4:=hset3.below hb4;have hbox4:=hbox3.below hb4;have hb04:=wg hb03 hb4;have hG04:=hG03.trans (q6 hb4 (row:=aC b));obtain⟨A4,c4,rfl,hc4,hr4⟩:=Rd.of_own' ho4;have hA4:∀bb off,A4=aC ⟨bb,off,none⟩->0<ks.length->bb≠b:=fun bb off e h0=>by
     have h5:=(ho4.lt bb (by rw [e];rfl)).1;have:=hset3.lt;omega
    have hks8:(ks.length:Int)<=9223372036854775807:=wj;clear ho4 hset3 hbox3 hb03 hb4 hG03 d0 d1 d2 d3 a1 a2 hrun hput;go_wp2_with fail;go_loopg [41] ks.length (fun gn i wr=>∃(j:Nat) (M':List ac),gn=ks.length - j/\i= ax ay j/\j<=ks.length/\SeekR bl (M++ [d]) (ks.take j) M'/\yx wr b M'/\w4.grownBy wr (aC b))
    case atStart=>exact⟨0,M++ [d],rfl,rfl,wj,by rw [List.take_zero];exact SeekR.nil _ _,hset4,World.grownBy.refl _ _⟩
    case round =>
     obtain⟨j,M',hgj,rfl,hj,hR,hsetr,hgr⟩:=hrel;have HGJ:=sqH hgj;have HRR:=sqH hR;clear hgj hR;by_cases hlt:j<ks.length
     rotate_left
     ·obtain rfl:j=ks.length:=by omega
      have hlb:decide (ks.length<ks.length)=false:=ws;have hfin:=HRR.o;rw [List.take_length]at hfin;rw [<-HKS.o]at hfin;have HFN:=sqH (SeekR.into HIN.o HNM.o hfin);clear hfin;go_wp2_with fail
      ((try simp only [Exit.inBlock,Exit.then]);first | (refine bodyPost_ret (results_none rfl _ _ _) rfl ?_) | (refine bodyPost_end (results_none rfl _ _ _) rfl ?_))
      exact⟨rfl,M',HFN.o,hsetr,hG04.trans hgr⟩
     have hlb:decide (j<ks.length)=true:=decide_eq_true hlt;have hj0:=wX j
     have hj1:(j:Int)<(ks.length:Int):=wj;obtain⟨bb,off,hAb,_,hcell⟩:=(hr4.far hgr hA4).2 wj;subst hAb;have e0:=hcell j _ (kG ks j hlt);have hboxr:=hbox4.grown hgr (fun e=>hne (by injection e with e;exact e.symm));have hb0r:=hb04.grown hgr hb04.size (fun k hk=>by cases hk;exact hbs);have hun1:=jv (bl:=bl) HRR.o.sub;have hln1:=HRR.o.len;rw [List.length_append]at hln1;simp only [List.length_cons,List.length_nil]at hln1;have hmu:=HMU.o;have HCL:=sqH (HIH.o M' ks[j] wr wj wj hb0r hboxr hsetr);have HTK:=sqH (show ks.take (j+1)=ks.take j++ [ks[j]] from List.take_succ_eq_append_getElem hlt);generalize ks[j]=kd at *
     clear hcell hun1 hln1 hmu hb0r hboxr;go_wp2_with fail;refine HCL.o.mono ?_;rintro e_ w6 ⟨rfl,M2,hR2,hset6,hg6⟩;dsimp only;have HR2:=sqH hR2;clear hR2 e0;go_wp2_with fail;go_roundg (ks.length - (j+1))
     case measure=>exact wW HGJ
     case rel=>exact⟨j+1,M2,rfl,by go_num,wj,by rw [HTK.o];exact HRR.o.snoc HR2.o,hset6,hgr.trans hg6⟩
theorem Qh (A D:ae) (c dc:Nat) (bl:List BlobP) (ds:List ac) (w:World) (hl:bl.length<=1000) (hcap:bl.length<=c) (hcm:c<=maxLen) (hdig:∀x∈bl,x.dig.length<=1000) (hrd:Rw BlobS w A bl) (hdn:ds.length<=1000000) (hrd2:Rd w 1 D ds.length (strs ds)) :
  Calls zZZ 56 #[aw A bl.length c,aw D ds.length dc] w fun e w'=>∃v L,e= .returned v/\StrL L (Rch bl ds)/\L.length<=bl.length/\w'.ownsRow w.heap.size 9 1 v L.length (strs L)/\Below w.heap.size w w':=by
 obtain⟨b,hb⟩:=wU w.heap.size
 obtain⟨gs,hgs⟩:=wU (w.heap.size+1)
 have hm0:=yx.made w;have hm1:yx ((w.alloc (.map #[] 0)).alloc (aA #[aw A bl.length c,.map (aC w.heap.size)] 166)) w.heap.size []:=World.ownsMap.alloc hm0 _;have hx1:Arr ((w.alloc (.map #[] 0)).alloc (aA #[aw A bl.length c,.map (aC w.heap.size)] 166)) (w.alloc (.map #[] 0)).heap.size 166 [aw A bl.length c,.map (aC w.heap.size)]:=Arr.new _ _ _;rw [World.size_alloc,<-hgs,<-hb]at hx1;rw [<-hb]at hm1;have hb1:=(wi w (.map #[] 0))
 have hb2:=hb1.alloc hb1.size (aA #[aw A bl.length c,.map (aC b)] 166);have HSK:=sqH (z0n gs b c A bl w wj wj wj hl hcap hcm hdig hrd);have HB:=sqH hb;have hHb:w.heap.size<=b:=wj;have hgb:gs≠b:=wj;have hd63:(ds.length:Int)<=9223372036854775807:=wj;obtain⟨w1,hw1⟩:=wU ((w.alloc (.map #[] 0)).alloc (aA #[aw A bl.length c,.map (aC b)] 166))
 rw [<-hw1]at hm1 hx1 hb2;have HW1:=sqH hw1;have HGS:=sqH hgs;clear hm0 hb1 hrd hw1 hgs hb;have hmm:= @run_makeMap zZZ;go_enter func56,ntmps56;go_wp2_with fail;rw [<-HB.o,<-HW1.o];rw [show b+1=gs from by rw [HB.o,HGS.o]];clear HW1 HGS hmm;go_loopg [14] ds.length (fun gn i wr=>∃(j:Nat) (M':List ac),gn=ds.length - j/\i= ax ay j/\j<=ds.length/\SeekR bl [] (ds.take j) M'/\yx wr b M'/\w1.grownBy wr (aC b))
 case atStart=>exact⟨0, [],rfl,rfl,wj,by rw [List.take_zero];exact SeekR.nil _ _,hm1,World.grownBy.refl _ _⟩
 case round =>
  obtain⟨j,M',hgj,rfl,hj,hR,hsetr,hgr⟩:=hrel;have HGJ:=sqH hgj;have HRR:=sqH hR;have hboxr:=hx1.grown hgr (fun e=>hgb (by injection e with e;exact e.symm));have hb0r:=hb2.grown hgr hb2.size (fun k hk=>by cases hk;exact hHb);have hln1:=HRR.o.len;have hun0:=VO bl;have hun1:=jv (bl:=bl) (M:= []) (M':=M') (fun x h=>nomatch h);simp only [List.length_nil,Nat.zero_add]at hln1;clear hgj hR;by_cases hlt:j<ds.length
  rotate_left
  ·obtain rfl:j=ds.length:=by omega
   have hlb:decide (ds.length<ds.length)=false:=ws;have hfin:=HRR.o;rw [List.take_length]at hfin;have HFN:=sqH hfin;have a1:=hboxr.c1;have hMl:M'.length<=bl.length:=wj;clear hfin hln1 hun0 hun1;go_wp2_with fail;refine(X0 b wr).mono ?_;rintro e_ wk ⟨rfl,rfl⟩;dsimp only;have hbk:=wi wr (aA #[.map (aC b)] 155);have HSO:=sqH (Zn b M' wr hsetr wj);go_wp2_with fail;refine HSO.o.mono ?_;rintro e_ wz ⟨vz,L,rfl,hL,hLl,hoz,hbz⟩;dsimp only;have hbkz:=wg hbk hbz;have hoz':=zb hoz hbk.size;go_wp2_with fail;go_ret;refine⟨vz,L,rfl,⟨hL.nd,hL.le,fun x=>by rw [hL.mem,HFN.o.all]⟩,wj,zb hoz' hb0r.size,wg hb0r hbkz⟩
  have hlb:decide (j<ds.length)=true:=decide_eq_true hlt;have hj0:=wX j
  have hj1:(j:Int)<(ds.length:Int):=wj;obtain⟨bb,off,hAb,_,hcell⟩:=(hrd2.below hb0r).2 wj;subst hAb;have e0:=hcell j _ (kG ds j hlt);have HCL:=sqH (HSK.o (bl.length+1) M' ds[j] wr wj wj hb0r hboxr hsetr);have HTK:=sqH (show ds.take (j+1)=ds.take j++ [ds[j]] from List.take_succ_eq_append_getElem hlt);generalize ds[j]=kd at *
  clear hcell hun1 hln1 hun0 hb0r hboxr;go_wp2_with fail;refine HCL.o.mono ?_;rintro e_ w6 ⟨rfl,M2,hR2,hset6,hg6⟩;dsimp only;have HR2:=sqH hR2;clear hR2 e0;go_wp2_with fail;go_roundg (ds.length - (j+1))
  case measure=>exact wW HGJ
  case rel=>exact⟨j+1,M2,rfl,by go_num,wj,by rw [HTK.o];exact HRR.o.snoc HR2.o,hset6,hgr.trans hg6⟩
def ux (es:List EntP):List ac:=es.flatMap (fun x=>x.aL.map (·.dig))
def uH (bl:List BlobP):List ac:=(bl.filter (fun b=>decide (0<b.aM))).map (·.dig)
def rts (s:StoP):List ac:=ux s.aF++uH s.aE
theorem Vv (es:List EntP) (k:Nat) (h:k<es.length):ux (es.take (k+1))=ux (es.take k)++es[k].aL.map (·.dig):=by
 unfold ux;rw [List.take_succ_eq_append_getElem h,List.flatMap_append];simp
theorem Vu (bl:List BlobP) (k:Nat) (h:k<bl.length):uH (bl.take (k+1))=uH (bl.take k)++(if 0<bl[k].aM then [bl[k].dig] else []):=by
 unfold uH;rw [List.take_succ_eq_append_getElem h,List.filter_append,List.map_append]
 congr 1
 by_cases hp:0<bl[k].aM
 ·rw [if_pos hp,List.filter_cons_of_pos (by simpa using hp)];rfl
 ·rw [if_neg hp,List.filter_cons_of_neg (by simpa using hp)];rfl
theorem vJ (es:List EntP) (h:∀x∈es,x.aL.length<=8):(ux es).length<=8*es.length:=by
 induction es with
 | nil=>simp [ux]
 | cons x es ih =>
  have h1:=h x ws;have h2:=ih (fun y hy=>h y (by simp [hy]));unfold ux at h2 ⊢
  rw [List.flatMap_cons,List.length_append,List.length_map,List.length_cons];omega
theorem Z2 (bl:List BlobP):(uH bl).length<=bl.length:=by
 unfold uH;rw [List.length_map];exact List.length_filter_le _ _
structure RtsOk (s:StoP):Prop where
 e:s.aF.length<=24
 p:∀x∈s.aF,x.aL.length<=8
 d:∀x∈s.aF,∀q∈x.aL,q.dig.length<=1000
 b:s.aE.length<=24
 g:∀x∈s.aE,x.dig.length<=1000
theorem RtsOk.len (h:RtsOk s):(rts s).length<=216:=by
 have h1:=vJ s.aF h.p;have h2:=Z2 s.aE;have:=h.e;have:=h.b;unfold rts;rw [List.length_append];omega
theorem GoodS.rts (h:GoodS s):RtsOk s :=
 ⟨by have:=h.e.len;omega,fun x hx=>(zk (h.e.one x hx).2.1).1,fun x hx q hq=>by have:=qO ((zk (h.e.one x hx).2.1).2 q hq).2.1;omega,h.b.len,fun x hx=>by rw [(h.b.one x hx).1];have:=qO (zq x.data);omega⟩
theorem xi (A B:ae) (c d:Nat) (s:StoP) (R C:Int) (w:World) (hs:RtsOk s) (hrd:RdSt w A c B d s) :
  Calls zZZ 53 #[.agg #[aw A s.aE.length c,aw B s.aF.length d,ax ay R,ax ay C]] w fun e w'=>∃v L,e= .returned v/\StrL L (fun x=>x∈rts s)/\L.length<=216/\w'.ownsRow w.heap.size 9 1 v L.length (strs L)/\Below w.heap.size w w':=by
 have hrl:=hs.len;have hel:=hs.e;have hbl:=hs.b;have HS:=sqH hs;have hx0:Arr (w.alloc (aA #[aw A s.aE.length c,aw B s.aF.length d,ax ay R,ax ay C] 27)) w.heap.size 27 [aw A s.aE.length c,aw B s.aF.length d,ax ay R,ax ay C]:=Arr.new w 27 _;have hb0:=wi w (aA #[aw A s.aE.length c,aw B s.aF.length d,ax ay R,ax ay C] 27);have hx1:=hx0.alloc (.map #[] 0);have hm1:=yx.made (w.alloc (aA #[aw A s.aE.length c,aw B s.aF.length d,ax ay R,ax ay C] 27));have hb1:=hb0.alloc hb0.size (.map #[] 0);rw [World.size_alloc]at hm1;obtain⟨b,hb⟩:=wU (w.heap.size+1)
 obtain⟨gS,hgS⟩:=wU w.heap.size
 rw [<-hgS]at hx1;rw [<-hb]at hm1;have hgb:gS≠b:=wj;have hwb:w.heap.size<=b:=wj;have HB:=sqH hb;have HG:=sqH hgS;obtain⟨w1,hw1⟩:=wU ((w.alloc (aA #[aw A s.aE.length c,aw B s.aF.length d,ax ay R,ax ay C] 27)).alloc (.map #[] 0))
 have HW:=sqH hw1;rw [<-hw1]at hx1 hm1 hb1;have hmm:= @run_makeMap zZZ;have f1:=hx1.c1;have he63:(s.aF.length:Int)<=9223372036854775807:=wj;have hb63:(s.aE.length:Int)<=9223372036854775807:=wj;have f1':=f1;rw [hw1,hgS]at f1';clear hw1 hgS hb hx0 hb0 hs;go_enter func53,ntmps53;go_wp2_with fail;rw [<-HW.o]
 first | rw [<-HB.o] | skip
 first | rw [<-HG.o] | skip
 clear f1' hmm f1;go_loopg [14] s.aF.length (fun gn i wr=>∃k:Nat,gn=s.aF.length - k/\i= ax ay k/\k<=s.aF.length/\yx wr b (ux (s.aF.take k))/\w1.grownBy wr (aC b))
 case atStart=>exact⟨0,rfl,rfl,wj,hm1,World.grownBy.refl _ _⟩
 case round =>
  obtain⟨k,hgk,rfl,hk,hset,hgr⟩:=hrel;have HGK:=sqH hgk;clear hgk;by_cases hlt:k<s.aF.length
  rotate_left
  ·obtain rfl:k=s.aF.length:=by omega
   have hlb:decide (s.aF.length<s.aF.length)=false:=ws;have f0:=(hx1.grown hgr (fun e=>hgb (by injection e with e;exact e.symm))).c0;rw [List.take_length]at hset;have HSET:=sqH hset;clear hset;go_wp2_with fail;clear f0;generalize hwq:wr=wq at *
   clear hwq;go_loopg [33] s.aE.length (fun gn i wr=>∃k:Nat,gn=s.aE.length - k/\i= ax ay k/\k<=s.aE.length/\yx wr b (ux s.aF++uH (s.aE.take k))/\w1.grownBy wr (aC b))
   case atStart=>exact⟨0,rfl,rfl,wj,by rw [List.take_zero];simpa [uH] using HSET.o,hgr⟩
   case round =>
    obtain⟨k,hgk,rfl,hk,hset,hgr⟩:=hrel;have HGK:=sqH hgk;have hb0r:=hb1.grown hgr hb1.size (fun k hk=>by cases hk;exact hwb);clear hgk;by_cases hlt:k<s.aE.length
    rotate_left
    ·obtain rfl:k=s.aE.length:=by omega
     have hlb:decide (s.aE.length<s.aE.length)=false:=ws;rw [List.take_length]at hset;have hset':yx wr b (rts s):=hset;clear hset;go_wp2_with fail;refine(X0 b wr).mono ?_;rintro e_ wk ⟨rfl,rfl⟩;dsimp only;have hbk:=wi wr (aA #[.map (aC b)] 155);have HSO:=sqH (Zn b (rts s) wr hset' wj);go_wp2_with fail;refine HSO.o.mono ?_;rintro e_ wz ⟨vz,L,rfl,hL,hLl,hoz,hbz⟩;dsimp only;have hbkz:=wg hbk hbz;have hoz':=zb hoz hbk.size;go_wp2_with fail;go_ret;refine⟨vz,L,rfl,hL,wj,zb hoz' hb0r.size,wg hb0r hbkz⟩
    have hlb:decide (k<s.aE.length)=true:=decide_eq_true hlt;have hk0:=wX k
    have hk1:(k:Int)<(s.aE.length:Int):=wj;obtain⟨bq,oq,Bq,cq,hA,hbq,d0,d1,d2,d3,hsl⟩:=(hrd.b.below hb0r).blob_at k hlt;subst hA;have HSU:=sqH (Vu s.aE k hlt);have hxl:s.aE[k].dig.length<=maxLen:=by have:=HS.o.g _ (List.getElem_mem hlt);unfold maxLen;omega
    have HKL:=sqH hlt;have hLn:=vJ s.aF HS.o.p;have hLm:=Z2 (s.aE.take k);rw [List.length_take]at hLm;have hMl:(ux s.aF++uH (s.aE.take k)).length<maxLen:=by rw [List.length_append];unfold maxLen;omega
    generalize s.aE[k]=q at *
    have hbox:Arr (wr.alloc (aA #[.string ⟨q.dig.toArray⟩,aw Bq q.data.length cq,ax ay q.aM,.bool q.mark] 88)) wr.heap.size 88 [.string ⟨q.dig.toArray⟩,aw Bq q.data.length cq,ax ay q.aM,.bool q.mark]:=Arr.new wr 88 _;have hgA:=hgr.trans (World.grownBy_alloc wr (aA #[.string ⟨q.dig.toArray⟩,aw Bq q.data.length cq,ax ay q.aM,.bool q.mark] 88) (aC b));have hsetA:=World.ownsMap.alloc hset (aA #[.string ⟨q.dig.toArray⟩,aw Bq q.data.length cq,ax ay q.aM,.bool q.mark] 88);have p2:=hbox.c2;have p0:=hbox.c0;clear hsl hset hLn hLm;by_cases hp:0<q.aM
    ·have hpb:decide ((0:Int)<(q.aM:Int))=true:=decide_eq_true wj;have hpb':decide (0<q.aM)=true:=decide_eq_true hp;obtain⟨w3,hput,hset3,hg3⟩:=yx.put hsetA q.dig hxl hMl;have hsu:=HSU.o;rw [if_pos hp]at hsu;have HSV:=sqH hsu;have HST3:=sqH hset3;clear hsetA hset3 hp hsu HSU;go_wp2_with fail;go_roundg (s.aE.length - (k+1))
     case measure=>have:=HGK.o;have:=HKL.o;omega
     case rel=>exact⟨k+1,rfl,by go_num,by have:=HKL.o;omega,by rw [HSV.o,<-List.append_assoc];exact HST3.o,hgA.trans hg3⟩
    ·have hpb:decide ((0:Int)<(q.aM:Int))=false:=decide_eq_false wj;have hpb':decide (0<q.aM)=false:=decide_eq_false hp;have hsu:=HSU.o;rw [if_neg hp,List.append_nil]at hsu;have HSV:=sqH hsu;have HST3:=sqH hsetA;clear hsetA hp hsu HSU;go_wp2_with fail;go_roundg (s.aE.length - (k+1))
     case measure=>have:=HGK.o;have:=HKL.o;omega
     case rel=>exact⟨k+1,rfl,by go_num,by have:=HKL.o;omega,by rw [HSV.o];exact HST3.o,hgA⟩
  have hlb:decide (k<s.aF.length)=true:=decide_eq_true hlt;have hk0:=wX k
  have hk1:(k:Int)<(s.aF.length:Int):=wj;have hb0r:=hb1.grown hgr hb1.size (fun k hk=>by cases hk;exact hwb);obtain⟨bq,oq,Bq,cq,hA,hbq,c0,c1,c2,c3,hsl⟩:=hrd.e.ent_at k hlt;subst hA;have d0:=((UD hb0r).1 bq _ hbq).trans c0;have d1:=((UD hb0r).1 bq _ hbq).trans c1;have d2:=((UD hb0r).1 bq _ hbq).trans c2;have d3:=((UD hb0r).1 bq _ hbq).trans c3;clear c0 c1 c2 c3;have HSU:=sqH (Vv s.aF k hlt);have hp8:=HS.o.p _ (List.getElem_mem hlt);have HPD:=sqH (HS.o.d _ (List.getElem_mem hlt));have hLn:=vJ (s.aF.take k) (fun x hx=>HS.o.p x (List.mem_of_mem_take hx));rw [List.length_take]at hLn;have hLn2:(ux (s.aF.take k)).length<=192:=wj;have HKL:=sqH hlt;generalize s.aF[k]=q at *
  have hbox:Arr (wr.alloc (aA #[.string ⟨q.key.toArray⟩,aw Bq q.aL.length cq,ax ay q.aM,ax ay q.aK] 109)) wr.heap.size 109 [.string ⟨q.key.toArray⟩,aw Bq q.aL.length cq,ax ay q.aM,ax ay q.aK]:=Arr.new wr 109 _;have hgA:=hgr.trans (World.grownBy_alloc wr (aA #[.string ⟨q.key.toArray⟩,aw Bq q.aL.length cq,ax ay q.aM,ax ay q.aK] 109) (aC b));have hsetA:yx _ b _:=World.ownsMap.alloc hset (aA #[.string ⟨q.key.toArray⟩,aw Bq q.aL.length cq,ax ay q.aM,ax ay q.aK] 109);have p1:=hbox.c1;have hq63:(q.aL.length:Int)<=9223372036854775807:=wj;clear hset hLn;go_wp2_with fail;clear d0 d1 d2 d3 p1;generalize (wr.alloc (aA #[.string ⟨q.key.toArray⟩,aw Bq q.aL.length cq,ax ay q.aM,ax ay q.aK] 109))=wA at *
  clear hbox;go_loopg [21] q.aL.length (fun gn i wr=>∃j:Nat,gn=q.aL.length - j/\i= ax ay j/\j<=q.aL.length/\yx wr b (ux (s.aF.take k)++(q.aL.take j).map (·.dig))/\w1.grownBy wr (aC b))
  case atStart=>exact⟨0,rfl,rfl,wj,by rw [List.take_zero];simpa using hsetA,hgA⟩
  case round =>
   obtain⟨j,hgj,rfl,hj,hset,hgi⟩:=hrel;have HGJ:=sqH hgj;have hb0i:=hb1.grown hgi hb1.size (fun k hk=>by cases hk;exact hwb);clear hgj hsetA hgA;by_cases hlt2:j<q.aL.length
   rotate_left
   ·obtain rfl:j=q.aL.length:=by omega
    have hlb2:decide (q.aL.length<q.aL.length)=false:=ws;rw [List.take_length,<-HSU.o]at hset;have HST:=sqH hset;clear hset;go_wp2_with fail;go_roundg (s.aF.length - (k+1))
    case measure=>have:=HGK.o;have:=HKL.o;omega
    case rel=>exact⟨k+1,rfl,by go_num,by have:=HKL.o;omega,HST.o,hgi⟩
   have hlb2:decide (j<q.aL.length)=true:=decide_eq_true hlt2;have hj0:=wX j
   have hj1:(j:Int)<(q.aL.length:Int):=wj;obtain⟨bb,off,hAb,_,hcell⟩:=(hsl.below hb0i).rd.2 wj;subst hAb;have hat:=fun i (hi:i<3)=>yE q.aL j i hlt2 hi;have c0:=hcell (j*3+0) _ (hat 0 wj);have c1:=hcell (j*3+1) _ (hat 1 wj);have c2:=hcell (j*3+2) _ (hat 2 wj);have hpd:q.aL[j].dig.length<=maxLen:=by have:=HPD.o _ (List.getElem_mem hlt2);unfold maxLen;omega
   have HTK:=sqH (show(q.aL.take (j+1)).map (·.dig)=(q.aL.take j).map (·.dig)++ [q.aL[j].dig] from by rw [List.take_succ_eq_append_getElem hlt2,List.map_append];rfl);have HJL:=sqH hlt2;generalize q.aL[j]=pt at *
   obtain⟨pn,pd,psz⟩:=pt;dsimp only [yv,List.getElem?_cons_zero,List.getElem?_cons_succ]at c0 c1 c2 hpd HTK;rw [Nat.add_zero]at c0;rw [show off+(j*3+1)=off+j*3+1 by omega]at c1;rw [show off+(j*3+2)=off+j*3+2 by omega]at c2;have hMl:(ux (s.aF.take k)++(q.aL.take j).map (·.dig)).length<maxLen:=by rw [List.length_append,List.length_map,List.length_take];unfold maxLen;omega
   have hbx:Arr (wr.alloc (aA #[.string ⟨pn.toArray⟩,.string ⟨pd.toArray⟩,ax ay psz] 51)) wr.heap.size 51 [.string ⟨pn.toArray⟩,.string ⟨pd.toArray⟩,ax ay psz]:=Arr.new wr 51 _;have hgB:=hgi.trans (World.grownBy_alloc wr (aA #[.string ⟨pn.toArray⟩,.string ⟨pd.toArray⟩,ax ay psz] 51) (aC b));have hsetB:yx _ b _:=World.ownsMap.alloc hset (aA #[.string ⟨pn.toArray⟩,.string ⟨pd.toArray⟩,ax ay psz] 51);have p1:=hbx.c1;obtain⟨w3,hput,hset3,hg3⟩:=yx.put hsetB pd hpd hMl;have HST3:=sqH hset3;clear hat hcell hset hset3 hsetB;go_wp2_with fail;go_roundg (q.aL.length - (j+1))
   case measure=>have:=HGJ.o;have:=HJL.o;omega
   case rel=>exact⟨j+1,rfl,by go_num,by have:=HJL.o;omega,by rw [HTK.o,<-List.append_assoc];exact HST3.o,hgB.trans hg3⟩
theorem QT (A B:ae) (c d:Nat) (s:StoP) (R C:Int) (w:World) (hs:RtsOk s) (hrd:RdSt w A c B d s) :
  Calls zZZ 33 #[.agg #[aw A s.aE.length c,aw B s.aF.length d,ax ay R,ax ay C]] w fun e w'=>∃v L,e= .returned v/\StrL L (Rch s.aE (rts s))/\L.length<=s.aE.length/\w'.ownsRow w.heap.size 9 1 v L.length (strs L)/\Below w.heap.size w w':=by
 have HOK:=sqH hs;have hx0:Arr (w.alloc (aA #[aw A s.aE.length c,aw B s.aF.length d,ax ay R,ax ay C] 27)) w.heap.size 27 [aw A s.aE.length c,aw B s.aF.length d,ax ay R,ax ay C]:=Arr.new w 27 _;have hb0:=wi w (aA #[aw A s.aE.length c,aw B s.aF.length d,ax ay R,ax ay C] 27);have hrd1:=hrd.below hb0;clear hs hrd;go_enter func33,ntmps33;go_wp2_with fail;generalize (w.alloc (aA #[aw A s.aE.length c,aw B s.aF.length d,ax ay R,ax ay C] 27))=w1 at *
 obtain⟨gS,hgS⟩:=wU w.heap.size
 rw [<-hgS]at hx0 ⊢
 have HSB:=sqH (show ∀w',Below w1.heap.size w1 w'->(wD w' gS (aw A s.aE.length c) (aw B s.aF.length d) (ax ay R) (ax ay C)) from
  fun w' hb=>sqC4 (hx0.below hb))
 obtain⟨HRD,HB1,HgS⟩:=sqJ3 hrd1 hb0 hgS;clear hgS hx0 hrd1 hb0;refine wp_region_held_drew (S:=(fun w'=>wD w' gS (aw A s.aE.length c) (aw B s.aF.length d) (ax ay R) (ax ay C))) wm ?_ (fun hHeld=> ?_)
 ·exact HSB.o _ (Below.refl _ w1).drew
 have hB:=(Below.refl w1.heap.size w1).drew;generalize w1.drew=wn0 at *
 refine wM 0 ?_;refine wM 1 ?_;refine wM 2 ?_;refine wQ 3 fun K hK=>?_;go_simp;refine(xi A B c d s R C wn0 HOK.o (HRD.o.below hB)).mono ?_;rintro e5 w5 ⟨v5,L1,rfl,hL1,hl1,ho5,hb5⟩;obtain⟨A3,c3,rfl,_,_⟩:=Rd.of_own' ho5;have HL1:=sqH hL1;clear hL1;dsimp only;refine ka hK ?_ (Below wn0.heap.size wn0) (fun W=>W.ownsRow w1.heap.size 9 1 (aw A3 L1.length c3) L1.length (strs L1)) ?_ ?_ (fun wn1 hHeld hst hnew=> ?_)
 ·(exact HSB.o _ (hB.trans (Below.mono (show Below wn0.heap.size wn0 _ from by(first | exact hb5 | exact hb6 | exact Below.refl _ _)) hB.size)))
 ·(first | exact hb5 | exact hb6 | exact Below.refl _ _)
 ·(exact zb ho5 hB.size)
 have hB:=wg hB hst;have h3:=hnew;clear hst;clear hK K
 try simp only [sqP]
 refine wQ 4 fun K hK=>?_;go_simp;refine(Qh A A3 c c3 s.aE L1 wn1 (by have:=HOK.o.b;omega) HRD.o.bc HRD.o.bm HOK.o.g (HRD.o.b.below hB) wj (Rd.of_own h3)).mono ?_;rintro e6 w6 ⟨v6,L2,rfl,hL2,hl2,ho6,hb6⟩;have HL2:=sqH hL2;clear hL2;dsimp only;refine ka hK ?_ (Below wn1.heap.size wn1) (fun W=>W.ownsRow w1.heap.size 9 1 v6 L2.length (strs L2)) ?_ ?_ (fun wn2 hHeld hst hnew=> ?_)
 ·(exact HSB.o _ (hB.trans (Below.mono (show Below wn1.heap.size wn1 _ from by(first | exact hb5 | exact hb6 | exact Below.refl _ _)) hB.size)))
 ·(first | exact hb5 | exact hb6 | exact Below.refl _ _)
 ·(exact zb ho6 hB.size)
 have hB:=wg hB hst;have h4:=hnew;clear hst;clear hK K
 refine wM 5 ?_;refine wpAnyH_done wm ?_ _
 try dsimp only [Exit.then]
 clear hHeld;have hBz:=wg HB1.o hB;clear hB h3;have e9:=HgS.o;subst e9
 refine wH ?_;intros;go_ret;refine⟨v6,L2,rfl,⟨HL2.o.nd,HL2.o.le,fun x=> ?_⟩,hl2,zb h4 HB1.o.size,hBz⟩;rw [HL2.o.mem];exact⟨fun h=>h.mono fun y hy hi=> .root ((HL1.o.mem y).1 hy) hi,fun h=>h.mono fun y hy hi=> .root ((HL1.o.mem y).2 hy) hi⟩
theorem xr (hr:RisesBy (·.dig) bl) {b:BlobP} (hb:b∈bl):kids bl b.dig=(kw b.data).1.map (·.dig):=by
 cases hf:bl.findIdx? (fun x=>x.dig==b.dig) with
 | none =>
  have:=jW.1 ⟨b,hb,rfl⟩;rw [hf]at this;cases this
 | some i =>
  have hi:i<bl.length:=(List.findIdx?_eq_some_iff_getElem.1 hf).1;have hd:bl[i].dig=b.dig:=by simpa using (List.findIdx?_eq_some_iff_getElem.1 hf).2.1
  have e:=hr.inj (List.getElem_mem hi) hb hd;have:=V1 hf hi;rw [e]at this;exact this
def z1h (bl:List BlobP) (L:List ac):List BlobP:=bl.filter (fun b=>decide (b.dig∈L))
noncomputable def cln (s:StoP):StoP:= { s with aE:=s.aE.filter (fun b=> @decide (Rch s.aE (rts s) b.dig) (Classical.propDecidable _)) }
theorem Xt {b:BlobP}:b∈(cln s).aE↔b∈s.aE/\Rch s.aE (rts s) b.dig:=by
 unfold cln;rw [List.mem_filter];exact and_congr_right fun _=> @decide_eq_true_iff _ (Classical.propDecidable _)
theorem UH (hL:StrL L (Rch s.aE (rts s))):z1h s.aE L=(cln s).aE:=by
 unfold cln z1h;refine List.filter_congr fun b hb=> ?_;have:=hL.mem b.dig;by_cases h:b.dig∈L
 ·rw [decide_eq_true h];exact(@decide_eq_true _ (Classical.propDecidable _) (this.1 h)).symm
 ·rw [decide_eq_false h];exact(@decide_eq_false _ (Classical.propDecidable _) (fun h2=>h (this.2 h2))).symm
section
variable {bl bl':List BlobP} {ds ds':List ac}
theorem InB.sub {x:ac} (hs:∀b∈bl',b∈bl) (h:InB bl' x):InB bl x:=by
 obtain⟨b,hb,e⟩:=h;exact⟨b,hs b hb,e⟩
theorem vG (hr:RisesBy (·.dig) bl) (hr':RisesBy (·.dig) bl') (hs:∀b∈bl',b∈bl) {x:ac} (hx:InB bl' x):kids bl' x=kids bl x:=by
 obtain⟨b,hb,rfl⟩:=hx;rw [xr hr' hb,xr hr (hs b hb)]
theorem Rch.sub (hr:RisesBy (·.dig) bl) (hr':RisesBy (·.dig) bl') (hs:∀b∈bl',b∈bl) (hd:∀x∈ds',x∈ds) {x:ac} (h:Rch bl' ds' x):Rch bl ds x:=by
 induction h with
 | root h1 h2=>exact .root (hd _ h1) (h2.sub hs)
 | step h1 h2 h3 ih=>exact .step ih (by rw [<-vG hr hr' hs h1.inB];exact h2) (h3.sub hs)
theorem Rch.keepb (hr:RisesBy (·.dig) bl) (hr':RisesBy (·.dig) bl') (hs:∀b∈bl',b∈bl) (hd:∀x∈ds,x∈ds') (hk:∀x,Rch bl ds x->InB bl' x) {x:ac} (h:Rch bl ds x):Rch bl' ds' x:=by
 induction h with
 | root h1 h2=>exact .root (hd _ h1) (hk _ (.root h1 h2))
 | step h1 h2 h3 ih=>exact .step ih (by rw [vG hr hr' hs (hk _ h1)];exact h2) (hk _ (.step h1 h2 h3))
end
theorem Rch.dmono {ds':List ac} {x:ac} (hd:∀x∈ds,x∈ds') (h:Rch bl ds x):Rch bl ds' x:=h.mono fun y hy hb=> .root (hd y hy) hb
theorem Xu (h:RisesBy (·.dig) s.aE):RisesBy (·.dig) (cln s).aE:=List.Pairwise.filter _ h
theorem z0v:∀b∈(cln s).aE,b∈s.aE:=fun b hb=>(Xt.1 hb).1
theorem yf (s:StoP):(cln s).aF=s.aF:=rfl
theorem yg (s:StoP):(cln s).aH=s.aH:=rfl
theorem vX (s:StoP):(cln s).aG=s.aG:=rfl
theorem z1r {b:BlobP} (hb:b∈s.aE) (hp:0<b.aM):b.dig∈rts s :=
 List.mem_append_right _ (List.mem_map.2 ⟨b,List.mem_filter.2 ⟨hb,decide_eq_true hp⟩,rfl⟩)
theorem Kz {x:EntP} {p:PartP} (hx:x∈s.aF) (hp:p∈x.aL):p.dig∈rts s :=
 List.mem_append_left _ (List.mem_flatMap.2 ⟨x,hx,List.mem_map.2 ⟨p,hp,rfl⟩⟩)
theorem jw (p:BlobP->Bool):∀l:List BlobP,usd (l.filter p)<=usd l
 | []=>Nat.le_refl _
 | b::l=>by
  have ih:=jw p l
  cases h:p b with
  | true=>rw [List.filter_cons_of_pos h];unfold usd at *;simp only [List.map_cons,List.sum_cons];omega
  | false=>rw [List.filter_cons_of_neg (by simp [h])];unfold usd at *;simp only [List.map_cons,List.sum_cons];omega
theorem UI (s:StoP):usd (cln s).aE<=usd s.aE:=jw _ _
theorem z0u (s:StoP):(cln s).aE.length<=s.aE.length:=List.length_filter_le _ _
theorem yI (h:GoodS s):GoodS (cln s) :=
 ⟨⟨Nat.le_trans (z0u s) h.b.len,fun b hb=>h.b.one b (z0v b hb),Xu h.b.ris⟩,h.e,h.aH,Nat.le_trans (UI s) h.used,h.aG,fun x hx=>⟨(h.ent x hx).1,fun p hp=>by
  obtain⟨b,hb,e1,e2⟩:=(h.ent x hx).2 p hp
  exact⟨b,Xt.2 ⟨hb,.root (by rw [e1];exact Kz hx hp) ⟨b,hb,rfl⟩⟩,e1,e2⟩⟩⟩
theorem ZA {es:List EntP} (h:GoodS s) (hs:es.Sublist s.aF):GoodS { s with aF:=es } :=
 ⟨h.b,⟨Nat.le_trans hs.length_le h.e.len,fun x hx=>h.e.one x (hs.subset hx),List.Pairwise.sublist hs h.e.ris⟩,h.aH,h.used,h.aG,fun x hx=>h.ent x (hs.subset hx)⟩
noncomputable def uK (more:Nat):Nat->StoP->List ac->Option (StoP×List ac)
 | 0,_,_=>none
 | n+1,s,g=>if usd s.aE+more<=s.aH then aC (s,g) else
  match ZU s.aF s.aF.length with
  | none=>none
  | some i=>match s.aF[i]? with
   | none=>none
   | some x=>uK more n (cln { s with aF:=s.aF.eraseIdx i }) (g++ [x.key])
noncomputable def kV (more:Nat) (s:StoP):Option (StoP×List ac) :=
 if usd s.aE+more<=s.aH then aC (s, []) else uK more (s.aF.length+1) (cln s) []
theorem XJ {g g':List ac} (h:uK more (n+1) s g=aC (t,g')) :
  (usd s.aE+more<=s.aH/\t=s/\g'=g)\/(¬usd s.aE+more<=s.aH/\∃i,∃hi:i<s.aF.length,ZU s.aF s.aF.length=aC i/\uK more n (cln { s with aF:=s.aF.eraseIdx i }) (g++ [s.aF[i].key])=aC (t,g')):=by
 unfold uK at h;by_cases hf:usd s.aE+more<=s.aH
 ·rw [if_pos hf]at h;cases h
  exact .inl ⟨hf,rfl,rfl⟩
 ·rw [if_neg hf]at h;cases ho:ZU s.aF s.aF.length with
  | none=>rw [ho]at h;cases h
  | some i =>
   have hi:=(x8 s.aF _ i ho).2;rw [ho]at h;simp only [List.getElem?_eq_getElem hi]at h;exact .inr ⟨hf,i,hi,rfl,h⟩
theorem ug (l:List α) (i:Nat):∀x∈l.eraseIdx i,x∈l:=fun x hx=>List.mem_of_mem_eraseIdx hx
theorem ZD {more:Nat}:∀(n:Nat) (s t:StoP) (g g':List ac),GoodS s->uK more n s g=aC (t,g')->GoodS t/\usd t.aE+more<=t.aH/\t.aF.length+g'.length=s.aF.length+g.length/\t.aH=s.aH/\t.aG=s.aG
 | 0,s,t,g,g',hg,h=>by unfold uK at h;cases h
 | n+1,s,t,g,g',hg,h=>by
  rcases XJ h with ⟨h1,rfl,rfl⟩ | ⟨h1,i,hi,ho,h2⟩
  ·exact⟨hg,h1,rfl,rfl,rfl⟩
  ·have h3:=ZD n _ t _ g' (yI (ZA hg (List.eraseIdx_sublist _ _))) h2
   refine⟨h3.1,h3.2.1,?_,h3.2.2.2⟩
   have h4:=h3.2.2.1
   rw [yf]at h4
   simp only [List.length_eraseIdx_of_lt hi,List.length_append,List.length_cons,List.length_nil]at h4
   omega
theorem j8 {g:List ac} (hg:GoodS s) (h:kV more s=aC (t,g)):GoodS t/\usd t.aE+more<=t.aH/\t.aF.length+g.length=s.aF.length/\t.aH=s.aH/\t.aG=s.aG:=by
 unfold kV at h;by_cases hf:usd s.aE+more<=s.aH
 ·rw [if_pos hf]at h;cases h;exact⟨hg,hf,rfl,rfl,rfl⟩
 ·rw [if_neg hf]at h;have:=ZD _ _ t [] g (yI hg) h;simpa [yf,yg,vX] using this
theorem yC {α:Type} {p:α->Bool}:∀(l:List α) (i:Nat) (hi:i<l.length),p l[i]=false->(l.eraseIdx i).filter p=l.filter p
 | x::l,0,_,h=>by
  rw [List.eraseIdx_cons_zero,List.filter_cons_of_neg]
  simp only [List.getElem_cons_zero]at h
  simp [h]
 | x::l,i+1,hi,h=>by
  have ih:=yC l i (by simpa using hi) (by simpa using h)
  rw [List.eraseIdx_cons_succ]
  cases hx:p x with
  | true=>rw [List.filter_cons_of_pos hx,List.filter_cons_of_pos hx,ih]
  | false=>rw [List.filter_cons_of_neg (by simp [hx]),List.filter_cons_of_neg (by simp [hx]),ih]
section
variable {w:World} {base g cap:Nat} {e:TypeId} {N:ai}
theorem RwX.own4 {S:Shp α} {l:List α} (h:RwX S e w base v l N):w.ownsRow base e S.size v l.length (cls h.choose):=h.choose_spec.2.2.1
theorem RwX.arr4 {S:Shp α} {l:List α} (h:RwX S e w base (aw (aC ⟨g,0,aB⟩) l.length cap) l N) (h0:0<l.length):∃cs,Arr w g e cs/\cs.length=cap*S.size:=by
 obtain⟨g',cap',cs,e1,_,h4,_,_,h5,_⟩:=yq h.own4 h0;injection e1 with e11 _ e13;injection e11 with e11;injection e11 with e11;subst e11 e13;exact⟨cs,h4,h5⟩
theorem RwX.rwN {S:Shp α} {l:List α} (h:RwX S e w base (aw (aC ⟨g,0,aB⟩) l.length cap) l N):Rw (S.off (fun b=>b=g\/N b)) w (aC ⟨g,0,aB⟩) l:=by
 obtain⟨ps,h1,h2,h3,h4⟩:=h;exact⟨ps,h1,fun p hp=>⟨h2 p hp,fun b hb=>h4 p hp b (hb.imp (fun e=>by rw [e];rfl) id)⟩,Rd.of_own h3⟩
theorem RwX.at4B (h:RwX BlobS e w base (aw (aC ⟨g,0,aB⟩) l.length cap) l N) (j:Nat) (hj:j<l.length) :
  ∃B c,w.cell? ⟨g,j*4,aB⟩=aC (az ⟨l[j].dig.toArray⟩)/\w.cell? ⟨g,j*4+1,aB⟩=aC (aw B l[j].data.length c)/\w.cell? ⟨g,j*4+2,aB⟩=aC (ax ay (l[j].aM:Int))/\w.cell? ⟨g,j*4+3,aB⟩=aC (.bool l[j].mark) /\
   Sl w 1 B l[j].data.length c (bys l[j].data)/\∀b,(b=g\/N b)->¬leads b [az ⟨l[j].dig.toArray⟩,aw B l[j].data.length c,ax ay (l[j].aM:Int),.bool l[j].mark]:=by
 obtain⟨b,off,cs,e1,hb,⟨⟨B,c,rfl,hs⟩,hl⟩,hc⟩:=h.rwN.at_ j hj;cases e1
 simp only [Nat.zero_add]at hc;exact⟨B,c,hc 0 _ rfl,hc 1 _ rfl,hc 2 _ rfl,hc 3 _ rfl,hs,hl⟩
theorem uy {P:Program} (w:World) (t e ty:TypeId) (z:Value) (zs:af) (n:Nat) (hn:0<n) (ht:P.underlying t=aC (.slice e)) (hv:∀w,(zeroValue e).run P w= .ok z w) (hz:(Builtin.zeroCells z.cells n).toList=zs) (h1:∀u∈zs,u.oneCell'=true) (b o c:Nat)
  (hc:∀j,j<zs.length->(w.cell? ⟨b,o+j,aB⟩).isSome=true) (hf:∀j,j<zs.length->w.frozen? ⟨b,o+j,aB⟩=false) :
  (Builtin.clear_ #[t] ty #[aw (aC ⟨b,o,aB⟩) n c]).run P w= .ok (.tuple #[]) (w.setCells b o zs):=by
 have hst:=run_storeCells_cells (P:=P) b o zs 0 w (by simpa using hc) (by simpa using hf) h1;simp only [Nat.add_zero]at hst;cases n with
 | zero=>omega
 | succ m=>simp [Builtin.clear_,run_underlying ht,hv,hz,hst]
theorem xG (z:Array Value) (n:Nat):(Builtin.zeroCells z n).toList.length=n*z.size:=by simp [Builtin.zeroCells]
theorem xH (z:Array Value) (n:Nat) (h0:0<z.size) (h:∀u∈z.toList,u.oneCell'=true):∀u∈(Builtin.zeroCells z n).toList,u.oneCell'=true:=fun u hu=>by
 simp only [Builtin.zeroCells,Array.toList_map,List.mem_map]at hu
 obtain⟨i,_,rfl⟩:=hu
 have hlt:i % z.size<z.size:=Nat.mod_lt _ h0
 rw [getElem!_pos z _ hlt]
 exact h _ (Array.mem_toList_iff.2 (Array.getElem_mem hlt))
theorem ZW {size:Nat} {xs:af} (h:w.ownsRow base e size (aw (aC ⟨g,0,aB⟩) n cap) n xs) (hn:0<n) (hi:i<n) (hz:zs.length=(n - i)*size) :
  (w.setCells g (i*size) zs).ownsRow base e size (aw (aC ⟨g,0,aB⟩) i cap) i (xs.take (i*size))/\w.grownBy (w.setCells g (i*size) zs) (aC g)/\(∀j,j<zs.length->(w.cell? ⟨g,i*size+j,aB⟩).isSome=true)/\(∀j,j<zs.length->w.frozen? ⟨g,i*size+j,aB⟩=false):=by
 obtain⟨g',cap',cs,e1,hbg,hA,hnc,hcm,hcl,hct⟩:=yq h hn;injection e1 with e11 _ e13;injection e11 with e11;injection e11 with e11;subst e11 e13;have him:(n - i)*size+i*size=n*size:=by rw [<-Nat.add_mul,Nat.sub_add_cancel wj]
 have hns:n*size<=cap*size:=Nat.mul_le_mul_right _ hnc;have e2:cs=cs.take (i*size)++((cs.drop (i*size)).take ((n - i)*size)++cs.drop (n*size)):=by
  conv=>lhs;rw [<-List.take_append_drop (i*size) cs]
  congr 1
  conv=>lhs;rw [<-List.take_append_drop ((n - i)*size) (cs.drop (i*size))]
  rw [List.drop_drop,Nat.add_comm,him]
 have hl1:(cs.take (i*size)).length=i*size:=by rw [List.length_take];omega
 have hA2:=hA;rw [e2]at hA2;have h3:=vD _ zs _ _ w hA2 (by rw [hz,List.length_take,List.length_drop];omega);rw [hl1]at h3;refine⟨⟨?_,.inr ⟨g,cap,_,rfl,hbg,by simpa [Arr] using h3,wj,hcm,?_,?_⟩⟩,qi _ _ _,fun j hj=> ?_,fun j hj=>hA.frozen _⟩
 ·rw [List.length_take,h.1];exact Nat.min_eq_left wj
 ·simp only [List.size_toArray,List.length_append,List.length_take,List.length_drop,hcl,hz];omega
 ·simp only;rw [List.take_left' hl1,<-hct,List.take_take,Nat.min_eq_left wj]
 ·have hk:i*size+j<cs.length:=by rw [hcl];omega
  rw [hA.cell (List.getElem?_eq_getElem hk)];rfl
theorem RwX.trunc_ {S:Shp α} {l:List α} (h:RwX S e w base (aw (aC ⟨g,0,aB⟩) l.length cap) l N) (hi:i<l.length) (hz:zs.length=(l.length - i)*S.size) :
  RwX S e (w.setCells g (i*S.size) zs) base (aw (aC ⟨g,0,aB⟩) i cap) (l.take i) N/\w.grownBy (w.setCells g (i*S.size) zs) (aC g)/\(∀j,j<zs.length->(w.cell? ⟨g,i*S.size+j,aB⟩).isSome=true)/\(∀j,j<zs.length->w.frozen? ⟨g,i*S.size+j,aB⟩=false):=by
 obtain⟨ps,h1,h2,h3,h4⟩:=h;obtain⟨k1,k2,k3,k4⟩:=ZW h3 wj hi hz;have hpl:ps.length=l.length:=by rw [<-h1,List.length_map]
 have hm:∀p∈ps.take i,p∈ps:=fun p hp=>List.mem_of_mem_take hp;refine⟨⟨ps.take i,by rw [<-h1,List.map_take],qK.grown (w:=w) (g:=aC g) (fun p hp=>h2 p (hm p hp)) k2 (fun p hp b hb=>h4 p (hm p hp) b (.inl hb)),?_,fun p hp b hb=>h4 p (hm p hp) b hb⟩,k2,k3,k4⟩;rw [<-kJ (s:=S.size) ps i h2.lens,List.length_take,Nat.min_eq_left wj];exact k1
theorem RwX.truncB (h:RwX BlobS e w base (aw (aC ⟨g,0,aB⟩) l.length cap) l N) (i:Nat) (hi:i<l.length) :
  ∃zs:af,zs.length=(l.length - i)*4/\(∀ty c,(Builtin.clear_ #[24] ty #[aw (aC ⟨g,i*4,aB⟩) (l.length - i) c]).run zZZ w= .ok (.tuple #[]) (w.setCells g (i*4) zs)) /\
   RwX BlobS e (w.setCells g (i*4) zs) base (aw (aC ⟨g,0,aB⟩) i cap) (l.take i) N/\w.grownBy (w.setCells g (i*4) zs) (aC g):=by
 have hl:=xG (Value.agg #[az ByteArray.empty,aw aB 0 0,ax ay 0,.bool false]).cells (l.length - i);obtain⟨k1,k2,k3,k4⟩:=h.trunc_ hi (zs:=(Builtin.zeroCells (Value.agg #[az ByteArray.empty,aw aB 0 0,ax ay 0,.bool false]).cells (l.length - i)).toList) hl;exact⟨_,hl,fun ty c=>uy w _ _ ty _ _ _ wj underlying24 z4a rfl (xH _ _ (by simp [Value.cells]) (by intro u hu;simp [Value.cells]at hu;rcases hu with rfl | rfl | rfl | rfl<;>rfl)) g _ c k3 k4,k1,k2⟩
end
def Xe (w:World) (g:Option Nat) (l:List BlobP) (f:FuncId) (x:Value) (p:BlobP->Bool):Prop :=
 (∀args W,(callFunc f args).run zZZ W= .ok (.enter f args) W)/\∀(b:BlobP) (B:ae) (cb:Nat) (W:World),b∈l->w.grownBy W g->Sl W 1 B b.data.length cb (bys b.data) ->
  Calls zZZ f #[.agg #[az ⟨b.dig.toArray⟩,aw B b.data.length cb,ax ay b.aM,.bool b.mark],x] W fun e w'=>e= .returned (.bool (p b))/\Below W.heap.size W w'
theorem U2 (base:Nat) (v:Value) (l:List BlobP) (N:ai) (f:FuncId) (x:Value) (p:BlobP->Bool) (w:World) (hl:l.length<=100000) (hx:RwX BlobS 88 w base v l N) (HC:Xe w v.ownBlock l f x p) :
  Calls zZZ 108 #[v,.func (.func f) #[] #[x]] w fun e w'=>∃v',e= .returned v'/\RwX BlobS 88 w' base v' (l.filter (fun b=> !p b)) N/\w.grownBy w' v.ownBlock/\v'.ownBlock=v.ownBlock:=by
 obtain⟨hce,hcc0⟩:=HC;have HCC:=sqH hcc0;clear hcc0;have hlen0:=hx.rwo.rows;obtain⟨A,cap,rfl,hlc,hcm,hrw⟩:=hlen0;have HI:=sqH (Qk A cap l f x p w wj hrw ⟨hce,fun b B cb W hb hbl hs=>HCC.o b B cb W hb ⟨hbl.os,hbl.tape,hbl.output,hbl.size,fun k hk _=>hbl.block k hk⟩ hs⟩);cases hf:l.findIdx? p with
 | none =>
  rw [hf]at HI;have hall:l.filter (fun b=> !p b)=l:=List.filter_eq_self.2 fun b hb=>by
   have:=List.findIdx?_eq_none_iff.1 hf b hb;rw [this];rfl
  have HALL:=sqH hall;have HX:=sqH hx;clear hall hf hx hrw;go_enter func108,ntmps108;go_wp2_with fail;refine wV HI.o fun w1 hb1=>?_;dsimp only;simp only [plc];go_wp2_with fail;go_ret;refine⟨_,rfl,by rw [HALL.o];exact HX.o.below hb1,⟨hb1.os,hb1.tape,hb1.output,hb1.size,fun k hk _=>hb1.block k hk⟩,rfl⟩
 | some i0 =>
  rw [hf]at HI;simp only [plc]at HI;obtain⟨hi0,hpi,hno⟩:=List.findIdx?_eq_some_iff_getElem.1 hf;have hkeep0:(l.take (i0+1)).filter (fun b=> !p b)=l.take i0:=by
   rw [List.take_succ_eq_append_getElem hi0,List.filter_append,List.filter_cons_of_neg (by rw [hpi];simp)];rw [List.filter_nil,List.append_nil];refine List.filter_eq_self.2 fun b hb=> ?_;obtain⟨k,hk,rfl⟩:=List.mem_iff_getElem.1 hb;rw [List.length_take]at hk;have:=hno k wj;rw [List.getElem_take];simpa using this
  obtain⟨g,cap',cs,e1,hbg,hA,hnc, -, -, -⟩:=yq (hx.own4) wj;injection e1 with e11 e12 e13;clear e12;subst e11 e13;have hgw:g<w.heap.size:=hA.lt;have HGW:=sqH hgw;have HK0:=sqH hkeep0;clear hkeep0 hno hf hA hrw hgw;have hw1:IntKind.i64.wrap ((i0:Int)+1)=(i0:Int)+1:=IntWalk.i64_in _ wj;have hm1:((i0:Int)== -1)=false:=by rw [beq_eq_false_iff_ne];omega
  go_enter func108,ntmps108;go_wp2_with fail;refine wV HI.o fun w1 hb1=>?_;dsimp only;have hx1:=hx.below hb1;have HG1:=sqH (show w.grownBy w1 (aC g) from⟨hb1.os,hb1.tape,hb1.output,hb1.size,fun k hk _=>hb1.block k hk⟩);clear hx hb1 HI;go_wp2_with fail;go_loopg [5,6] (l.length - (i0+1)) (fun gn u v wr=>∃(i j:Nat) (M:List BlobP),gn=l.length - j/\u= ax ay i/\v= ax ay j/\i<j/\j<=l.length/\M.length=l.length/\M.take i=(l.take j).filter (fun b=> !p b)/\M.drop j=l.drop j/\RwX BlobS 88 wr base (aw (aC ⟨g,0,aB⟩) l.length cap) M N/\w.grownBy wr (aC g))
  case atStart=>exact⟨i0,i0+1,l,rfl,rfl,by go_num,wj,wj,rfl,HK0.o.symm,rfl,hx1,HG1.o⟩
  case round =>
   clear hx1;obtain⟨i,j,M,hgk,rfl,rfl,hij,hj,hM,hMt,hMd,hxr,hgr⟩:=hrel;obtain⟨HGK,HML,HMT,HMD,HGR⟩:=sqJ5 hgk hM hMt hMd hgr;clear hgk hM hMt hMd hgr;by_cases hlt:j<l.length
   ·have hjj:decide (j<l.length)=true:=decide_eq_true hlt;have hMj:j<M.length:=by have:=HML.o;omega
    have eMj:M[j]=l[j]:=by
     have h1:=HMD.o;rw [List.drop_eq_getElem_cons hMj,List.drop_eq_getElem_cons hlt]at h1;injection h1
    rw [<-HML.o]at hxr;obtain⟨B,cb,d0,d1,d2,d3,hs,hld⟩:=hxr.at4B j hMj;rw [HML.o]at hxr;have hmem:l[j]∈l:=List.getElem_mem hlt;have hpt:(l.take (j+1)).filter (fun b=> !p b)=(l.take j).filter (fun b=> !p b)++(if p l[j] then [] else [l[j]]):=by
     rw [List.take_succ_eq_append_getElem hlt,List.filter_append]
     congr 1
     cases hp:p l[j] with
     | true=>rw [List.filter_cons_of_neg (by rw [hp];simp)];rfl
     | false=>rw [List.filter_cons_of_pos (by rw [hp];rfl)];rfl
    rw [eMj]at d0 d1 d2 d3 hs hld;have hMset:∀y,(M.set i y).drop (j+1)=l.drop (j+1):=fun y=>by
     rw [List.drop_set,if_pos wj];have h1:=HMD.o;rw [List.drop_eq_getElem_cons hMj,List.drop_eq_getElem_cons hlt]at h1;injection h1
    have hMs0:M.drop (j+1)=l.drop (j+1):=by
     have h1:=HMD.o;rw [List.drop_eq_getElem_cons hMj,List.drop_eq_getElem_cons hlt]at h1;injection h1
    have hMtk:∀y,(M.set i y).take (i+1)=M.take i++ [y]:=fun y=>by
     have hi:i<(M.set i y).length:=by rw [List.length_set];omega
     rw [List.take_succ_eq_append_getElem hi,List.getElem_set_self,List.take_set]
     congr 1
     rw [List.set_eq_of_length_le (by rw [List.length_take];omega)]
    obtain⟨HPT,HMS,HMS0,HMK,HMEM⟩:=sqJ5 hpt hMset hMs0 hMtk hmem;have hwj:IntKind.i64.wrap ((j:Int)+1)=(j:Int)+1:=IntWalk.i64_in _ wj;have hwi:IntKind.i64.wrap ((i:Int)+1)=(i:Int)+1:=IntWalk.i64_in _ wj;have HLD:=sqH hld;clear hpt hMset hMs0 hMtk hmem hld eMj;have hj0:=wX j
    have hj1:(j:Int)<(l.length:Int):=wj;have hi0':=wX i
    have hi1':(i:Int)<(l.length:Int):=wj;have hiM:i<M.length:=wj;have hgr2:(w.grownBy wr (aC g)):=HGR.o;have hgwr:g<wr.heap.size:=Nat.lt_of_lt_of_le HGW.o hgr2.size;generalize l[j]=bl at *
    have hbox:Arr (wr.alloc (aA #[az ⟨bl.dig.toArray⟩,aw B bl.data.length cb,ax ay bl.aM,.bool bl.mark] 88)) wr.heap.size 88 [az ⟨bl.dig.toArray⟩,aw B bl.data.length cb,ax ay bl.aM,.bool bl.mark]:=Arr.new wr 88 _;have hbA:=wi wr (aA #[az ⟨bl.dig.toArray⟩,aw B bl.data.length cb,ax ay bl.aM,.bool bl.mark] 88);have hsA:=hs.below hbA;have hxA:=hxr.below hbA;have hgA:w.grownBy (wr.alloc (aA #[az ⟨bl.dig.toArray⟩,aw B bl.data.length cb,ax ay bl.aM,.bool bl.mark] 88)) (aC g):=hgr2.trans ⟨hbA.os,hbA.tape,hbA.output,hbA.size,fun k hk _=>hbA.block k hk⟩;have hcl:=HCC.o bl B cb _ HMEM.o hgA hsA;obtain⟨k0,k1,k2,k3⟩:=sqC4 hbox;generalize hsd:(⟨bl.dig.toArray⟩:ByteArray)=sd at *
    have HSD:=sqH hsd;clear hsd hs hgr2 hxr;cases hp:p bl with
    | true =>
     rw [hp]at hcl;have HCL:=sqH hcl;have HPV:=sqH hp;clear hcl hp hsA hbox;go_wp2_with fail;clear d0 d1 d2 d3;generalize (wr.alloc (aA #[az sd,aw B bl.data.length cb,ax ay bl.aM,.bool bl.mark] 88))=wA at *
     refine wV HCL.o fun wB hbB=>?_;dsimp only;have hxB:=hxA.below hbB;have hgB:=hgA.trans (show wA.grownBy wB (aC g) from⟨hbB.os,hbB.tape,hbB.output,hbB.size,fun k hk _=>hbB.block k hk⟩);clear hxA hgA hbB k0 k1 k2 k3 hbA;go_wp2_with fail;go_roundg (l.length - (j+1))
     case measure=>exact wW HGK
     case rel=>exact⟨i,j+1,M,rfl,rfl,by go_num,wj,wj,HML.o,by rw [HPT.o,HPV.o,if_pos rfl,List.append_nil];exact HMT.o,HMS0.o,hxB,hgB⟩
    | false =>
     rw [hp]at hcl;obtain⟨HCL,HPV,HSA⟩:=sqJ3 hcl hp hsA;clear hcl hp hsA;go_wp2_with fail;clear d0 d1 d2 d3;generalize hgq:wr.heap.size=gq at *
     generalize (wr.alloc (aA #[az sd,aw B bl.data.length cb,ax ay bl.aM,.bool bl.mark] 88))=wA at *
     refine wV HCL.o fun wB hbB=>?_;dsimp only;have hxB:=hxA.below hbB;have hgB:=hgA.trans (show wA.grownBy wB (aC g) from⟨hbB.os,hbB.tape,hbB.output,hbB.size,fun k hk _=>hbB.block k hk⟩);have hboxB:=hbox.below hbB;have hsB:=HSA.o.below hbB;clear k0 k1 k2 k3;obtain⟨k0,k1,k2,k3⟩:=sqC4 hboxB;rw [<-HML.o]at hxB;obtain⟨cs,hAg,hcl4⟩:=hxB.arr4 wj;have hcl4:cs.length=cap*4:=hcl4;have q0:=hAg.cell (k:=i*4) (List.getElem?_eq_getElem wj);have q1:=hAg.cell (k:=i*4+1) (List.getElem?_eq_getElem wj);have q2:=hAg.cell (k:=i*4+2) (List.getElem?_eq_getElem wj);have q3:=hAg.cell (k:=i*4+3) (List.getElem?_eq_getElem wj);have p0:=hAg.frozen (i*4);have p1:=hAg.frozen (i*4+1);have p2:=hAg.frozen (i*4+2);have p3:=hAg.frozen (i*4+3);obtain⟨hx8,hg8⟩:=hxB.put4 (x:=bl) (u0:= az sd) (u1:= aw B bl.data.length cb) (u2:= ax ay bl.aM) (u3:= .bool bl.mark) rfl hiM ⟨B,cb,by rw [<-HSD.o];rfl,hsB⟩ HLD.o;have hg9:=hgB.trans hg8;rw [HML.o]at hx8;rw [put4]at hx8 hg9;clear hbox hboxB hxA hxB hgA hgB hbA hbB hAg hg8 HSA hsB;go_wp2_with fail;clear q0 q1 q2 q3 p0 p1 p2 p3 k0 k1 k2 k3;generalize ((((wB.setCell ⟨g,i*4,aB⟩ (az sd)).setCell ⟨g,i*4+1,aB⟩ (aw B bl.data.length cb)).setCell ⟨g,i*4+2,aB⟩ (ax ay bl.aM)).setCell ⟨g,i*4+3,aB⟩ (.bool bl.mark))=w8 at *
     go_roundg (l.length - (j+1))
     case measure=>exact wW HGK
     case rel=>exact⟨i+1,j+1,M.set i bl,rfl,by go_num,by go_num,wj,wj,by rw [List.length_set];exact HML.o,by rw [HPT.o,HPV.o,HMK.o,HMT.o];rfl,HMS.o _,hx8,hg9⟩
   ·obtain rfl:j=l.length:=by omega
    have hjj:decide (l.length<l.length)=false:=ws;have hMl:M.take i=l.filter (fun b=> !p b):=by rw [HMT.o,List.take_length]
    have hle:(l.filter (fun b=> !p b)).length=i:=by rw [<-hMl,List.length_take];have:=HML.o;omega
    rw [<-HML.o]at hxr;obtain⟨zs,hzz,hclr,hx9,hg9⟩:=hxr.truncB i (wW HML);rw [HML.o]at hclr;have hi0':=wX i
    have hi1':(i:Int)<=(l.length:Int):=wj;have hi2':(i:Int)<=(cap:Int):=wj;have hce:¬cap=i:=wj;obtain⟨HX9,HG9,HLE,HML2⟩:=sqJ4 hx9 (HGR.o.trans hg9) hle hMl;clear hx9 hg9 hxr hle hMl;go_wp2_with fail;go_ret;refine⟨_,rfl,?_,HG9.o,rfl⟩;have h1:=HX9.o;rw [HML2.o]at h1;exact h1
theorem zt {H:Nat} {u:Value} (h:w.grownBy W g) (hH:w.heap.size<=H):w.grownBy (W.setCell ⟨H,k,aB⟩ u) g :=
 ⟨h.os,h.tape,h.output,by simpa [World.setCell] using h.size,fun j hj hne=>(Below.heap_setCell W _ u j (fun e=>by have:j=H:=e;omega)).trans (h.block j hj hne)⟩
theorem kA (h:Below w.heap.size w W):w.grownBy W g:=⟨h.os,h.tape,h.output,h.size,fun k hk _=>h.block k hk⟩
theorem zQ (h:Below w.heap.size w W) (k:W.grownBy V g):w.grownBy V g:=(kA h).trans ⟨k.os,k.tape,k.output,k.size,k.block⟩
theorem zP (h:w.grownBy W g) (k:Below W.heap.size W V):w.grownBy V g:=h.trans (kA k)
theorem OwSt.mono {N':ai} (h:OwSt w base v1 v2 s N) (hN:∀b,N' b->N b):OwSt w base v1 v2 s N':=h.wider fun b hb=> .inl (hN b hb)
theorem OwSt.turnB {v1':Value} (h:OwSt w base v1 v2 s N) (hb:RwX BlobS 88 w' base v1' l (fun g=>N g\/v2.ownBlock=aC g)) (hg:w.grownBy w' v1.ownBlock) (ho:v1'.ownBlock=v1.ownBlock) :
  OwSt w' base v1' v2 { s with aE:=l } N :=
 ⟨hb,by rw [ho];exact h.e.other hg (fun b e1 e2=>h.ne b e1 e2) (fun b e=> .inr e),by rw [ho];exact h.ne⟩
theorem KK (w:World) (g:Option Nat) (gc:Nat) (AL:ae) (cL:Nat) (L:List ac) (l:List BlobP) (hgc:gc<w.heap.size) (hne:g≠aC gc) (hcell:w.cell? ⟨gc,0,aB⟩=aC (aw AL L.length cL)) (hL:L.length<=1000000) (hrd:Rd w 1 AL L.length (strs L)) (hna:∀a,AL=aC a->g≠aC a.block) :
  Xe w g l 109 (.pointer (aC ⟨gc,0,aB⟩)) (fun b=> !decide (b.dig∈L)):=by
 refine⟨fun _ _=>wm,fun b B cb W hb hgr hs=> ?_⟩;have hc:W.cell? ⟨gc,0,aB⟩=aC (aw AL L.length cL):=hgr.cell hcell (fun e=>hne e.symm);have hgW:gc<W.heap.size:=Nat.lt_of_lt_of_le hgc hgr.size;have hr:Rd W 1 AL L.length (strs L):=hrd.keepb hgr.size (fun k hk ⟨a,e1,e2⟩=>hgr.block k hk (fun e=>hna a e1 (by rw [e2];exact e.symm)));have hb1:=wi W (aA #[az ⟨b.dig.toArray⟩,aw B b.data.length cb,ax ay b.aM,.bool b.mark] 88);have hbox:Arr (W.alloc (aA #[az ⟨b.dig.toArray⟩,aw B b.data.length cb,ax ay b.aM,.bool b.mark] 88)) W.heap.size 88 [az ⟨b.dig.toArray⟩,aw B b.data.length cb,ax ay b.aM,.bool b.mark]:=Arr.new W 88 _;have hk1:(W.alloc (aA #[az ⟨b.dig.toArray⟩,aw B b.data.length cb,ax ay b.aM,.bool b.mark] 88)).cell? ⟨gc,0,aB⟩=aC (aw AL L.length cL):=(World.cell?_alloc_lt W _ ⟨gc,0,aB⟩ hgW).trans hc;have p0:=hbox.c0;have HCT:=sqH (YT AL cL L b.dig _ wj (hr.below hb1));dsimp only;generalize hdv:decide (b.dig∈L)=dv at *
 clear hr hc hrd hcell hbox;go_enter func109,ntmps109;go_wp2_with fail;refine HCT.o.mono ?_;rintro e_ wx ⟨rfl,rfl⟩;dsimp only;go_wp2_with fail;go_ret;exact⟨rfl,hb1⟩
theorem K8 (base:Nat) (v1 v2:Value) (s:StoP) (w:World) (N:ai) (hg:GoodS s) (ho:OwSt w base v1 v2 s N) :
  Calls zZZ 57 #[stV v1 v2 s] w fun e w'=>∃v1',e= .returned (stV v1' v2 (cln s))/\OwSt w' base v1' v2 (cln s) N/\w.grownBy w' v1.ownBlock/\v1'.ownBlock=v1.ownBlock:=by
 have hbl:=hg.b.len;have h41:∀b,v1.ownBlock=aC b->b<w.heap.size:=fun b e=>(ho.b.rwo.blk e).2;have h42:∀b,v2.ownBlock=aC b->b<w.heap.size:=fun b e=>(ho.e.rwo.blk e).2;obtain⟨A,c,B,d,e1,e2,hrd⟩:=ho.rows;have hr0:=hrd;subst e1 e2;obtain⟨w0,hw0,hS,hR,hb0⟩:=zY w 27 [aw A s.aE.length c,aw B s.aF.length d,ax ay s.aH,ax ay s.aG] [aw aB 0 0,aw aB 0 0,ax ay 0,ax ay 0];have HALL:=sqH (QT A B c d s (s.aH:Int) (s.aG:Int) w0 hg.rts (hrd.below hb0));have ho0:=(ho.wider (N':=fun b=>N b\/b=w.heap.size\/b=w.heap.size+1) (fun b hb=>hb.imp id (fun e=>wj))).below hb0;obtain⟨x0,x1,x2,x3⟩:=sqC4 hS;obtain⟨H,hH⟩:=wU w.heap.size
 rw [<-hH]at hS hR ho0 h41 h42;rw [hw0]at x0 x1 x2 x3;have HGR0:=sqH (show w.grownBy w0 (aw A s.aE.length c).ownBlock from kA hb0);have HHW:=sqH hH;clear hr0 hrd hb0 ho;go_enter func57,ntmps57;go_wp2_with fail;rw [<-hw0];clear hw0 x0 x1 x2 x3;rw [<-hH];clear hH;refine HALL.o.mono ?_;rintro e_ w2 ⟨v3,L,rfl,hL,hLl,ho3,hb2⟩;dsimp only;obtain⟨AL,cL,rfl,hcL,hrL⟩:=Rd.of_own' ho3;have hna:∀a,AL=aC a->w0.heap.size<=a.block:=fun a e=>by
  subst e;rcases ho3.2 with ⟨e,_⟩ | ⟨g,cap,cur,e,hb,_⟩
  ·cases e
  ·cases e;exact hb
 have HL:=sqH hL;have HRL:=sqH hrL;have hLn:L.length<=24:=wj;have hS2:=hS.below hb2;have hR2:=hR.below hb2;have ho2:=ho0.below hb2;have HGR2:=sqH (zP HGR0.o hb2);have hH2:H<w2.heap.size:=hS2.lt;have h02:w0.heap.size<=w2.heap.size:=hb2.size;have hsz0:H+1<w0.heap.size:=hR.lt;have hb3:=wi w2 (aA #[aw AL L.length cL] 28);have hA3:Arr (w2.alloc (aA #[aw AL L.length cL] 28)) w2.heap.size 28 [aw AL L.length cL]:=Arr.new w2 28 _;have hS3:=hS2.below hb3;have hR3:=hR2.below hb3;have ho3':=ho2.below hb3;have HT:=sqH (KK (w2.alloc (aA #[aw AL L.length cL] 28)) (aw A s.aE.length c).ownBlock w2.heap.size AL cL L s.aE hA3.lt (fun e=>by have:=h41 _ e;omega) (hA3.c0) wj (HRL.o.below hb3) (fun a e1 e2=>by have:=hna a e1;have:=h41 _ e2;omega));have HDF:=sqH (U2 base (aw A s.aE.length c) s.aE _ _ _ _ _ wj ho3'.b HT.o);have HGR3:=sqH (zP HGR2.o hb3);obtain⟨q0,q1,q2,q3⟩:=sqC4 hS2;obtain⟨p0,p1,p2,p3⟩:=sqC4 hS3;clear hS hR ho0 hb2 ho2 ho3 hL hrL hA3 hb3 hR2 hna;go_wp2_with fail;clear q0 q1 q2 q3 p0 p1 p2 p3 hS2;generalize (w2.alloc (aA #[aw AL L.length cL] 28))=w3 at *
 refine HDF.o.mono ?_;rintro e_ w4 ⟨v1',rfl,hx4,hg4,hob⟩;dsimp only;have hbk:s.aE.filter (fun b=> !(!decide (b.dig∈L)))=(cln s).aE:=by
  rw [<-UH HL.o];unfold z1h;refine List.filter_congr fun b hb=> ?_;rw [Bool.not_not]
 rw [hbk]at hx4;obtain⟨A',c',e1, -, -, -⟩:=hx4.rwo.rows;subst e1;have ho4:=ho3'.turnB hx4 hg4 hob;have hS3l:=hS3.lt;have hR3l:=hR3.lt;have hneH:∀k,(aw A s.aE.length c).ownBlock=aC k->k<H:=h41;have hS4:=hS3.grown hg4 (fun e=>by have:=h41 H e;omega);have hR4:=hR3.grown hg4 (fun e=>by have:=h41 (H+1) e;omega);have HGR4:=sqH (HGR3.o.trans hg4);have f0:=hS4.frozen 0;have y0:=hS4.c0;have hS5:=hS4.set (k:=0) ws (aw A' (cln s).aE.length c');have hR5:=hR4.other (g':=H) (k:=0) wj (aw A' (cln s).aE.length c');have hv1b:(aw A' (cln s).aE.length c').ownBlock≠aC H:=fun e=>by rw [hob]at e;have:=h41 H e;omega
 have hv1c:(aw A' (cln s).aE.length c').ownBlock≠aC (H+1):=fun e=>by rw [hob]at e;have:=h41 (H+1) e;omega
 have hv2b:(aw B s.aF.length d).ownBlock≠aC H:=fun e=>by have:=h42 H e;omega
 have hv2c:(aw B s.aF.length d).ownBlock≠aC (H+1):=fun e=>by have:=h42 (H+1) e;omega
 have ho5:=ho4.setX (g:=H) (k:=0) (.inr (.inl rfl)) hv1b hv2b (aw A' (cln s).aE.length c');have HGR5:=sqH (zt (H:=H) (k:=0) (u:=(aw A' (cln s).aE.length c')) HGR4.o (by rw [HHW.o];exact Nat.le_refl _));obtain⟨z0,z1,z2,z3⟩:=sqC4 hS5;obtain⟨r0,r1,r2,r3⟩:=sqF4 hR5;obtain⟨x0,x1,x2,x3⟩:=sqC4 hR5;have hfin:=hR5.all4 (aw A' (cln s).aE.length c') (aw B s.aF.length d) (ax ay s.aH) (ax ay s.aG);have ho6:=(((ho5.setX (g:=H+1) (k:=0) (.inr (.inr (by rw [HHW.o]))) hv1c hv2c (aw A' (cln s).aE.length c')).setX (g:=H+1) (k:=1) (.inr (.inr (by rw [HHW.o]))) hv1c hv2c (aw B s.aF.length d)).setX (g:=H+1) (k:=2) (.inr (.inr (by rw [HHW.o]))) hv1c hv2c (ax ay s.aH)).setX (g:=H+1) (k:=3) (.inr (.inr (by rw [HHW.o]))) hv1c hv2c (ax ay s.aG);obtain⟨HGR6,HOB,HO6⟩:=sqJ3 (zt (H:=H+1) (k:=3) (u:=(ax ay s.aG)) (zt (H:=H+1) (k:=2) (u:=(ax ay s.aH)) (zt (H:=H+1) (k:=1) (u:=(aw B s.aF.length d)) (zt (H:=H+1) (k:=0) (u:=(aw A' (cln s).aE.length c')) HGR5.o (by rw [HHW.o];omega)) (by rw [HHW.o];omega)) (by rw [HHW.o];omega)) (by rw [HHW.o];omega)) hob ho6;clear ho3' hx4 ho4 hg4 hS3 hR3 hS4 hR4 hS5 hR5 ho5 ho6 hob hbk hv1b hv1c hv2b hv2c hneH h41 h42;go_wp2_with fail;refine bodyPost_ret (results_cell_row rfl _ _ (H+1) _ _ _ _ wu hfin underlying27 rfl wm) rfl ?_;exact⟨(aw A' (cln s).aE.length c'),rfl,HO6.o.mono (fun b hb=> .inl hb),HGR6.o,HOB.o⟩
def uni (L:List ac):List ac:=srt (fun x=>x) (nub L)
theorem yG (L:List ac):Rises (uni L):=uB (f:=fun x=>x) (by rw [List.map_id'];exact ZR L)
theorem QO (L:List ac):StrL (uni L) (fun x=>x∈L):=by
 refine⟨(yG L).nodup,(yG L).imp fun {a b} h=> ?_,fun x=> ?_⟩
 ·rw [JJ];cases hb:Op.bytesLess b a with
  | false=>rfl
  | true=>have:=qj h hb;rw [yB]at this;cases this
 ·show x∈srt _ _↔_;rw [(q9 _ _).mem_iff,xP]
theorem yl {x:ac}:x∈uni L↔x∈L:=(QO L).mem x
theorem StrL.uni {p:List UInt8->Prop} (h:StrL M p) (hp:∀x,p x↔x∈L):M=uni L :=
 StrL.uniq h ⟨(QO L).nd,(QO L).le,fun x=>(yl).trans (hp x).symm⟩
theorem QN (L:List ac):(uni L).length<=L.length:=by
 have:∀l:List ac,(nub l).length<=l.length:=fun l=>by
  induction l with
  | nil=>exact Nat.le_refl _
  | cons x l ih =>
   rw [nub];split
   ·exact Nat.le_trans ih ws
   ·simpa using ih
 show(srt _ _).length<=_;rw [(q9 _ _).length_eq];exact this L
theorem Vr (h:Rises L):L.Pairwise (fun x y=>leB x y=true):=h.imp fun {a b} h=>by
 rw [JJ]
 cases hb:Op.bytesLess b a with
 | false=>rfl
 | true=>have:=qj h hb;rw [yB]at this;cases this
structure ColP where
 aJ:Nat
 aI:List ac
 at_:ac
def Jp (bl:List BlobP):List BlobP:=bl.map fun b=> { b with mark:=false }
def Xo (s:StoP):StoP:= { s with aE:=Jp s.aE }
def UE (s:StoP):ColP:=⟨1,uni (rts s), []⟩
def mkd (bl:List BlobP):List ac:=(bl.filter (·.mark)).map (·.dig)
theorem qD {x:ac}:x∈mkd bl↔∃b∈bl,b.mark=true/\b.dig=x:=by
 unfold mkd;rw [List.mem_map];constructor
 ·rintro⟨b,hb,e⟩;obtain⟨h1,h2⟩:=List.mem_filter.1 hb;exact⟨b,h1,h2,e⟩
 ·rintro⟨b,hb,h,e⟩;exact⟨b,List.mem_filter.2 ⟨hb,h⟩,e⟩
def zS (s:StoP) (c:ColP):StoP×ColP :=
 match c.aI with
 | []=>(s,⟨2, [], []⟩)
 | d::rest=>match s.aE.findIdx? (fun b=>b.dig==d) with
  | none=>(s,⟨1,rest, []⟩)
  | some i=>match s.aE[i]? with
   | none=>(s,⟨1,rest, []⟩)
   | some b=>if b.mark then (s,⟨1,rest, []⟩) else ({ s with aE:=s.aE.set i { b with mark:=true } },⟨1,uni (rest++(kw b.data).1.map (·.dig)), []⟩)
def k8 (s:StoP) (c:ColP):StoP×ColP×ac :=
 match s.aE.findIdx? (fun b=>Op.bytesLess c.at_ b.dig) with
 | none=>(s,⟨0, [], []⟩, [])
 | some i=>match s.aE[i]? with
  | none=>(s,⟨0, [], []⟩, [])
  | some b=>if b.mark then (s,⟨2, [],b.dig⟩, []) else ({ s with aE:=s.aE.eraseIdx i },⟨2, [],b.dig⟩,b.dig)
def zU (s:StoP) (c:ColP):StoP×ColP×ac:=if c.aJ=1 then ((zS s c).1,(zS s c).2, []) else k8 s c
def NoM (b:BlobP):ac×ac×Nat:=(b.dig,b.data,b.aM)
def EqM (l m:List BlobP):Prop:=l.map NoM=m.map NoM
theorem EqM.symm (h:EqM l m):EqM m l:=Eq.symm h
theorem EqM.trans {k:List BlobP} (h:EqM l m) (h':EqM m k):EqM l k:=Eq.trans h h'
theorem EqM.rfl_ (l:List BlobP):EqM l l:=rfl
theorem EqM.len (h:EqM l m):l.length=m.length:=by
 have:=congrArg List.length h;simpa using this
theorem EqM.at_ (h:EqM l m) (i:Nat) (h1:i<l.length) (h2:i<m.length):m[i].dig=l[i].dig/\m[i].data=l[i].data/\m[i].aM=l[i].aM:=by
 have h3:=congrArg (fun x=>x[i]?) h;simp only [List.getElem?_map,List.getElem?_eq_getElem h1,List.getElem?_eq_getElem h2,Option.map_some,Option.some.injEq,NoM,Prod.mk.injEq]at h3;exact⟨h3.1.symm,h3.2.1.symm,h3.2.2.symm⟩
theorem EqM.mem (h:EqM l m) {b:BlobP} (hb:b∈l):∃b'∈m,b'.dig=b.dig/\b'.data=b.data/\b'.aM=b.aM:=by
 obtain⟨i,hi,rfl⟩:=List.mem_iff_getElem.1 hb;have h2:i<m.length:=by rw [<-h.len];exact hi
 exact⟨m[i],List.getElem_mem h2,h.at_ i hi h2⟩
theorem EqM.cons {a b:BlobP} (h:EqM (a::l) (b::m)):(b.dig=a.dig/\b.data=a.data/\b.aM=a.aM)/\EqM l m:=by
 unfold EqM at h;simp only [List.map_cons,List.cons.injEq]at h;obtain⟨h1,h2⟩:=h;unfold NoM at h1;simp only [Prod.mk.injEq]at h1;exact⟨⟨h1.1.symm,h1.2.1.symm,h1.2.2.symm⟩,h2⟩
theorem XF {x:ac}:∀ {l m:List BlobP},EqM l m->m.findIdx? (fun b=>b.dig==x)=l.findIdx? (fun b=>b.dig==x)
 | [], [],_=>rfl
 | [],b::m,h=>by cases h
 | a::l, [],h=>by cases h
 | a::l,b::m,h=>by
  obtain⟨h1,h2⟩:=h.cons
  rw [List.findIdx?_cons,List.findIdx?_cons,h1.1,XF h2]
theorem Kc (h:EqM l m) (x:ac):kids m x=kids l x:=by
 unfold kids;rw [XF h];cases hf:l.findIdx? (fun b=>b.dig==x) with
 | none=>rfl
 | some i =>
  have hi:i<l.length:=(List.findIdx?_eq_some_iff_getElem.1 hf).1;have hi2:i<m.length:=by rw [<-h.len];exact hi
  simp only [List.getElem?_eq_getElem hi,List.getElem?_eq_getElem hi2];rw [(h.at_ i hi hi2).2.1]
theorem uf (h:EqM l m) {x:ac}:InB m x↔InB l x:=by
 constructor
 ·rintro⟨b,hb,e⟩;obtain⟨b',hb',e1,_⟩:=h.symm.mem hb;exact⟨b',hb',e1.trans e⟩
 ·rintro⟨b,hb,e⟩;obtain⟨b',hb',e1,_⟩:=h.mem hb;exact⟨b',hb',e1.trans e⟩
theorem Kd (h:EqM l m) {x:ac} (hx:Rch l ds x):Rch m ds x:=by
 induction hx with
 | root h1 h2=>exact .root h1 ((uf h).2 h2)
 | step h1 h2 h3 ih=>exact .step ih (by rw [Kc h];exact h2) ((uf h).2 h3)
theorem XG (h:EqM l m):Rch m ds=Rch l ds:=funext fun x=>propext ⟨Kd h.symm,Kd h⟩
theorem Ke:∀ {l m:List BlobP},EqM l m->uH m=uH l
 | [], [],_=>rfl
 | [],b::m,h=>by cases h
 | a::l, [],h=>by cases h
 | a::l,b::m,h=>by
  obtain⟨h1,h2⟩:=h.cons
  have ih:=Ke h2
  unfold uH at ih ⊢
  rw [List.filter_cons,List.filter_cons,h1.2.2]
  split
  ·rw [List.map_cons,List.map_cons,h1.1,ih]
  ·exact ih
theorem jR (h:EqM s.aE m):rts { s with aE:=m }=rts s:=by
 show ux s.aF++uH m=_;rw [Ke h];rfl
theorem z17 (h:EqM l m) (hr:RisesBy (·.dig) l):RisesBy (·.dig) m:=by
 have e:m.map (·.dig)=l.map (·.dig):=by
  have h3:=congrArg (List.map Prod.fst) h;simp only [List.map_map]at h3;exact h3.symm
 have:=List.pairwise_map.1 (e▸hr.map:Rises (m.map (·.dig)));exact this
theorem z18 (h:EqM l m):usd m=usd l:=by
 have h3:=congrArg (List.map fun x:ac×ac×Nat=>x.2.1.length) h;simp only [List.map_map]at h3;unfold usd;exact(congrArg List.sum h3).symm
theorem jQ (h:EqM s.aE m) (hg:GoodS s):GoodS { s with aE:=m } :=
 ⟨⟨by rw [<-h.len];exact hg.b.len,fun b hb=>by
   obtain⟨b',hb',e1,e2,e3⟩:=h.symm.mem hb
   have h1:=hg.b.one b' hb'
   unfold GoodB1 at h1 ⊢
   rw [<-e1,<-e2,<-e3];exact h1,z17 h hg.b.ris⟩,hg.e,hg.aH,by show usd m<=_;rw [z18 h];exact hg.used,hg.aG,fun x hx=>⟨(hg.ent x hx).1,fun p hp=>by
   obtain⟨b,hb,e1,e2⟩:=(hg.ent x hx).2 p hp
   obtain⟨b',hb',e3,e4,_⟩:=h.mem hb
   exact⟨b',hb',e3.trans e1,by rw [e4];exact e2⟩⟩⟩
theorem Kf (l:List BlobP):EqM l (Jp l):=by
 unfold EqM Jp;rw [List.map_map];rfl
theorem XH (hi:i<l.length) (k:Bool):EqM l (l.set i { l[i] with mark:=k }):=by
 unfold EqM;rw [List.map_set];have:NoM { l[i] with mark:=k }=(l.map NoM)[i]'(by simpa using hi):=by rw [List.getElem_map];rfl
 rw [this,List.set_getElem_self]
theorem z0z (b:ac) (h:(kw b).2≠0):(kw b).1= []:=by
 unfold kw at h ⊢
 split
 ·rfl
 rename_i h1;rw [if_neg h1]at h;split
 ·rfl
 rename_i h2;rw [if_neg h2]at h;split
 ·rfl
 rename_i h3;rw [if_neg h3]at h;split
 ·rfl
 rename_i h4;rw [if_neg h4]at h;split
 ·rfl
 rename_i h5;rw [if_neg h5]at h;split
 ·rfl
 rename_i h6;rw [if_neg h6]at h;split
 ·rfl
 rename_i h7;rw [if_neg h7]at h;exact absurd rfl h
theorem z0y (b:ac):(kw b).1= []\/(enc (kw b).1=b/\chk (kw b).1=0):=by
 by_cases h:(kw b).2=0
 ·right;have e:kw b=((kw b).1,0):=by rw [<-h]
  exact UK e
 ·exact .inl (z0z b h)
theorem z10 (b:ac):∀p∈(kw b).1,hexC p.dig=0:=fun p hp=>by
 rcases z0y b with h | h
 ·rw [h]at hp;cases hp
 ·exact((zk h.2).2 p hp).2.1
theorem UW {x y:ac} (h:y∈kids bl x):hexC y=0:=by
 unfold kids at h;cases hf:bl.findIdx? (fun b=>b.dig==x) with
 | none=>rw [hf]at h;cases h
 | some i =>
  rw [hf]at h;cases hb:bl[i]? with
  | none=>simp only [hb]at h;cases h
  | some b =>
   simp only [hb]at h;obtain⟨p,hp,rfl⟩:=List.mem_map.1 h;exact z10 b.data p hp
theorem z1q (hg:GoodS s) {x:ac} (h:x∈rts s):hexC x=0:=by
 rcases List.mem_append.1 h with h | h
 ·obtain⟨y,hy,h2⟩:=List.mem_flatMap.1 h;obtain⟨p,hp,rfl⟩:=List.mem_map.1 h2;exact((zk (hg.e.one y hy).2.1).2 p hp).2.1
 ·obtain⟨b,hb,rfl⟩:=List.mem_map.1 h;rw [(hg.b.one b (List.mem_filter.1 hb).1).1];exact zq _
structure GoodC (s:StoP) (c:ColP):Prop where
 ph:c.aJ<=2
 gh:∀d∈c.aI,hexC d=0
 ris:Rises c.aI
 ah:c.at_= []\/hexC c.at_=0
 g0:c.aJ≠1->c.aI= []
 a0:c.aJ≠2->c.at_= []
 mr:c.aJ=1->∀x∈rts s,InB s.aE x->x∈mkd s.aE\/x∈c.aI
 mb:c.aJ=1->∀b∈s.aE,b.mark=true->∀x∈kids s.aE b.dig,InB s.aE x->x∈mkd s.aE\/x∈c.aI
 sw:c.aJ=2->∀x,Rch s.aE (rts s) x->x∈mkd s.aE
theorem K4 (hg:GoodS s):GoodS (Xo s):=jQ (Kf s.aE) hg
theorem z0s (s:StoP):rts (Xo s)=rts s:=jR (Kf s.aE)
theorem Xp (hg:GoodS s):GoodC (Xo s) (UE s):=by
 refine⟨by show 1<=2;omega,fun d hd=>z1q hg (yl.1 hd),yG _,.inl rfl,fun h=>absurd rfl h,fun _=>rfl,fun _ x hx _=> .inr ?_,fun _ b hb hm=> ?_,fun h=>absurd h (by show ¬(1=2);omega)⟩
 ·rw [z0s]at hx;exact yl.2 hx
 ·exfalso;obtain⟨a,_,rfl⟩:=List.mem_map.1 hb;cases hm
theorem Y9 (hr:RisesBy (·.dig) s.aE) (h1:∀x∈rts s,InB s.aE x->x∈mkd s.aE) (h2:∀b∈s.aE,b.mark=true->∀x∈kids s.aE b.dig,InB s.aE x->x∈mkd s.aE):∀x,Rch s.aE (rts s) x->x∈mkd s.aE:=fun x hx=>by
 induction hx with
 | root h3 h4=>exact h1 _ h3 h4
 | step h3 h4 h5 ih =>
  obtain⟨b,hb,hm,rfl⟩:=qD.1 ih
  exact h2 b hb hm _ h4 h5
theorem z1j (hi:i<l.length) (x:ac):x∈mkd (l.set i { l[i] with mark:=true })↔x∈mkd l\/x=l[i].dig:=by
 rw [qD,qD];constructor
 ·rintro⟨b,hb,hm,rfl⟩;rcases List.mem_or_eq_of_mem_set hb with h | h
  ·exact .inl ⟨b,h,hm,rfl⟩
  ·subst h;exact .inr rfl
 ·rintro(⟨b,hb,hm,rfl⟩ | rfl)
  ·obtain⟨j,hj,rfl⟩:=List.mem_iff_getElem.1 hb;by_cases hij:i=j
   ·subst hij;exact⟨_,List.mem_iff_getElem.2 ⟨i,by simpa using hi,rfl⟩,ws,ws⟩
   ·exact⟨l[j],List.mem_iff_getElem.2 ⟨j,by simpa using hj,by rw [List.getElem_set_ne hij]⟩,hm,rfl⟩
  ·exact⟨_,List.mem_iff_getElem.2 ⟨i,by simpa using hi,rfl⟩,ws,ws⟩
theorem ky (s:StoP) (c:ColP):(c.aI= []/\zS s c=(s,⟨2, [], []⟩)) \/
  (∃d rest,c.aI=d::rest/\¬InB s.aE d/\zS s c=(s,⟨1,rest, []⟩)) \/
  (∃d rest i,∃hi:i<s.aE.length,c.aI=d::rest/\s.aE.findIdx? (fun b=>b.dig==d)=aC i/\s.aE[i].dig=d/\s.aE[i].mark=true/\zS s c=(s,⟨1,rest, []⟩)) \/
  (∃d rest i,∃hi:i<s.aE.length,c.aI=d::rest/\s.aE.findIdx? (fun b=>b.dig==d)=aC i/\s.aE[i].dig=d/\s.aE[i].mark=false/\zS s c=({ s with aE:=s.aE.set i { s.aE[i] with mark:=true } },⟨1,uni (rest++kids s.aE d), []⟩)):=by
 unfold zS;cases hc:c.aI with
 | nil=>exact .inl ⟨rfl,rfl⟩
 | cons d rest =>
  right;generalize hf:s.aE.findIdx? (fun b=>b.dig==d)=r;cases r with
  | none =>
   left;refine⟨d,rest,rfl,fun h=> ?_,by simp only [hf]⟩;rw [jW,hf]at h;cases h
  | some i =>
   right;obtain⟨hi,hd,_⟩:=List.findIdx?_eq_some_iff_getElem.1 hf;have hd':s.aE[i].dig=d:=by simpa using hd
   have hk:kids s.aE d=(kw s.aE[i].data).1.map (·.dig):=by
    unfold kids;simp only [hf,List.getElem?_eq_getElem hi]
   cases hm:s.aE[i].mark with
   | true =>
    left;refine⟨d,rest,i,hi,rfl,hf,hd',hm,?_⟩;simp only [hf,List.getElem?_eq_getElem hi,hm,if_true]
   | false =>
    right;refine⟨d,rest,i,hi,rfl,hf,hd',hm,?_⟩;rw [hk];simp only [hf,List.getElem?_eq_getElem hi,hm,Bool.false_eq_true,if_false]
theorem kE (s:StoP) (c:ColP):EqM s.aE (zS s c).1.aE/\(zS s c).1= { s with aE:=(zS s c).1.aE }:=by
 rcases ky s c with ⟨_,h⟩ | ⟨_,_,_,_,h⟩ | ⟨_,_,_,_,_,_,_,_,h⟩ | ⟨_,_,_,hi,_,_,_,_,h⟩
 ·rw [h];exact⟨rfl,rfl⟩
 ·rw [h];exact⟨rfl,rfl⟩
 ·rw [h];exact⟨rfl,rfl⟩
 ·rw [h];exact⟨XH hi true,rfl⟩
theorem Yl (c:ColP) (hg:GoodS s):GoodS (zS s c).1:=by
 rw [(kE s c).2];exact jQ (kE s c).1 hg
theorem V5 (s:StoP) (c:ColP):rts (zS s c).1=rts s:=by
 rw [(kE s c).2];exact jR (kE s c).1
theorem V4 (s:StoP) (c:ColP):Rch (zS s c).1.aE (rts (zS s c).1)=Rch s.aE (rts s):=by
 rw [V5];exact XG (kE s c).1
theorem QA {c:ColP} (hg:GoodS s) (hp:c.aJ=1) (h:GoodC s c):GoodC (zS s c).1 (zS s c).2:=by
 rcases ky s c with ⟨hc,e⟩ | ⟨d,rest,hc,hn,e⟩ | ⟨d,rest,i,hi,hc,_,hd,hm,e⟩ | ⟨d,rest,i,hi,hc,hf,hd,hm,e⟩
 ·rw [e];refine⟨Nat.le_refl _,(fun d hd=>by cases hd),List.Pairwise.nil,.inl rfl,fun _=>rfl,fun h=>absurd rfl h,fun h=>(by cases h),fun h=>(by cases h),fun _=> ?_⟩;refine Y9 hg.b.ris (fun x hx hb=> ?_) (fun b hb hm x hx hi=> ?_)
  ·rcases h.mr hp x hx hb with h1 | h1
   ·exact h1
   ·rw [hc]at h1;cases h1
  ·rcases h.mb hp b hb hm x hx hi with h1 | h1
   ·exact h1
   ·rw [hc]at h1;cases h1
 ·rw [e];have hr:=h.ris;have hgh:=h.gh;rw [hc]at hr hgh;have drop:∀x,InB s.aE x->(x∈mkd s.aE\/x∈c.aI)->x∈mkd s.aE\/x∈rest:=fun x hx hh=>hh.imp id fun h2=>by
   rw [hc]at h2;rcases List.mem_cons.1 h2 with rfl | h2
   ·exact absurd hx hn
   ·exact h2
  exact⟨by show 1<=2;omega,fun x hx=>hgh x (List.mem_cons_of_mem _ hx),(List.pairwise_cons.1 hr).2,.inl rfl,fun h=>absurd rfl h,fun _=>rfl,fun _ x hx hi=>drop x hi (h.mr hp x hx hi),fun _ b hb hm x hx hi=>drop x hi (h.mb hp b hb hm x hx hi),fun h=>by cases h⟩
 ·rw [e];have hr:=h.ris;have hgh:=h.gh;rw [hc]at hr hgh;have drop:∀x,InB s.aE x->(x∈mkd s.aE\/x∈c.aI)->x∈mkd s.aE\/x∈rest:=fun x hx hh=>by
   rcases hh with h2 | h2
   ·exact .inl h2
   ·rw [hc]at h2;rcases List.mem_cons.1 h2 with rfl | h2
    ·exact .inl (qD.2 ⟨_,List.getElem_mem hi,hm,hd⟩)
    ·exact .inr h2
  exact⟨by show 1<=2;omega,fun x hx=>hgh x (List.mem_cons_of_mem _ hx),(List.pairwise_cons.1 hr).2,.inl rfl,fun h=>absurd rfl h,fun _=>rfl,fun _ x hx hi=>drop x hi (h.mr hp x hx hi),fun _ b hb hm x hx hi=>drop x hi (h.mb hp b hb hm x hx hi),fun h=>by cases h⟩
 ·have e1:(zS s c).1= { s with aE:=s.aE.set i { s.aE[i] with mark:=true } }:=by rw [e]
  have e2:(zS s c).2=⟨1,uni (rest++kids s.aE d), []⟩:=by rw [e]
  have hE:EqM s.aE (s.aE.set i { s.aE[i] with mark:=true }):=XH hi true;rw [e1,e2];have hgh:=h.gh;rw [hc]at hgh;have keep:∀x,(x∈mkd s.aE\/x∈c.aI)->x∈mkd (s.aE.set i { s.aE[i] with mark:=true })\/x∈uni (rest++kids s.aE d):=fun x hh=>by
   rw [z1j hi,yl,List.mem_append];rcases hh with h2 | h2
   ·exact .inl (.inl h2)
   ·rw [hc]at h2;rcases List.mem_cons.1 h2 with rfl | h2
    ·exact .inl (.inr hd.symm)
    ·exact .inr (.inl h2)
  refine⟨by show 1<=2;omega,fun x hx=> ?_,yG _,.inl rfl,fun h=>absurd rfl h,fun _=>rfl,fun _ x hx hb=> ?_,fun _ b hb hmb x hx hbx=> ?_,fun h=>by cases h⟩
  ·rcases List.mem_append.1 (yl.1 hx) with h2 | h2
   ·exact hgh x (List.mem_cons_of_mem _ h2)
   ·exact UW h2
  ·rw [jR hE]at hx;exact keep x (h.mr hp x hx ((uf hE).1 hb))
  ·have hk:kids (s.aE.set i { s.aE[i] with mark:=true }) b.dig=kids s.aE b.dig:=Kc hE _;have hbx':=(uf hE).1 hbx;have hx':x∈kids s.aE b.dig:=by rw [<-hk];exact hx
   rcases List.mem_or_eq_of_mem_set hb with h2 | h2
   ·exact keep x (h.mb hp b h2 hmb x hx' hbx')
   ·subst h2;right;rw [yl,List.mem_append];have hx2:x∈kids s.aE s.aE[i].dig:=hx';rw [hd]at hx2;exact .inr hx2
theorem z25 (h:l.Sublist m):usd l<=usd m:=by
 induction h with
 | slnil=>exact Nat.le_refl _
 | cons a _ ih=>unfold usd at *;simp only [List.map_cons,List.sum_cons];omega
 | cons_cons a _ ih=>unfold usd at *;simp only [List.map_cons,List.sum_cons];omega
theorem yX (hr:RisesBy (·.dig) l) (i:Nat):RisesBy (·.dig) (l.eraseIdx i):=List.Pairwise.sublist (List.eraseIdx_sublist _ _) hr
theorem ZC (hr:RisesBy (·.dig) l) (hi:i<l.length) {b:BlobP} (hb:b∈l):b=l[i]\/b∈l.eraseIdx i:=by
 obtain⟨j,hj,rfl⟩:=List.mem_iff_getElem.1 hb;by_cases h:j=i
 ·subst h;exact .inl rfl
 ·right;rw [List.mem_eraseIdx_iff_getElem];exact⟨j,hj,h,rfl⟩
theorem kY (s:StoP) (c:ColP):(s.aE.findIdx? (fun b=>Op.bytesLess c.at_ b.dig)=aB/\k8 s c=(s,⟨0, [], []⟩, [])) \/
  (∃i,∃hi:i<s.aE.length,s.aE.findIdx? (fun b=>Op.bytesLess c.at_ b.dig)=aC i/\s.aE[i].mark=true/\k8 s c=(s,⟨2, [],s.aE[i].dig⟩, [])) \/
  (∃i,∃hi:i<s.aE.length,s.aE.findIdx? (fun b=>Op.bytesLess c.at_ b.dig)=aC i/\s.aE[i].mark=false/\k8 s c=({ s with aE:=s.aE.eraseIdx i },⟨2, [],s.aE[i].dig⟩,s.aE[i].dig)):=by
 unfold k8;cases hf:s.aE.findIdx? (fun b=>Op.bytesLess c.at_ b.dig) with
 | none=>exact .inl ⟨rfl,by simp only [hf]⟩
 | some i =>
  right;obtain⟨hi,hd,_⟩:=List.findIdx?_eq_some_iff_getElem.1 hf;cases hm:s.aE[i].mark with
  | true=>exact .inl ⟨i,hi,rfl,hm,by simp only [hf,List.getElem?_eq_getElem hi,hm,if_true]⟩
  | false=>exact .inr ⟨i,hi,rfl,hm,by simp only [hf,List.getElem?_eq_getElem hi,hm,Bool.false_eq_true,if_false]⟩
section
variable {s:StoP} {i:Nat}
theorem Kl (hg:GoodS s) (hi:i<s.aE.length) (hm:s.aE[i].mark=false) (hsw:∀x,Rch s.aE (rts s) x->x∈mkd s.aE):¬Rch s.aE (rts s) s.aE[i].dig:=fun h=>by
 obtain⟨b,hb,hmb,e⟩:=qD.1 (hsw _ h)
 have:=hg.b.ris.inj hb (List.getElem_mem hi) e
 subst this
 rw [hm]at hmb;cases hmb
theorem ZO (hg:GoodS s) (hi:i<s.aE.length) (hn:¬Rch s.aE (rts s) s.aE[i].dig):s.aE[i].aM=0:=by
 rcases Nat.eq_zero_or_pos s.aE[i].aM with h | h
 ·exact h
 ·exact absurd (.root (z1r (List.getElem_mem hi) h) ⟨_,List.getElem_mem hi,rfl⟩) hn
theorem V3 (hi:i<s.aE.length) (hp:s.aE[i].aM=0):uH (s.aE.eraseIdx i)=uH s.aE:=by
 unfold uH;rw [yC s.aE i hi (by simp [hp])]
theorem J5 (hi:i<s.aE.length) (hp:s.aE[i].aM=0):rts { s with aE:=s.aE.eraseIdx i }=rts s:=by
 show ux s.aF++uH (s.aE.eraseIdx i)=_;rw [V3 hi hp];rfl
theorem J0 (hg:GoodS s) (hi:i<s.aE.length) {x:ac} (hx:InB s.aE x) (hne:x≠s.aE[i].dig):InB (s.aE.eraseIdx i) x:=by
 obtain⟨b,hb,rfl⟩:=hx;rcases ZC hg.b.ris hi hb with h | h
 ·subst h;exact absurd rfl hne
 ·exact⟨b,h,rfl⟩
theorem Km (hg:GoodS s) (hi:i<s.aE.length) (hn:¬Rch s.aE (rts s) s.aE[i].dig):Rch (s.aE.eraseIdx i) (rts { s with aE:=s.aE.eraseIdx i })=Rch s.aE (rts s):=by
 rw [J5 hi (ZO hg hi hn)];refine funext fun x=>propext ⟨fun h=>h.sub hg.b.ris (yX hg.b.ris i) (ug _ _) (fun _ h=>h),fun h=>h.keepb hg.b.ris (yX hg.b.ris i) (ug _ _) (fun _ h=>h) (fun y hy=>J0 hg hi hy.inB (fun e=>hn (e▸hy)))⟩
theorem ZN (hg:GoodS s) (hi:i<s.aE.length) (hn:¬Rch s.aE (rts s) s.aE[i].dig):GoodS { s with aE:=s.aE.eraseIdx i }:=by
 refine⟨⟨Nat.le_trans (List.eraseIdx_sublist _ _).length_le hg.b.len,fun b hb=>hg.b.one b (ug _ _ b hb),yX hg.b.ris i⟩,hg.e,hg.aH,Nat.le_trans ?_ hg.used,hg.aG,fun x hx=>⟨(hg.ent x hx).1,fun p hp=> ?_⟩⟩
 ·show usd (s.aE.eraseIdx i)<=usd s.aE;exact z25 (List.eraseIdx_sublist s.aE i)
 ·obtain⟨b,hb,e1,e2⟩:=(hg.ent x hx).2 p hp;rcases ZC hg.b.ris hi hb with h | h
  ·subst h;exact absurd (.root (by rw [e1];exact Kz hx hp) ⟨_,hb,rfl⟩) hn
  ·exact⟨b,h,e1,e2⟩
theorem J2 (hi:i<s.aE.length) (hm:s.aE[i].mark=false):mkd (s.aE.eraseIdx i)=mkd s.aE:=by
 unfold mkd;rw [yC s.aE i hi hm]
end
theorem Yu {c:ColP} (hg:GoodS s) (hp:c.aJ=2) (h:GoodC s c):GoodS (k8 s c).1/\GoodC (k8 s c).1 (k8 s c).2.1/\Rch (k8 s c).1.aE (rts (k8 s c).1)=Rch s.aE (rts s)/\(k8 s c).1.aF=s.aF/\(k8 s c).1.aH=s.aH/\(k8 s c).1.aG=s.aG:=by
 rcases kY s c with ⟨_,e⟩ | ⟨i,hi,_,hm,e⟩ | ⟨i,hi,_,hm,e⟩
 ·rw [e];exact⟨hg,⟨by show 0<=2;omega,(fun d hd=>by cases hd),List.Pairwise.nil,.inl rfl,fun _=>rfl,fun _=>rfl,fun h=>(by cases h),fun h=>(by cases h),fun h=>by cases h⟩,rfl,rfl,rfl,rfl⟩
 ·rw [e];exact⟨hg,⟨Nat.le_refl _,(fun d hd=>by cases hd),List.Pairwise.nil,.inr (by show hexC s.aE[i].dig=0;rw [(hg.b.one _ (List.getElem_mem hi)).1];exact zq _),fun _=>rfl,fun h=>absurd rfl h,fun h=>(by cases h),fun h=>(by cases h),fun _=>h.sw hp⟩,rfl,rfl,rfl,rfl⟩
 ·have hn:=Kl hg hi hm (h.sw hp);rw [e];refine⟨ZN hg hi hn,⟨Nat.le_refl _,(fun d hd=>by cases hd),List.Pairwise.nil,.inr (by show hexC s.aE[i].dig=0;rw [(hg.b.one _ (List.getElem_mem hi)).1];exact zq _),fun _=>rfl,fun h=>absurd rfl h,fun h=>(by cases h),fun h=>(by cases h),fun _ x hx=> ?_⟩,Km hg hi hn,rfl,rfl,rfl⟩;show x∈mkd (s.aE.eraseIdx i);rw [J2 hi hm];exact h.sw hp x (by rw [<-Km hg hi hn];exact hx)
def unm (bl:List BlobP):Nat:=(bl.filter (fun b=> !b.mark)).length
theorem z3z (bl:List BlobP):unm bl<=bl.length:=List.length_filter_le _ _
theorem xm {p:BlobP->Bool}:∀ {l:List BlobP} {i:Nat} {y:BlobP} (hi:i<l.length),p l[i]=true->p y=false->((l.set i y).filter p).length+1=(l.filter p).length
 | x::l,0,y,_,h1,h2=>by
  rw [List.set_cons_zero,List.filter_cons_of_neg (by simp [h2]),List.filter_cons_of_pos (by simpa using h1)];rfl
 | x::l,i+1,y,hi,h1,h2=>by
  have ih:=xm (l:=l) (i:=i) (y:=y) (by simpa using hi) (by simpa using h1) h2
  rw [List.set_cons_succ]
  by_cases hx:p x=true
  ·rw [List.filter_cons_of_pos hx,List.filter_cons_of_pos hx,List.length_cons,List.length_cons,ih]
  ·rw [List.filter_cons_of_neg hx,List.filter_cons_of_neg hx,ih]
def X1 (k:Nat) (bl:List BlobP):Prop:=∀b∈bl,(kw b.data).1.length<=k
theorem UX (bl:List BlobP):X1 8 bl:=fun b _=>yJ b.data
theorem UY (h:X1 k bl) (x:ac):(kids bl x).length<=k:=by
 unfold kids;cases hf:bl.findIdx? (fun b=>b.dig==x) with
 | none=>exact Nat.zero_le _
 | some i =>
  have hi:i<bl.length:=(List.findIdx?_eq_some_iff_getElem.1 hf).1;simp only [List.getElem?_eq_getElem hi,List.length_map];exact h _ (List.getElem_mem hi)
theorem Ym {c:ColP} (hk:X1 k s.aE) (h:(zS s c).2.aJ=1):k*unm (zS s c).1.aE+(zS s c).2.aI.length+1<=k*unm s.aE+c.aI.length:=by
 rcases ky s c with ⟨_,e⟩ | ⟨d,rest,hc,_,e⟩ | ⟨d,rest,i,hi,hc,_,_,_,e⟩ | ⟨d,rest,i,hi,hc,_,hd,hm,e⟩
 ·rw [e]at h;cases h
 ·rw [e,hc];simp only [List.length_cons];omega
 ·rw [e,hc];simp only [List.length_cons];omega
 ·rw [e,hc];have h1:=xm (p:=fun b=> !b.mark) (y:= { s.aE[i] with mark:=true }) hi (by simp [hm]) ws;have h2:=QN (rest++kids s.aE d);have h3:=UY hk d;rw [List.length_append]at h2;show k*unm (s.aE.set i _)+(uni (rest++kids s.aE d)).length+1<=k*unm s.aE+(d::rest).length;have h4:unm s.aE=unm (s.aE.set i { s.aE[i] with mark:=true })+1:=by unfold unm;exact h1.symm
  rw [h4,Nat.mul_add,Nat.mul_one,List.length_cons];omega
theorem J6 (s:StoP) (c:ColP):(zS s c).2.aJ=1\/(zS s c).2=⟨2, [], []⟩:=by
 rcases ky s c with ⟨_,e⟩ | ⟨_,_,_,_,e⟩ | ⟨_,_,_,_,_,_,_,_,e⟩ | ⟨_,_,_,_,_,_,_,_,e⟩
 ·rw [e];exact .inr rfl
 ·rw [e];exact .inl rfl
 ·rw [e];exact .inl rfl
 ·rw [e];exact .inl rfl
def ahead (a:ac) (bl:List BlobP):Nat:=(bl.filter (fun b=>Op.bytesLess a b.dig)).length
theorem Q5 {c:ColP} (hg:GoodS s) (hc:GoodC s c) (hp:c.aJ=1\/c.aJ=2):GoodS (zU s c).1/\GoodC (zU s c).1 (zU s c).2.1/\Rch (zU s c).1.aE (rts (zU s c).1)=Rch s.aE (rts s)/\(zU s c).1.aF=s.aF/\(zU s c).1.aH=s.aH/\(zU s c).1.aG=s.aG:=by
 unfold zU;rcases hp with hp | hp
 ·rw [if_pos hp];have e:=(kE s c).2;refine⟨Yl c hg,QA hg hp hc,V4 s c,?_,?_,?_⟩<;>(show _=_;rw [e])
 ·rw [if_neg wj];exact Yu hg hp hc
end Go.Proofs.YtcjndgldjhmbgaaGreat
