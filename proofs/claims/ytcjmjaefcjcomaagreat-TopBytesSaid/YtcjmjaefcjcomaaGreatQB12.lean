/- Lemmas, as stated. -/
import Derived.Sort.KeysCollected
import Derived.Sort.OwnSorted
import Derived.Lib.SlicesCompact
import Derived.Lib.RowBridge
import Derived.Shelf.SlIter.Nil
import Derived.Shelf.SortM.Plain
import Derived.Shelf.SortM.SortNone
import Derived.Ground.GgzProg
import Derived.Ground.SlgmProg
import Derived.Test.YtcjmjaefcjcomaaGreatProg
import Derived.Maps.OwnSet
import Derived.Carry
import Derived.Test.YtcjmjaefcjcomaaGreatQB11
set_option linter.unusedVariables false
set_option linter.unusedSimpArgs false
set_option maxRecDepth 100000
set_option maxHeartbeats 8000000
open Go.Proofs.Tryz
open Go.Proofs.Tryz renaming prog->zZZ
open Go.Value renaming slice->aA,int->aB,string->aD
open Option renaming some->aG
open Go.IntKind renaming i64->aC
open Go.Obj renaming cells->aE
namespace Go.Proofs.YtcjmjaefcjcomaaGreat
open Go.RowKit
variable {p:List UInt8->Prop} {L:List ai} {a b:ai}
def strs (L:List ai):ak:=L.map fun s=> aD ⟨s.toArray⟩
theorem kL (L:List ai) (k:Nat) (h:k<L.length):(strs L)[k]?=some (aD ⟨L[k].toArray⟩):=by
 rw [strs,List.getElem?_map,List.getElem?_eq_getElem h];rfl
structure StrL (L:List ai) (p:List UInt8->Prop):Prop where
 nd:L.Nodup
 le:L.Pairwise (fun x y=>leB x y=true)
 mem:∀x,x∈L↔p x
theorem StrL.uniq {L':List ai} (h:StrL L p) (h':StrL L' p):L=L':=by
 have hp:L.Perm L':=(List.perm_ext_iff_of_nodup h.nd h'.nd).2 fun x=>by rw [h.mem,h'.mem]
 refine List.Perm.eq_of_pairwise (le:=fun a b=>leB a b=true) (fun a b _ _ h1 h2=> ?_) h.le h'.le hp;simp only [leB,decide_eq_true_eq]at h1 h2;exact List.le_antisymm h1 h2
def nub:List ai->List ai
 | []=> []
 | x::l=>if x∈l then nub l else x::nub l
theorem xW (x:ai):∀l,x∈nub l↔x∈l
 | []=>Iff.rfl
 | y::l=>by
  rw [nub]
  split
  ·rename_i h
   rw [xW x l,List.mem_cons]
   exact⟨.inr,fun h2=>h2.elim (fun e=>e▸h) id⟩
  ·rw [List.mem_cons,xW x l,List.mem_cons]
theorem ZO:∀l,(nub l).Nodup
 | []=>List.nodup_nil
 | y::l=>by
  rw [nub]
  split
  ·exact ZO l
  ·rename_i h
   exact List.nodup_cons.2 ⟨fun h2=>h ((xW y l).1 h2),ZO l⟩
theorem JP (x y:ai):leB x y= !Op.bytesLess y x:=by
 rw [Yc];show decide (x<=y)=_;by_cases h:y<x
 ·rw [decide_eq_true h,decide_eq_false (by rw [List.not_le];exact h)];rfl
 ·rw [decide_eq_false h,decide_eq_true (List.not_lt.1 h)];rfl
theorem YQ (A:aj) (c:Nat) (L:List ai) (d:ai) (w:World) (hl:L.length<=1000000000) (hr:Rd w 1 A L.length (strs L)) :
  Calls zZZ 152 #[aA A L.length c,aD ⟨d.toArray⟩] w fun e w'=>e= .returned (.bool (decide (d∈L)))/\w'=w:=by
 rcases Nat.eq_zero_or_pos L.length with h0 | h0
 ·obtain rfl:L= []:=List.eq_nil_of_length_eq_zero h0;exact(Tryz.slices_Contains_string_empty A c ⟨d.toArray⟩ w).mono fun e w' ⟨h1,h2⟩=>⟨by rw [h1];simp,h2⟩
 ·obtain⟨b,off,rfl,_,hc⟩:=hr.2 h0;have hz:(L.map fun s=>(⟨s.toArray⟩:ByteArray)).length=L.length:=List.length_map _;refine(Tryz.slices_Contains_string b off L.length c (L.map fun s=>⟨s.toArray⟩) ⟨d.toArray⟩ w (by rw [hz];exact Nat.le_refl _) wu (fun j hj=> ?_)).mono ?_
  ·have hj':j<L.length:=wu
   rw [hc j _ (kL L j hj')];simp [List.getD,List.getElem?_map,List.getElem?_eq_getElem hj']
  ·rintro e w' ⟨rfl,rfl⟩;refine⟨?_,rfl⟩
   congr 2
   rw [<-hz,List.take_length];by_cases hm:d∈L
   ·rw [decide_eq_true hm,Lib.containsS_iff];exact List.mem_map.2 ⟨d,hm,rfl⟩
   ·rw [decide_eq_false hm,<-Bool.not_eq_true,Lib.containsS_iff];intro h;obtain⟨x,hx,e⟩:=List.mem_map.1 h;exact hm (by rw [<-z2b.1 e];exact hx)
theorem z38 (A B:aj) (c d:Nat) (L M:List ai) (w:World) (hl:L.length<=1000000000) (hm:M.length<=1000000000) (hr:Rd w 1 A L.length (strs L)) (hr2:Rd w 1 B M.length (strs M)) :
  Calls zZZ 31 #[aA A L.length c,aA B M.length d] w fun e w'=>e= .returned (.bool (decide (L=M)))/\Below w.heap.size w w':=by
 by_cases hlm:L.length=M.length
 rotate_left
 ·refine(Tryz.slices_Equal_string_lens A B L.length c M.length d w hlm).mono ?_;rintro e w' ⟨rfl,rfl⟩;exact⟨by rw [decide_eq_false (fun h=>hlm (by rw [h]))],Below.refl _ _⟩
 rcases Nat.eq_zero_or_pos L.length with h0 | h0
 ·obtain rfl:L= []:=List.eq_nil_of_length_eq_zero h0;obtain rfl:M= []:=List.eq_nil_of_length_eq_zero (by rw [<-hlm];rfl);refine(Tryz.slices_Equal_string_empty A B c 0 d w wu).mono ?_;rintro e w' ⟨rfl,rfl⟩;exact⟨rfl,Below.refl _ _⟩
 ·obtain⟨b,off,rfl,_,hc⟩:=hr.2 h0;obtain⟨b2,off2,rfl,_,hc2⟩:=hr2.2 wu;have hz:(L.map fun s=>(⟨s.toArray⟩:ByteArray)).length=L.length:=List.length_map _;have hz2:(M.map fun s=>(⟨s.toArray⟩:ByteArray)).length=M.length:=List.length_map _;refine(Tryz.slices_Equal_string b off L.length c b2 off2 M.length d (L.map fun s=>⟨s.toArray⟩) (M.map fun s=>⟨s.toArray⟩) w wu wu wu wu (fun j hj=> ?_) (fun j hj=> ?_)).mono ?_
  ·have hj':j<L.length:=wu
   rw [hc j _ (kL L j hj')];simp [List.getD,List.getElem?_map,List.getElem?_eq_getElem hj']
  ·have hj':j<M.length:=wu
   rw [hc2 j _ (kL M j hj')];simp [List.getD,List.getElem?_map,List.getElem?_eq_getElem hj']
  ·rintro e w' ⟨rfl,q,rfl⟩;refine⟨?_,zO (Below.refl _ _) q⟩
   congr 2
   rw [List.take_of_length_le wu,List.take_of_length_le wu];by_cases h:L=M
   ·subst h;simp
   ·rw [decide_eq_false h,decide_eq_false];intro h2;refine h ?_;have h3:=congrArg (fun l:List ByteArray=>l.map fun s=>s.data.toList) h2;simpa [List.map_map,Function.comp_def] using h3
open Go.Sort
theorem j5:El zZZ 39 9 1 16:=El.mk' (z:= aD ByteArray.empty) underlying39 ww rfl wu wu
theorem Z5 (L:List ai):∀u∈strs L,u.oneCell'=true:=by
 intro u hu;obtain⟨s,_,rfl⟩:=List.mem_map.1 hu;rfl
theorem vN (L M:List ai):strs (L++M)=strs L++strs M:=by simp [strs]
theorem V0 {c:ai} (h1:leB a b=true) (h2:leB b c=true):leB a c=true:=by simp only [leB,decide_eq_true_eq] at *;exact List.le_trans h1 h2
theorem J2 (h1:leB a b=true) (h2:leB b a=true):a=b:=by simp only [leB,decide_eq_true_eq] at *;exact List.le_antisymm h1 h2
theorem VB (L:List ai):(L.mergeSort leB).Pairwise (fun x y=>leB x y=true):=by
 have to:∀a b:ai,(leB a b||leB b a)=true:=fun a b=>by simp only [leB,Bool.or_eq_true,decide_eq_true_eq];exact List.le_total a b
 have tr:∀a b c:ai,leB a b=true->leB b c=true->leB a c=true:=fun a b c h1 h2=>V0 h1 h2;exact List.pairwise_mergeSort tr to L
theorem uX (d:Array (ai)) (hp:∀i j,i<j->j<d.size->leB d[i]! d[j]! = true):∀m,m<=d.size ->
  (∀x,x∈Lib.compactUpTo d m↔∃j,j<m/\d[j]! = x)/\(Lib.compactUpTo d m).Pairwise (fun x y=>leB x y=true)/\(Lib.compactUpTo d m).Nodup
 | 0,_=>⟨fun x=>by simp [Lib.compactUpTo],by simp [Lib.compactUpTo],by simp [Lib.compactUpTo]⟩
 | m+1,hm=>by
  obtain⟨h1,h2,h3⟩:=uX d hp m wu
  rw [Lib.compactUpTo_succ]
  cases hk:Lib.keeps d m with
  | false =>
   rw [if_neg ab,List.append_nil]
   refine⟨fun x=> ?_,h2,h3⟩
   rw [h1]
   constructor
   ·rintro⟨j,hj,e⟩;exact⟨j,wu,e⟩
   ·rintro⟨j,hj,e⟩
    by_cases hjm:j=m
    ·subst hjm
     have:¬(j=0\/d[j]! ≠ d[j - 1]!):=by simpa [Lib.keeps] using hk
     have h0:j≠0:=fun h=>this (.inl h)
     have he:d[j]! = d[j - 1]! := Classical.not_not.1 fun h=>this (.inr h)
     exact⟨j - 1,wu,by rw [<-he];exact e⟩
    ·exact⟨j,wu,e⟩
  | true =>
   rw [if_pos rfl]
   have hlt:∀x∈Lib.compactUpTo d m,leB x d[m]! = true/\x≠d[m]! := fun x hx=>by
    obtain⟨j,hj,rfl⟩:=(h1 x).1 hx
    refine⟨hp j m hj wu,fun e=> ?_⟩
    have hkk:m=0\/d[m]! ≠ d[m - 1]! := by simpa [Lib.keeps] using hk
    rcases hkk with h | h
    ·omega
    ·refine h (J2 ?_ (hp (m - 1) m wu wu))
     rw [<-e]
     rcases Nat.lt_or_ge j (m - 1) with hj2 | hj2
     ·exact hp j (m - 1) hj2 wu
     ·have:j=m - 1:=by omega
      rw [this];simp [leB]
   refine⟨fun x=> ?_,?_,?_⟩
   ·rw [List.mem_append,h1,List.mem_singleton]
    constructor
    ·rintro(⟨j,hj,e⟩ | rfl)
     ·exact⟨j,wu,e⟩
     ·exact⟨m,wu,rfl⟩
    ·rintro⟨j,hj,e⟩
     by_cases hjm:j=m
     ·subst hjm;exact .inr e.symm
     ·exact .inl ⟨j,wu,e⟩
   ·exact List.pairwise_append.2 ⟨h2,List.pairwise_singleton _ _,fun x hx y hy=>by rw [List.mem_singleton.1 hy];exact(hlt x hx).1⟩
   ·exact List.nodup_append.2 ⟨h3,ab,fun x hx y hy=>by rw [List.mem_singleton.1 hy];exact(hlt x hx).2⟩
theorem Zp (hp:L.Pairwise (fun x y=>leB x y=true)):StrL (Lib.compact L) (fun x=>x∈L):=by
 have hsz:L.toArray.size=L.length:=ab;obtain⟨h1,h2,h3⟩:=uX L.toArray (fun i j hij hj=>by
  have hj':j<L.length:=by simpa using hj
  have:=List.pairwise_iff_getElem.1 hp i j wu hj' hij;simpa [getElem!_pos,hj',show i<L.length by omega] using this) L.length ab
 refine⟨h3,h2,fun x=> ?_⟩;show x∈Lib.compactUpTo L.toArray L.length↔_;rw [h1];constructor
 ·rintro⟨j,hj,rfl⟩;simp [getElem!_pos,hj]
 ·intro hx;obtain⟨j,hj,rfl⟩:=List.mem_iff_getElem.1 hx;exact⟨j,hj,by simp [getElem!_pos,hj]⟩
theorem StrL.len {N:List ai} (h:StrL L p) (hn:N.Nodup) (hm:∀x,x∈N↔p x):L.length=N.length :=
 ((List.perm_ext_iff_of_nodup h.nd hn).2 fun x=>by rw [h.mem,hm]).length_eq
theorem Us (base:Nat) (v:Value) (L:List ai) (w:World) (hl:L.length<=1000000000) (h:w.ownsRow base 9 1 v L.length (strs L)) :
  Calls zZZ 160 #[v] w fun e w'=>e= .returned (.tuple #[])/\w'.ownsRow base 9 1 v L.length (strs (L.mergeSort leB))/\w.grownBy w' v.ownBlock:=by
 rcases h.2 with ⟨rfl,h0⟩ | ⟨g,cap,cur,rfl,hbase,hb,h1,h2,h3,h4⟩
 ·have hL:L= []:=List.eq_nil_of_length_eq_zero h0;subst hL;refine(Tryz.slices_Sort_string_none none 0 w).mono ?_;rintro e w' ⟨rfl,rfl⟩;exact⟨rfl,by rw [List.mergeSort_nil];exact World.ownsRow_nil _ _ _ _,World.grownBy.refl _ _⟩
 ·refine(Tryz.slices_Sort_string g 0 cap L w (holds_of_block hb (by rw [Nat.mul_one]at h4;exact h4)) (Array.getElem?_eq_some_iff.1 hb).1 wu).mono ?_;rintro e w' ⟨rfl,n,os,rfl⟩;exact⟨rfl,ownsRow_sorted ab hbase hb h1 h2 h3,grownBy_sorted _⟩
theorem Q6 (base:Nat) (v:Value) (L:List ai) (w:World) (hl:L.length<=1000000000) (h:w.ownsRow base 9 1 v L.length (strs L)) :
  Calls zZZ 161 #[v] w fun e w'=>∃v',e= .returned v'/\w'.ownsRow base 9 1 v' (Lib.compact L).length (strs (Lib.compact L))/\w.grownBy w' v.ownBlock:=by
 rcases h.2 with ⟨rfl,h0⟩ | ⟨g,cap,cur,rfl,hbase,hb,h1,h2,h3,h4⟩
 ·have hL:L= []:=List.eq_nil_of_length_eq_zero h0;subst hL;refine(Tryz.slices_Compact_string_empty none 0 w).mono ?_;rintro e w' ⟨rfl,rfl⟩;exact⟨_,rfl,World.ownsRow_nil _ _ _ _,World.grownBy.refl _ _⟩
 ·refine(Tryz.slices_Compact_string g 0 cap L w (holds_of_block hb (by rw [Nat.mul_one]at h4;exact h4)) wu h1).mono ?_;rintro e w' ⟨rfl,q,rfl⟩;have hcl:=Lib.compact_length_le L;have hgr:∀W:World,Go.Sort.grow W #[]=W:=fun W=>by simp [Go.Sort.grow]
  have hlen:(Lib.compact L++List.replicate (L.length - (Lib.compact L).length) []).length=L.length:=by simp;omega
  have ho:=ownsRow_sorted (n:=q) (os:=#[]) hlen hbase hb h1 h2 h3;rw [hgr]at ho;have hc:=z1r ho hcl;refine⟨_,rfl,?_,?_⟩
  ·have e:((Lib.compact L++List.replicate (L.length - (Lib.compact L).length) []).map encStr).take ((Lib.compact L).length*1)=strs (Lib.compact L):=by
    rw [Nat.mul_one,List.map_append,List.take_append_of_le_length ab,List.take_of_length_le ab];rfl
   rw [e]at hc;exact hc
  ·have:=grownBy_sorted (w:=w) (g:=g) (n:=q) (os:=#[]) (Lib.compact L++List.replicate (L.length - (Lib.compact L).length) []).toArray;rw [hgr]at this;exact this
theorem kS (A:aj) (c:Nat) (L:List ai) (w:World) (hl:L.length<=1000000000) (hr:Rd w 1 A L.length (strs L)) :
  Calls zZZ 106 #[aA A L.length c] w fun e w'=>∃v,e= .returned v/\w'.ownsRow w.heap.size 9 1 v L.length (strs L)/\Below w.heap.size w w':=by
 rcases Nat.eq_zero_or_pos L.length with h0 | h0
 ·obtain rfl:L= []:=List.eq_nil_of_length_eq_zero h0;cases A with
  | none =>
   refine(Tryz.slices_Clone_string_nil 0 c w).mono ?_;rintro e w' ⟨rfl,rfl⟩;exact⟨_,rfl,World.ownsRow_nil _ _ _ _,Below.refl _ _⟩
  | some a =>
   refine(Tryz.slices_Clone_string_zero a c w).mono ?_;rintro e w' ⟨v,rfl,h1,_,h2⟩;exact⟨_,rfl,h1,h2⟩
 ·obtain⟨b,off,rfl,_,hc⟩:=hr.2 h0;have hz:(L.map fun s=>(⟨s.toArray⟩:ByteArray)).length=L.length:=List.length_map _;refine(Tryz.slices_Clone_string b off L.length c (L.map fun s=>⟨s.toArray⟩) w wu wu (fun j hj=> ?_)).mono ?_
  ·have hj':j<L.length:=wu
   rw [hc j _ (kL L j hj')];simp [List.getD,List.getElem?_map,List.getElem?_eq_getElem hj']
  ·rintro e w' ⟨v,rfl,h1,_,h2⟩;refine⟨v,rfl,?_,h2⟩;rw [List.take_of_length_le wu,List.map_map]at h1;exact h1
theorem Qe (n:Nat) (N:Int) (hN:N=n) (w:World) (hn:n<=8000000000) :
  Calls zZZ 153 #[aA none 0 0,aB .i64 N] w fun e w'=>∃v,e= .returned v/\w'.ownsRow w.heap.size 9 1 v 0 []/\Below w.heap.size w w':=by
 subst hN;by_cases h0:n=0
 ·subst h0;go_enter func153,ntmps153;go_wp2_with fail;go_ret;exact⟨_,rfl,World.ownsRow_nil _ _ _ _,Below.refl _ _⟩
 ·have hp:0<n:=wu
  go_enter func153,ntmps153
  refine wL ?_;intros;refine YD rfl (.tmp 20) (.tmp 21) rfl j5 underlying3 n hp wu ac ac ?_;intro A c w1 hown1 hc1 hb1;cases A with
  | none =>
   rcases hown1.2 with ⟨h1,_⟩ | ⟨g,_,_,h1,_⟩
   ·injection h1;omega
   ·cases h1
  | some ad =>
   go_wp2_with fail;go_ret;exact⟨_,rfl,hown1,hb1⟩
theorem uP (g:Nat) (A B:aj) (c d:Nat) (L M:List ai) (w:World) (hc:L.length<=c) (hd:M.length<=d) (hl:L.length<=1000000000) (hm:M.length<=1000000000)
  (h0:w.cell? ⟨g,0,none⟩=some (aA A L.length c)) (h1:w.cell? ⟨g,1,none⟩=some (aA B M.length d)) (hr:Rd w 1 A L.length (strs L)) (hr':Rd w 1 B M.length (strs M)) :
  Calls zZZ 112 #[aA (some ⟨g,0,none⟩) 2 2] w fun e w'=>∃v,e= .returned v/\w'.ownsRow w.heap.size 9 1 v (L++M).length (strs (L++M))/\Below w.heap.size w w':=by
 obtain⟨n,hn⟩:=wY L.length
 obtain⟨m,hm'⟩:=wY M.length
 rw [<-hn]at h0 hr hc hl;rw [<-hm']at h1 hr' hd hm;have HN:=sqH hn;have HM:=sqH hm';clear hn hm';go_enter func112,ntmps112;go_wp2_with fail;go_loop [3,11] (fun s i=>(i= aB .i64 0/\s= aB .i64 0)\/(i= aB .i64 1/\s= aB .i64 n)\/(i= aB .i64 2/\s= aB .i64 ((n:Int)+m))) (fun _ i=>2 - (intOf i).toNat)
 case atStart=>exact .inl ⟨rfl,rfl⟩
 case round =>
  rcases hrel with ⟨rfl,rfl⟩ | ⟨rfl,rfl⟩ | ⟨rfl,rfl⟩
  ·go_wp2_with fail;go_round
   case rel=>exact .inr (.inl ⟨rfl,rfl⟩)
   case measure=>simp [intOf]
  ·go_wp2_with fail;go_round
   case rel=>exact .inr (.inr ⟨rfl,by go_num⟩)
   case measure=>simp [intOf]
  ·go_wp2_with fail;refine(Qe (n+m) _ wu _ wu).mono ?_;rintro e_ w1 ⟨v1,rfl,hown1,hb1⟩;dsimp only;go_wp2_with fail;go_loopw [6,27] (fun v i wr=>((i= aB .i64 0/\wr.ownsRow w.heap.size 9 1 v 0 [])\/(i= aB .i64 1/\wr.ownsRow w.heap.size 9 1 v n (strs L))\/(i= aB .i64 2/\wr.ownsRow w.heap.size 9 1 v (n+m) (strs L++strs M)))/\Below w.heap.size w wr) (fun _ i _=>2 - (intOf i).toNat)
   case atStart=>exact⟨.inl ⟨rfl,hown1⟩,hb1⟩
   case round =>
    obtain⟨hcase,hbel⟩:=hrel;have b0:=World.block_lt_of_cell? w _ h0;have h0':=(hbel.cell (p:=⟨g,0,none⟩) b0).trans h0;have h1':=(hbel.cell (p:=⟨g,1,none⟩) b0).trans h1;have hs:=hbel.size;rcases hcase with ⟨rfl,hown⟩ | ⟨rfl,hown⟩ | ⟨rfl,hown⟩
    ·refine wL ?_;intros
     refine zG rfl (.tmp 31) (.tmp 32) rfl j5 ac hown ac (hr.below hbel) (Z5 _) wu hs ?_;intro v2 w2 hown2 hg2 _;have hb2:=zh hbel hown ag hg2;go_wp2_with fail;go_roundw
     case rel=>exact⟨.inr (.inl ⟨rfl,by simpa using hown2⟩),hb2⟩
     case measure=>simp [intOf]
    ·refine wL ?_;intros
     refine zG rfl (.tmp 31) (.tmp 32) rfl j5 ac hown ac (hr'.below hbel) (Z5 _) wu hs ?_;intro v2 w2 hown2 hg2 _;have hb2:=zh hbel hown ag hg2;go_wp2_with fail;go_roundw
     case rel=>exact⟨.inr (.inr ⟨rfl,hown2⟩),hb2⟩
     case measure=>simp [intOf]
    ·rw [<-vN]at hown;have hlen:(L++M).length=n+m:=by rw [List.length_append,HN.o,HM.o]
     refine wL ?_;intros;go_ret;exact⟨_,rfl,by rw [hlen];exact hown,hbel⟩
theorem Jy (A B:aj) (c d:Nat) (L M:List ai) (w:World) (hc:L.length<=c) (hd:M.length<=d) (hl:L.length<=100000000) (hm:M.length<=100000000) (hr:Rd w 1 A L.length (strs L)) (hr':Rd w 1 B M.length (strs M)) :
  Calls zZZ 116 #[aA A L.length c,aA B M.length d] w fun e w'=>∃v N,e= .returned v/\StrL N (fun x=>x∈L\/x∈M)/\N.length<=L.length+M.length/\w'.ownsRow w.heap.size 9 1 v N.length (strs N)/\Below w.heap.size w w':=by
 have hbox:Arr (w.alloc (.cells #[aA A L.length c,aA B M.length d] 39)) w.heap.size 39 [aA A L.length c,aA B M.length d]:=Arr.new w 39 _;have hb1:=ws w (.cells #[aA A L.length c,aA B M.length d] 39);have hr1:=hr.below hb1;have hr1':=hr'.below hb1;have HCC:=sqH (uP w.heap.size A B c d L M _ hc hd wu wu (hbox.c0) (hbox.c1) hr1 hr1');have hlm:(L++M).length<=200000000:=by rw [List.length_append];omega
 have HLM:=sqH (show(L++M).length=L.length+M.length from List.length_append);have HMM:=sqH (fun x=>show x∈L++M↔x∈L\/x∈M from List.mem_append);clear hr hr' hr1 hr1' hbox;go_enter func116,ntmps116;go_wp2_with fail;generalize (w.alloc (.cells #[aA A L.length c,aA B M.length d] 39))=w1 at *
 refine HCC.o.mono ?_;rintro e_ w2 ⟨v2,rfl,ho2,hb2⟩;dsimp only;have hb12:=wm hb1 hb2;have hs1:=hb1.size;generalize L++M=K at *
 clear HCC hb1 hb2;go_wp2_with fail;refine(Us _ v2 K w2 wu ho2).mono ?_;rintro e_ w3 ⟨rfl,ho3,hg3⟩;dsimp only;have hb13:=zh hb12 ho2 hs1 hg3;have hp:=VB K;have hperm:=List.mergeSort_perm K leB;have hkl:(K.mergeSort leB).length=K.length:=List.length_mergeSort K;rw [<-hkl]at ho3;have HKP:=sqH (And.intro hp (And.intro hperm hkl));generalize K.mergeSort leB=Q at *
 clear ho2 hg3 hb12 hp hperm;go_wp2_with fail;refine(Q6 _ v2 Q w3 wu ho3).mono ?_;rintro e_ w4 ⟨v4,rfl,ho4,hg4⟩;dsimp only;have hb14:=zh hb13 ho3 hs1 hg4;have HST:=sqH (Zp HKP.o.1);have hcl:=Lib.compact_length_le Q;obtain⟨A4,c4,rfl,_,hr4⟩:=Rd.of_own' ho4;generalize Lib.compact Q=N at *
 clear ho3 hg4 hb13 ho4;go_wp2_with fail;refine(kS A4 c4 N w4 wu hr4).mono ?_;rintro e_ w5 ⟨v5,rfl,ho5,hb5⟩;dsimp only;have hb15:=wm hb14 hb5;have hs4:=hb14.size;clear hb14 hb5 hr4;go_wp2_with fail;go_ret;refine⟨v5,N,rfl,⟨HST.o.nd,HST.o.le,fun x=> ?_⟩,by have:=HLM.o;omega,zb ho5 hs4,hb15⟩;rw [HST.o.mem,HKP.o.2.1.mem_iff,HMM.o]
end Go.Proofs.YtcjmjaefcjcomaaGreat
namespace Go.Proofs
open Go.Shelf
def Tryz.keys139_ren:Go.Shelf.Ren:=⟨fun | 7=>139 | 10=>168 | n=>n,fun | 23=>214 | 26=>9 | 3=>4 | 28=>217 | 0=>0 | 27=>216 | 33=>187 | 4=>4 | n=>n,fun | n=>n⟩
theorem Tryz.keys139:Go.Proofs.SlLaysZ.n7 Tryz.prog Tryz.keys139_ren:= {
 mixed:=by kernel_rfl
 f7:=⟨Tryz.f139.name,by decide,Tryz.func139.trans (congrArg aG (by kernel_rfl))⟩
 f10:=⟨Tryz.f168.name,by decide,Tryz.func168.trans (congrArg aG (by kernel_rfl))⟩
 t0:=Tryz.underlying0
 a0:=Tryz.isAgg0
 z0:=Tryz.sizeOf0
 v0:=Tryz.zeroValue0
 t4:=Tryz.underlying4
 a4:=Tryz.isAgg4
 z4:=Tryz.sizeOf4
 v4:=Tryz.zeroValue4
 t23:=Tryz.underlying214
 a23:=Tryz.isAgg214
 z23:=Tryz.sizeOf214
 v23:=Tryz.zeroValue214
 t26:=Tryz.underlying9
 a26:=Tryz.isAgg9
 z26:=Tryz.sizeOf9
 v26:=Tryz.zeroValue9
 t27:=Tryz.underlying216
 a27:=Tryz.isAgg216
 z27:=Tryz.sizeOf216
 v27:=Tryz.zeroValue216
 t28:=Tryz.underlying217
 a28:=Tryz.isAgg217
 z28:=Tryz.sizeOf217
 v28:=Tryz.zeroValue217
 t33:=Tryz.underlying187
 a33:=Tryz.isAgg187
 z33:=Tryz.sizeOf187
 v33:=Tryz.zeroValue187 }
def Tryz.sorted138_ren:Go.Shelf.Ren:=⟨fun | 6=>138 | 8=>167 | 9=>160 | 11=>186 | 13=>181 | 12=>180 | 23=>203 | 24=>204 | 14=>194 | 15=>195 | 16=>196 | 17=>197 | 18=>198 | 19=>199 | 20=>200 | 21=>201 | 22=>202 | 25=>209 | 26=>210 | 27=>211 | 28=>212 | 29=>213 | 30=>214 | 31=>216 | n=>n,fun | 26=>9 | 28=>217 | 24=>39 | 0=>0 | 3=>3 | 37=>124 | 48=>94 | 50=>93 | 4=>4 | 40=>269 | 39=>268 | 45=>236 | 5=>5 | 9=>9 | 51=>280 | 55=>284 | 57=>286 | 58=>287 | 33=>187 | n=>n,fun | n=>n⟩
theorem Tryz.sorted138:Go.Proofs.SlLaysZ.n6 Tryz.prog Tryz.sorted138_ren:= {
 mixed:=by kernel_rfl
 f6:=⟨Tryz.f138.name,by decide,Tryz.func138.trans (congrArg aG (by kernel_rfl))⟩
 f8:=⟨Tryz.f167.name,by decide,Tryz.func167.trans (congrArg aG (by kernel_rfl))⟩
 f11:=⟨Tryz.f186.name,by decide,Tryz.func186.trans (congrArg aG (by kernel_rfl))⟩
 t0:=Tryz.underlying0
 a0:=Tryz.isAgg0
 z0:=Tryz.sizeOf0
 v0:=Tryz.zeroValue0
 t24:=Tryz.underlying39
 a24:=Tryz.isAgg39
 z24:=Tryz.sizeOf39
 v24:=Tryz.zeroValue39
 t26:=Tryz.underlying9
 a26:=Tryz.isAgg9
 z26:=Tryz.sizeOf9
 v26:=Tryz.zeroValue9
 t28:=Tryz.underlying217
 a28:=Tryz.isAgg217
 z28:=Tryz.sizeOf217
 v28:=Tryz.zeroValue217
 i26:=by kernel_rfl }
def Tryz.sort160_ren:Go.Shelf.Ren:=⟨fun | 6=>160 | 8=>181 | 9=>180 | 19=>203 | 20=>204 | 21=>194 | 22=>195 | 23=>196 | 24=>197 | 25=>198 | 26=>199 | 27=>200 | 28=>201 | 29=>202 | 36=>209 | 31=>210 | 32=>211 | 37=>212 | 38=>213 | 39=>214 | 41=>216 | n=>n,fun | 27=>39 | 29=>9 | 3=>3 | 32=>124 | 26=>39 | 0=>0 | 44=>94 | 46=>93 | 4=>4 | 36=>269 | 35=>268 | 41=>236 | 5=>5 | 9=>9 | 53=>280 | 57=>284 | 63=>286 | 64=>287 | n=>n,fun | n=>n⟩
theorem Tryz.sort160:Go.Proofs.SlLaysM.n6 Tryz.prog Tryz.sort160_ren:= {
 mixed:=by kernel_rfl
 f6:=⟨Tryz.f160.name,by decide,Tryz.func160.trans (congrArg aG (by kernel_rfl))⟩
 f8:=Tryz.func181.trans (congrArg aG (by kernel_rfl))
 f9:=⟨Tryz.f180.name,by decide,Tryz.func180.trans (congrArg aG (by kernel_rfl))⟩
 f19:=Tryz.func203.trans (congrArg aG (by kernel_rfl))
 f20:=Tryz.func204.trans (congrArg aG (by kernel_rfl))
 f21:=⟨Tryz.f194.name,by decide,Tryz.func194.trans (congrArg aG (by kernel_rfl))⟩
 f22:=⟨Tryz.f195.name,by decide,Tryz.func195.trans (congrArg aG (by kernel_rfl))⟩
 f23:=⟨Tryz.f196.name,by decide,Tryz.func196.trans (congrArg aG (by kernel_rfl))⟩
 f24:=⟨Tryz.f197.name,by decide,Tryz.func197.trans (congrArg aG (by kernel_rfl))⟩
 f25:=⟨Tryz.f198.name,by decide,Tryz.func198.trans (congrArg aG (by kernel_rfl))⟩
 f26:=⟨Tryz.f199.name,by decide,Tryz.func199.trans (congrArg aG (by kernel_rfl))⟩
 f27:=⟨Tryz.f200.name,by decide,Tryz.func200.trans (congrArg aG (by kernel_rfl))⟩
 f28:=⟨Tryz.f201.name,by decide,Tryz.func201.trans (congrArg aG (by kernel_rfl))⟩
 f29:=⟨Tryz.f202.name,by decide,Tryz.func202.trans (congrArg aG (by kernel_rfl))⟩
 f31:=Tryz.func210.trans (congrArg aG (by kernel_rfl))
 f32:=Tryz.func211.trans (congrArg aG (by kernel_rfl))
 f36:=⟨Tryz.f209.name,by decide,Tryz.func209.trans (congrArg aG (by kernel_rfl))⟩
 f37:=⟨Tryz.f212.name,by decide,Tryz.func212.trans (congrArg aG (by kernel_rfl))⟩
 f38:=⟨Tryz.f213.name,by decide,Tryz.func213.trans (congrArg aG (by kernel_rfl))⟩
 f39:=⟨Tryz.f214.name,by decide,Tryz.func214.trans (congrArg aG (by kernel_rfl))⟩
 f41:=⟨Tryz.f216.name,by decide,Tryz.func216.trans (congrArg aG (by kernel_rfl))⟩
 t0:=Tryz.underlying0
 a0:=Tryz.isAgg0
 z0:=Tryz.sizeOf0
 v0:=Tryz.zeroValue0
 t3:=Tryz.underlying3
 a3:=Tryz.isAgg3
 z3:=Tryz.sizeOf3
 v3:=Tryz.zeroValue3
 t4:=Tryz.underlying4
 a4:=Tryz.isAgg4
 z4:=Tryz.sizeOf4
 v4:=Tryz.zeroValue4
 t5:=Tryz.underlying5
 a5:=Tryz.isAgg5
 z5:=Tryz.sizeOf5
 v5:=Tryz.zeroValue5
 t9:=Tryz.underlying9
 a9:=Tryz.isAgg9
 z9:=Tryz.sizeOf9
 v9:=Tryz.zeroValue9
 t26:=Tryz.underlying39
 a26:=Tryz.isAgg39
 z26:=Tryz.sizeOf39
 v26:=Tryz.zeroValue39
 t27:=Tryz.underlying39
 a27:=Tryz.isAgg39
 z27:=Tryz.sizeOf39
 v27:=Tryz.zeroValue39
 t29:=Tryz.underlying9
 a29:=Tryz.isAgg9
 z29:=Tryz.sizeOf9
 v29:=Tryz.zeroValue9
 t32:=Tryz.underlying124
 a32:=Tryz.isAgg124
 z32:=Tryz.sizeOf124
 v32:=Tryz.zeroValue124
 t35:=Tryz.underlying268
 a35:=Tryz.isAgg268
 z35:=Tryz.sizeOf268
 v35:=Tryz.zeroValue268
 t36:=Tryz.underlying269
 a36:=Tryz.isAgg269
 z36:=Tryz.sizeOf269
 v36:=Tryz.zeroValue269
 t41:=Tryz.underlying236
 a41:=Tryz.isAgg236
 z41:=Tryz.sizeOf236
 v41:=Tryz.zeroValue236
 t44:=Tryz.underlying94
 a44:=Tryz.isAgg94
 z44:=Tryz.sizeOf94
 v44:=Tryz.zeroValue94
 t46:=Tryz.underlying93
 a46:=Tryz.isAgg93
 z46:=Tryz.sizeOf93
 v46:=Tryz.zeroValue93
 t53:=Tryz.underlying280
 a53:=Tryz.isAgg280
 z53:=Tryz.sizeOf280
 v53:=Tryz.zeroValue280
 t57:=Tryz.underlying284
 a57:=Tryz.isAgg284
 z57:=Tryz.sizeOf284
 v57:=Tryz.zeroValue284
 t63:=Tryz.underlying286
 a63:=Tryz.isAgg286
 z63:=Tryz.sizeOf286
 v63:=Tryz.zeroValue286
 t64:=Tryz.underlying287
 a64:=Tryz.isAgg287
 z64:=Tryz.sizeOf287
 v64:=Tryz.zeroValue287 }
end Go.Proofs
namespace Go.Proofs.YtcjmjaefcjcomaaGreat
open Go.RowKit
variable {bl:List BlobP} {M M' ds g:List ai} {b more:Nat} {s t:StoP} {w w':World} {d:ai}
def kids (bl:List BlobP) (x:ai):List ai :=
 match bl.findIdx? (fun b=>b.dig==x) with
 | some i=>match bl[i]? with
  | some b=>(qU b.data).1.map (·.dig)
  | none=> []
 | none=> []
def InB (bl:List BlobP) (x:ai):Prop:=∃b∈bl,b.dig=x
theorem jS {x:ai}:InB bl x↔(bl.findIdx? (fun b=>b.dig==x)).isSome=true:=by
 rw [List.findIdx?_isSome,List.any_eq_true];constructor
 ·rintro⟨b,hb,rfl⟩;exact⟨b,hb,ab⟩
 ·rintro⟨b,hb,h⟩;exact⟨b,hb,by simpa using h⟩
inductive Rch (bl:List BlobP) (ds:List ai):List UInt8->Prop where
 | root {x}:x∈ds->InB bl x->Rch bl ds x
 | step {x y}:Rch bl ds x->y∈kids bl x->InB bl y->Rch bl ds y
theorem Rch.inB {x:ai} (h:Rch bl ds x):InB bl x:=by
 cases h<;>assumption
theorem Rch.mono {es:List ai} {x:ai} (h:Rch bl ds x) (hd:∀y∈ds,InB bl y->Rch bl es y):Rch bl es x:=by
 induction h with
 | root h1 h2=>exact hd _ h1 h2
 | step _ h2 h3 ih=>exact .step ih h2 h3
def unmet (bl:List BlobP) (M:List ai):Nat:=(bl.filter fun b=> !M.contains b.dig).length
theorem uj {α:Type} {p q:α->Bool}:∀(l:List α),(∀x∈l,p x=true->q x=true)->(l.filter p).length<=(l.filter q).length
 | [],_=>Nat.le_refl _
 | x::l,h=>by
  have ih:=uj l (fun y hy=>h y (by simp [hy]))
  by_cases hp:p x=true
  ·rw [List.filter_cons_of_pos hp,List.filter_cons_of_pos (h x ab hp)];simpa using ih
  ·rw [List.filter_cons_of_neg hp]
   by_cases hq:q x=true
   ·rw [List.filter_cons_of_pos hq];simp only [List.length_cons];omega
   ·rw [List.filter_cons_of_neg hq];exact ih
theorem ul {α:Type} {p q:α->Bool}:∀(l:List α),(∀x∈l,p x=true->q x=true)->(∃x∈l,p x=false/\q x=true)->(l.filter p).length<(l.filter q).length
 | [],_,h=>by obtain⟨x,hx,_⟩:=h;cases hx
 | x::l,h,h2=>by
  have hl:=fun y hy=>h y (List.mem_cons_of_mem x hy)
  by_cases hp:p x=true
  ·rw [List.filter_cons_of_pos hp,List.filter_cons_of_pos (h x ab hp)]
   obtain⟨y,hy,h3,h4⟩:=h2
   rcases List.mem_cons.1 hy with rfl | hy
   ·rw [hp]at h3;cases h3
   ·have:=ul l hl ⟨y,hy,h3,h4⟩;simpa using this
  ·rw [List.filter_cons_of_neg hp]
   by_cases hq:q x=true
   ·rw [List.filter_cons_of_pos hq];have:=uj l hl;simp only [List.length_cons];omega
   ·rw [List.filter_cons_of_neg hq]
    obtain⟨y,hy,h3,h4⟩:=h2
    rcases List.mem_cons.1 hy with rfl | hy
    ·exact absurd h4 hq
    ·exact ul l hl ⟨y,hy,h3,h4⟩
theorem jp (h:∀x∈M,x∈M'):unmet bl M'<=unmet bl M:=by
 refine uj _ fun b _ hb=> ?_;simp only [Bool.not_eq_true',List.contains_eq_mem,decide_eq_false_iff_not]at hb ⊢
 exact fun h2=>hb (h _ h2)
theorem KC (hi:InB bl d) (hd:d∉M):unmet bl (M++ [d])<unmet bl M:=by
 obtain⟨b,hb,rfl⟩:=hi;refine ul _ (fun x _ hx=> ?_) ⟨b,hb,ab,by simp [hd]⟩;simp only [Bool.not_eq_true',List.contains_eq_mem,decide_eq_false_iff_not,List.mem_append,not_or]at hx ⊢
 exact hx.1
theorem VL (bl:List BlobP):unmet bl []<=bl.length:=List.length_filter_le _ _
structure SeekR (bl:List BlobP) (M ds M':List ai):Prop where
 sub:∀x∈M,x∈M'
 hit:∀d∈ds,InB bl d->d∈M'
 come:∀x∈M',x∈M\/Rch bl ds x
 clo:∀x∈M',x∉M->∀y∈kids bl x,InB bl y->y∈M'
 len:M'.length+unmet bl M'<=M.length+unmet bl M
theorem SeekR.nil (bl:List BlobP) (M:List ai):SeekR bl M [] M:=⟨fun _ h=>h,fun _ h=>absurd h ab,fun _ h=> .inl h,fun _ h h2=>absurd h h2,Nat.le_refl _⟩
theorem SeekR.none_ (h:¬InB bl d):SeekR bl M [d] M :=
 ⟨fun _ h=>h,fun x h1 h2=>absurd h2 (by rw [List.mem_singleton.1 h1];exact h),fun _ h=> .inl h,fun _ h h2=>absurd h h2,Nat.le_refl _⟩
theorem SeekR.met (h:d∈M):SeekR bl M [d] M :=
 ⟨fun _ h=>h,fun x h1 _=>by rw [List.mem_singleton.1 h1];exact h,fun _ h=> .inl h,fun _ h h2=>absurd h h2,Nat.le_refl _⟩
theorem SeekR.snoc {M1 M2:List ai} (h1:SeekR bl M ds M1) (h2:SeekR bl M1 [d] M2):SeekR bl M (ds++ [d]) M2:=by
 refine⟨fun x h=>h2.sub x (h1.sub x h),fun x h hi=> ?_,fun x h=> ?_,fun x h hn y hy hi=> ?_,Nat.le_trans h2.len h1.len⟩
 ·rcases List.mem_append.1 h with h | h
  ·exact h2.sub x (h1.hit x h hi)
  ·exact h2.hit x h hi
 ·rcases h2.come x h with h3 | h3
  ·rcases h1.come x h3 with h4 | h4
   ·exact .inl h4
   ·exact .inr (h4.mono fun y hy hi=> .root (by simp [hy]) hi)
  ·exact .inr (h3.mono fun y hy hi=> .root (by simp [List.mem_singleton.1 hy]) hi)
 ·by_cases h3:x∈M1
  ·exact h2.sub y (h1.clo x h3 hn y hy hi)
  ·exact h2.clo x h h3 y hy hi
theorem SeekR.into (hi:InB bl d) (hd:d∉M) (h:SeekR bl (M++ [d]) (kids bl d) M'):SeekR bl M [d] M':=by
 have hroot:Rch bl [d] d:= .root ab hi;have hdm:d∈M':=h.sub d ab;have hl:=KC hi hd;refine⟨fun x hx=>h.sub x (by simp [hx]),fun x hx _=>by rw [List.mem_singleton.1 hx];exact hdm,fun x hx=> ?_,fun x hx hn y hy hiy=> ?_,by have:=h.len;rw [List.length_append]at this;simp only [List.length_cons,List.length_nil]at this;omega⟩
 ·rcases h.come x hx with h1 | h1
  ·rcases List.mem_append.1 h1 with h1 | h1
   ·exact .inl h1
   ·exact .inr (by rw [List.mem_singleton.1 h1];exact hroot)
  ·exact .inr (h1.mono fun y hy hiy=> .step hroot hy hiy)
 ·by_cases hxd:x=d
  ·subst hxd;exact h.hit y hy hiy
  ·exact h.clo x hx (by simp [hn,hxd]) y hy hiy
theorem SeekR.all (h:SeekR bl [] ds M') (x:ai):x∈M'↔Rch bl ds x:=by
 constructor
 ·intro hx;rcases h.come x hx with h1 | h1
  ·cases h1
  ·exact h1
 ·intro hx
  induction hx with
  | root h1 h2=>exact h.hit _ h1 h2
  | step h1 h2 h3 ih=>exact h.clo _ ih ab _ h2 h3
open Go.Maps
def tt:DataW Unit:= .lit (.bool true)
def yy (w:World) (b:Nat) (M:List ai):Prop:=w.ownsMap zZZ 9 (plainElem zZZ 4) b M.length (setOf tt (M.map Lit.string))
theorem z5k:Keyed zZZ 9:=string_keyed underlying9
theorem XX (d:ai) (hd:d.length<=maxLen):keyOf zZZ 9 (.string ⟨d.toArray⟩)=aG (.string d):=by
 simp [keyOf,underlying9,mapKey,ByteArray.size,hd]
theorem vI (M:List ai):∀x∈M.map Lit.string,WideAt.IsKeyLit x:=by
 intro x hx;obtain⟨s,_,rfl⟩:=List.mem_map.1 hx;trivial
theorem Ky (a b:ai):(Lit.string a).sameKey (.string b)=decide (a=b):=by
 by_cases h:a=b
 ·subst h;simp [Lit.sameKey]
 ·simp [Lit.sameKey,h]
theorem z1i (M:List ai) (d:ai):has (setOf tt (M.map Lit.string)) (.string d)=decide (d∈M):=by
 rw [has_setOf _ _ _ (vI M),List.any_map];by_cases h:d∈M
 ·rw [decide_eq_true h,List.any_eq_true];exact⟨d,h,by simp [Ky]⟩
 ·rw [decide_eq_false h,List.any_eq_false];intro x hx;simp only [Function.comp_def,Ky,decide_eq_true_eq];rintro rfl;exact h hx
theorem Zm (d:ai) (z:DataW Unit):∀(n:Nat) (M:List ai),M.length=n->(setOf tt (M.map Lit.string)).atKey (.string d) z=if d∈M then tt else z
 | 0,M,h=>by
  obtain rfl:=List.eq_nil_of_length_eq_zero h
  rfl
 | n+1,M,h=>by
  obtain⟨M0,x,rfl⟩:∃M0 x,M=M0++ [x]:=⟨M.dropLast,M.getLast (by intro e;simp [e]at h),(List.dropLast_concat_getLast _).symm⟩
  have h0:M0.length=n:=by simpa using h
  rw [List.map_append,List.map_cons,List.map_nil,setOf_snoc]
  by_cases hx:d=x
  ·subst hx
   rw [atKey_put_same (tidy_setOf _ _ (vI M0)).isMap (show WideAt.IsKeyLit (.string d) from trivial),if_pos ab]
  ·rw [atKey_put_other (by intro e;injection e with e;exact hx e),Zm d z n M0 h0]
   by_cases hm:d∈M0
   ·rw [if_pos hm,if_pos (by simp [hm])]
   ·rw [if_neg hm,if_neg (by simp [hm,hx])]
theorem JS (x:Bool):plainElem (H:=Unit) zZZ 4 (.bool x)=aG (.lit (.bool x), []):=plainElem_bool underlying4 x
theorem j9 {v:Value} {y:Bool} {ps:List MemPlace} (h:plainElem (H:=Unit) zZZ 4 v=aG (.lit (.bool y),ps)):v= .bool y:=by
 unfold plainElem at h;cases v<;>simp [underlying4]at h
 all_goals first | (obtain⟨rfl,_⟩:=h;rfl) | simp_all
theorem yy.look (h:yy w b M) (d:ai) (hd:d.length<=maxLen) :
  (Instr.lookup 214 (.map (aG b)) (.string ⟨d.toArray⟩) false).run zZZ w= .ok (.bool (decide (d∈M))) w:=by
 obtain⟨v,ps,hrun,hv⟩:=World.ownsMap.lookup h z5k underlying214 (z:= .bool false) ac (JS false) (XX d hd);rw [Zm d _ _ M rfl]at hv;rw [hrun];by_cases hm:d∈M
 ·rw [if_pos hm]at hv;rw [decide_eq_true hm,j9 hv]
 ·rw [if_neg hm]at hv;rw [decide_eq_false hm,j9 hv]
theorem yy.put (h:yy w b M) (d:ai) (hd:d.length<=maxLen) (hn:M.length<maxLen) :
  ∃w',(Instr.mapUpdate 214 (.map (aG b)) (.string ⟨d.toArray⟩) (.bool true)).run zZZ w= .ok () w'/\yy w' b (M++ [d])/\w.grownBy w' (aG b):=by
 obtain⟨w',hrun,h1,h2⟩:=World.ownsMap.update h z5k underlying214 hn (XX d hd) (JS true);refine⟨w',hrun,?_,h2⟩;unfold yy;rw [List.map_append,List.map_cons,List.map_nil,setOf_snoc,List.length_append];exact h1
theorem yy.made (w:World):yy (w.alloc (.map #[] 0)) w.heap.size []:=World.ownsMap_made w _ _ _
theorem yy.lt (h:yy w b M):b<w.heap.size:=World.ownsMap.lt h
theorem yy.kept {row:Option Nat} (h:yy w b M) (hg:w.grownBy w' row) (hne:aG b≠row):yy w' b M:=World.ownsMap.kept h hg hne
theorem yy.below (h:yy w b M) (hb:Below w.heap.size w w'):yy w' b M:=h.kept ⟨hb.os,hb.tape,hb.output,hb.size,fun k hk _=>hb.block k hk⟩ (row:=none) ab
theorem XY {ss:List ai} (hs:yy w b M) (h:ss.Perm (strKeys (setOf tt (M.map Lit.string)))):StrL (ss.mergeSort leB) (fun x=>x∈M):=by
 obtain⟨es,he,hp⟩:=tidy_setOf tt (M.map Lit.string) (vI M);obtain⟨es',he',hk'⟩:=World.ownsMap.keysOf hs;have e1:es=es':=by rw [he]at he';injection he'
 subst e1;have hk:∀p∈es,∃x,p.1= .string x:=fun p hp'=>by
  obtain⟨v,hv⟩:=hk' p hp';obtain⟨x,_,e,_⟩:=Maps.keyOf_str underlying9 hv;exact⟨x,e⟩
 have h1:=perm_strKeys hp hk (ZO M) (fun x=>by rw [xW,<-he,z1i];simp);rw [he]at h;have h2:=h.trans h1.symm;have h3:=(List.mergeSort_perm ss leB).trans h2;have tr:∀a b c:ai,leB a b=true->leB b c=true->leB a c=true:=fun a b c h1 h2=>by simp only [leB,decide_eq_true_eq] at *;exact List.le_trans h1 h2
 have to:∀a b:ai,(leB a b||leB b a)=true:=fun a b=>by simp only [leB,Bool.or_eq_true,decide_eq_true_eq];exact List.le_total a b
 exact⟨h3.nodup_iff.2 (ZO M),List.pairwise_mergeSort tr to ss,fun x=>by rw [h3.mem_iff,xW]⟩
open Go.Sort Go.Shelf
theorem z25 (m:Nat):AnyZ.SortsIn zZZ Tryz.sorted138_ren Fence.wide m :=
 ⟨fun blk off cap ss W hH hblk hsz=>callsIn_wide.2 (AnyM.slices_Sort_string Tryz.sort160 blk off cap ss W hH hblk hsz),
  fun p cap W=>callsIn_wide.2 (AnyM.slices_Sort_string_none Tryz.sort160 p cap W)⟩
theorem YV (b:Nat) (W:World):Calls zZZ 139 #[.map (aG b)] W fun e w'=>e= .returned (.func (.func 168) #[] #[.pointer (aG ⟨W.heap.size,0,none⟩)])/\w'=W.alloc (aE #[.map (aG b)] 214) :=
 callsIn_wide.1 (AnyZ.keys_in Tryz.keys139 Fence.wide 5 trivial rfl (aG b) W)
theorem Zj (b:Nat) (M:List ai) (w:World) (hs:yy w b M) (hmax:M.length<=1000000) :
  Calls zZZ 138 #[.func (.func 168) #[] #[.pointer (aG ⟨w.heap.size,0,none⟩)]] (w.alloc (aE #[.map (aG b)] 214)) fun e w'=>∃v L,e= .returned v/\StrL L (fun x=>x∈M)/\L.length<=M.length /\
   w'.ownsRow (w.alloc (aE #[.map (aG b)] 214)).heap.size 9 1 v L.length (strs L)/\Below (w.alloc (aE #[.map (aG b)] 214)).heap.size (w.alloc (aE #[.map (aG b)] 214)) w':=by
 have hown:=hs;unfold yy at hown;have hbl:=World.ownsMap.lt hown;have hsz:=World.ownsMap.size_le hown;have hseq:SeqGives Fence.wide 2 zZZ 168 #[.pointer (aG ⟨w.heap.size,0,none⟩)] encStr (fun ss=>ss.Perm (strKeys (setOf tt (M.map Lit.string)))) (Maps.size (setOf tt (M.map Lit.string))) (w.alloc (aE #[.map (aG b)] 214)) :=
  AnyZ.keys_gives (ρ:=Tryz.keys139_ren) { Tryz.keys139 with } Fence.wide _ trivial rfl wu w.heap.size b M.length _ _ ab ab (by
   obtain⟨es,aK,hb,Ft,hs,hD⟩:=hown;exact⟨es,aK,(Below.heap_alloc _ _ b hbl).trans hb,Ft,hs,hD⟩)
 have h:=AnyZ.sorted_in Tryz.sorted138 Fence.wide 5 trivial trivial trivial trivial rfl wu (z25 _) (enters_of func160 ww rfl) 168 #[.pointer (aG ⟨w.heap.size,0,none⟩)] trivial (enters_of func168 ww rfl) _ _ (by unfold maxLen;omega) wu _ hseq;refine(callsIn_wide.1 h).mono ?_;rintro e w' ⟨v,ss,rfl,hp,hrow,_,hb⟩;have hL:=XY hs hp;have hlen:(ss.mergeSort leB).length=ss.length:=List.length_mergeSort ss;refine⟨v,ss.mergeSort leB,rfl,hL,?_,?_,hb⟩
 ·rw [hlen,hp.length_eq];obtain⟨es,he,_⟩:=tidy_setOf tt (M.map Lit.string) (vI M);rw [he]at hsz ⊢
  show(es.map _).length<=_;rw [List.length_map];exact hsz
 ·rw [hlen];exact hrow
theorem XZ {i:Nat} (h:bl.findIdx? (fun b=>b.dig==d)=aG i) (hi:i<bl.length):kids bl d=(qU bl[i].data).1.map (·.dig):=by
 unfold kids;rw [h];dsimp only;rw [List.getElem?_eq_getElem hi]
theorem vG (x:List PartP):dcs x=strs (x.map (·.dig)):=by simp [dcs,strs]
theorem z0t (gs b c:Nat) (A:aj) (bl:List BlobP) (w0:World) (hg:w0.heap.size<=gs) (hbs:w0.heap.size<=b) (hne:gs≠b) (hl:bl.length<=1000) (hcap:bl.length<=c) (hcm:c<=maxLen) (hdig:∀x∈bl,x.dig.length<=1000) (hrd:Rw BlobS w0 A bl) :
  ∀(m:Nat) (M:List ai) (d:ai) (w:World),unmet bl M<m->M.length+unmet bl M<=bl.length->Below w0.heap.size w0 w->Arr w gs 228 [aA A bl.length c,.map (aG b)]->yy w b M ->
   Calls zZZ 149 #[.pointer (aG ⟨gs,0,none⟩),.string ⟨d.toArray⟩] w fun e w'=>e= .returned (.tuple #[])/\∃M',SeekR bl M [d] M'/\yy w' b M'/\w.grownBy w' (aG b):=by
 intro m
 induction m with
 | zero=>intro M d w h;exact absurd h wu
 | succ m ih =>
  intro M d w hun hlen hb0 hbox hset;have HF:=ky A c bl d w wu (hrd.below hb0);have a0:=hbox.c0;have HB0:=sqH hb0;have hs0:=hb0.size;cases hf:bl.findIdx? (fun x=>x.dig==d) with
  | none =>
   rw [hf]at HF;obtain⟨HFF,HR,HST,HIH⟩:=sqJ4 HF (SeekR.none_ (bl:=bl) (M:=M) (d:=d) (by rw [jS,hf];simp)) hset ih;clear HF hf hset ih;go_enter func149,ntmps149;go_wp2_with fail;refine wZ HFF.o fun w2 hb2=>?_;dsimp only;unfold xx;dsimp only;go_wp2_with fail
   ((try simp only [Exit.inBlock,Exit.then]);first | (refine bodyPost_ret (results_none rfl _ _ _) rfl ?_) | (refine bodyPost_end (results_none rfl _ _ _) rfl ?_))
   exact⟨rfl,M,HR.o,HST.o.below hb2,zZ hb2 _⟩
  | some i =>
   rw [hf]at HF;have HFF:=sqH HF;have hi:i<bl.length:=(List.findIdx?_eq_some_iff_getElem.1 hf).1;have hdi:bl[i].dig=d:=by simpa using (List.findIdx?_eq_some_iff_getElem.1 hf).2.1
   have hin:InB bl d:=⟨bl[i],List.getElem_mem hi,hdi⟩
   have hdl:d.length<=maxLen:=by have:=hdig _ (List.getElem_mem hi);rw [hdi]at this;unfold maxLen;omega
   obtain⟨HKD,HDL,HIN⟩:=sqJ3 (XZ hf hi) hdl hin;have hi0:=we i
   have hi1:(i:Int)<(bl.length:Int):=wu;have HIH:=sqH ih;have HI:=sqH hi;clear HF hf hdi hin hdl ih;by_cases hm:d∈M
   ·have HR:=sqH (SeekR.met (bl:=bl) hm);have hlk:=fun (w2:World) (h:yy w2 b M)=>h.look d HDL.o;rw [decide_eq_true hm]at hlk;have HLK:=sqH hlk;have HST:=sqH hset;clear hm hlk hset;go_enter func149,ntmps149;go_wp2_with fail;refine wZ HFF.o fun w2 hb2=>?_;dsimp only;unfold xx;dsimp only;have hset2:=HST.o.below hb2;have hrun:=HLK.o w2 hset2;have a1:=(hbox.below hb2).c1;go_wp2_with fail
    ((try simp only [Exit.inBlock,Exit.then]);first | (refine bodyPost_ret (results_none rfl _ _ _) rfl ?_) | (refine bodyPost_end (results_none rfl _ _ _) rfl ?_))
    exact⟨rfl,M,HR.o,hset2,zZ hb2 _⟩
   ·have HMU:=sqH (KC HIN.o hm);have hlk:=fun (w2:World) (h:yy w2 b M)=>h.look d HDL.o;rw [decide_eq_false hm]at hlk;obtain⟨HLK,HST,HNM⟩:=sqJ3 hlk hset hm;have hMn:M.length<maxLen:=by unfold maxLen;omega
    clear hm hlk hset;go_enter func149,ntmps149;go_wp2_with fail;refine wZ HFF.o fun w2 hb2=>?_;dsimp only;unfold xx;dsimp only;have hset2:=HST.o.below hb2;have hrun:=HLK.o w2 hset2;have hbox2:=hbox.below hb2;have a1:=hbox2.c1;obtain⟨w3,hput,hset3,hg3⟩:=hset2.put d HDL.o hMn;have hbox3:=hbox2.grown hg3 (fun e=>hne (by injection e with e;exact e.symm));have a2:=hbox3.c0;have hb03:=(hb0.trans (hb2.mono hs0)).grown hg3 (by have:=hb2.size;omega) (fun k hk=>by cases hk;exact hbs);obtain⟨bq,oq,B,cq,hA,hbq,d0,d1,d2,d3,hs⟩:=(hrd.below hb03).blob_at i hi;have HPT:=sqH (vS ⟨bl[i].dig.toArray⟩ B bl[i].data.length cq bl[i].data (bl[i].aQ:Int) bl[i].mark w3 rfl hs.cap hs.max hs.rd);have hx8:=yO bl[i].data;have hG03:=(zZ hb2 (row:=aG b)).trans hg3;subst hA;have HHS:=sqH hrd;clear hs hset2 hg3 hbox hbox2 a0 hrd;obtain⟨ks,hks⟩:∃ks,kids bl d=ks:=⟨_,rfl⟩
    obtain⟨xs,hxs⟩:∃xs,(qU bl[i].data).1=xs:=⟨_,rfl⟩
    have hkx:xs.map (·.dig)=ks:=by rw [<-hks,<-hxs];exact HKD.o.symm
    have hkl:xs.length=ks.length:=by rw [<-hkx,List.length_map]
    rw [hxs,vG,hkx,hkl]at HPT;rw [hxs,hkl]at hx8;have HKS:=sqH hks;clear hks hkx hkl hxs HKD;go_wp2_with fail;refine HPT.o.mono ?_;rintro e_ w4 ⟨v4,rfl,ho4,hb4⟩;dsimp only;have hset4:=hset3.below hb4;have hbox4:=hbox3.below hb4;have hb04:=wm hb03 hb4;have hG04:=hG03.trans (zZ hb4 (row:=aG b));obtain⟨A4,c4,rfl,hc4,hr4⟩:=Rd.of_own' ho4;have hA4:∀bb off,A4=aG ⟨bb,off,none⟩->0<ks.length->bb≠b:=fun bb off e h0=>by
     have h5:=(ho4.lt bb (by rw [e];rfl)).1;have:=hset3.lt;omega
    have hks8:(ks.length:Int)<=9223372036854775807:=wu;clear ho4 hset3 hbox3 hb03 hb4 hG03 d0 d1 d2 d3 a1 a2 hrun hput;go_wp2_with fail;go_loopg [41] ks.length (fun gn i wr=>∃(j:Nat) (M':List ai),gn=ks.length - j/\i= aB aC j/\j<=ks.length/\SeekR bl (M++ [d]) (ks.take j) M'/\yy wr b M'/\w4.grownBy wr (aG b))
    case atStart=>exact⟨0,M++ [d],rfl,rfl,wu,by rw [List.take_zero];exact SeekR.nil _ _,hset4,World.grownBy.refl _ _⟩
    case round =>
     obtain⟨j,M',hgj,rfl,hj,hR,hsetr,hgr⟩:=hrel;have HGJ:=sqH hgj;have HRR:=sqH hR;clear hgj hR;by_cases hlt:j<ks.length
     rotate_left
     ·obtain rfl:j=ks.length:=by omega
      have hlb:decide (ks.length<ks.length)=false:=ab;have hfin:=HRR.o;rw [List.take_length]at hfin;rw [<-HKS.o]at hfin;have HFN:=sqH (SeekR.into HIN.o HNM.o hfin);clear hfin;go_wp2_with fail
      ((try simp only [Exit.inBlock,Exit.then]);first | (refine bodyPost_ret (results_none rfl _ _ _) rfl ?_) | (refine bodyPost_end (results_none rfl _ _ _) rfl ?_))
      exact⟨rfl,M',HFN.o,hsetr,hG04.trans hgr⟩
     have hlb:decide (j<ks.length)=true:=decide_eq_true hlt;have hj0:=we j
     have hj1:(j:Int)<(ks.length:Int):=wu;obtain⟨bb,off,hAb,_,hcell⟩:=(hr4.far hgr hA4).2 wu;subst hAb;have e0:=hcell j _ (kL ks j hlt);have hboxr:=hbox4.grown hgr (fun e=>hne (by injection e with e;exact e.symm));have hb0r:=hb04.grown hgr hb04.size (fun k hk=>by cases hk;exact hbs);have hun1:=jp (bl:=bl) HRR.o.sub;have hln1:=HRR.o.len;rw [List.length_append]at hln1;simp only [List.length_cons,List.length_nil]at hln1;have hmu:=HMU.o;have HCL:=sqH (HIH.o M' ks[j] wr wu wu hb0r hboxr hsetr);have HTK:=sqH (show ks.take (j+1)=ks.take j++ [ks[j]] from List.take_succ_eq_append_getElem hlt);generalize ks[j]=kd at *
     clear hcell hun1 hln1 hmu hb0r hboxr;go_wp2_with fail;refine HCL.o.mono ?_;rintro e_ w6 ⟨rfl,M2,hR2,hset6,hg6⟩;dsimp only;have HR2:=sqH hR2;clear hR2 e0;go_wp2_with fail;go_roundg (ks.length - (j+1))
     case measure=>exact wc HGJ
     case rel=>exact⟨j+1,M2,rfl,by go_num,wu,by rw [HTK.o];exact HRR.o.snoc HR2.o,hset6,hgr.trans hg6⟩
theorem Qd (A D:aj) (c dc:Nat) (bl:List BlobP) (ds:List ai) (w:World) (hl:bl.length<=1000) (hcap:bl.length<=c) (hcm:c<=maxLen) (hdig:∀x∈bl,x.dig.length<=1000) (hrd:Rw BlobS w A bl) (hdn:ds.length<=1000000) (hrd2:Rd w 1 D ds.length (strs ds)) :
  Calls zZZ 110 #[aA A bl.length c,aA D ds.length dc] w fun e w'=>∃v L,e= .returned v/\StrL L (Rch bl ds)/\L.length<=bl.length/\w'.ownsRow w.heap.size 9 1 v L.length (strs L)/\Below w.heap.size w w':=by
 obtain⟨b,hb⟩:=wY w.heap.size
 obtain⟨gs,hgs⟩:=wY (w.heap.size+1)
 have hm0:=yy.made w;have hm1:yy ((w.alloc (.map #[] 0)).alloc (aE #[aA A bl.length c,.map (aG w.heap.size)] 228)) w.heap.size []:=World.ownsMap.alloc hm0 _;have hx1:Arr ((w.alloc (.map #[] 0)).alloc (aE #[aA A bl.length c,.map (aG w.heap.size)] 228)) (w.alloc (.map #[] 0)).heap.size 228 [aA A bl.length c,.map (aG w.heap.size)]:=Arr.new _ _ _;rw [World.size_alloc,<-hgs,<-hb]at hx1;rw [<-hb]at hm1;have hb1:=(ws w (.map #[] 0))
 have hb2:=hb1.alloc hb1.size (aE #[aA A bl.length c,.map (aG b)] 228);have HSK:=sqH (z0t gs b c A bl w wu wu wu hl hcap hcm hdig hrd);have HB:=sqH hb;have hHb:w.heap.size<=b:=wu;have hgb:gs≠b:=wu;have hd63:(ds.length:Int)<=9223372036854775807:=wu;obtain⟨w1,hw1⟩:=wY ((w.alloc (.map #[] 0)).alloc (aE #[aA A bl.length c,.map (aG b)] 228))
 rw [<-hw1]at hm1 hx1 hb2;have HW1:=sqH hw1;have HGS:=sqH hgs;clear hm0 hb1 hrd hw1 hgs hb;have hmm:= @run_makeMap zZZ;go_enter func110,ntmps110;go_wp2_with fail;rw [<-HB.o,<-HW1.o];rw [show b+1=gs from by rw [HB.o,HGS.o]];clear HW1 HGS hmm;go_loopg [14] ds.length (fun gn i wr=>∃(j:Nat) (M':List ai),gn=ds.length - j/\i= aB aC j/\j<=ds.length/\SeekR bl [] (ds.take j) M'/\yy wr b M'/\w1.grownBy wr (aG b))
 case atStart=>exact⟨0, [],rfl,rfl,wu,by rw [List.take_zero];exact SeekR.nil _ _,hm1,World.grownBy.refl _ _⟩
 case round =>
  obtain⟨j,M',hgj,rfl,hj,hR,hsetr,hgr⟩:=hrel;have HGJ:=sqH hgj;have HRR:=sqH hR;have hboxr:=hx1.grown hgr (fun e=>hgb (by injection e with e;exact e.symm));have hb0r:=hb2.grown hgr hb2.size (fun k hk=>by cases hk;exact hHb);have hln1:=HRR.o.len;have hun0:=VL bl;have hun1:=jp (bl:=bl) (M:= []) (M':=M') (fun x h=>nomatch h);simp only [List.length_nil,Nat.zero_add]at hln1;clear hgj hR;by_cases hlt:j<ds.length
  rotate_left
  ·obtain rfl:j=ds.length:=by omega
   have hlb:decide (ds.length<ds.length)=false:=ab;have hfin:=HRR.o;rw [List.take_length]at hfin;have HFN:=sqH hfin;have a1:=hboxr.c1;have hMl:M'.length<=bl.length:=wu;clear hfin hln1 hun0 hun1;go_wp2_with fail;refine(YV b wr).mono ?_;rintro e_ wk ⟨rfl,rfl⟩;dsimp only;have hbk:=ws wr (aE #[.map (aG b)] 214);have HSO:=sqH (Zj b M' wr hsetr wu);go_wp2_with fail;refine HSO.o.mono ?_;rintro e_ wz ⟨vz,L,rfl,hL,hLl,hoz,hbz⟩;dsimp only;have hbkz:=wm hbk hbz;have hoz':=zb hoz hbk.size;go_wp2_with fail;go_ret;refine⟨vz,L,rfl,⟨hL.nd,hL.le,fun x=>by rw [hL.mem,HFN.o.all]⟩,wu,zb hoz' hb0r.size,wm hb0r hbkz⟩
  have hlb:decide (j<ds.length)=true:=decide_eq_true hlt;have hj0:=we j
  have hj1:(j:Int)<(ds.length:Int):=wu;obtain⟨bb,off,hAb,_,hcell⟩:=(hrd2.below hb0r).2 wu;subst hAb;have e0:=hcell j _ (kL ds j hlt);have HCL:=sqH (HSK.o (bl.length+1) M' ds[j] wr wu wu hb0r hboxr hsetr);have HTK:=sqH (show ds.take (j+1)=ds.take j++ [ds[j]] from List.take_succ_eq_append_getElem hlt);generalize ds[j]=kd at *
  clear hcell hun1 hln1 hun0 hb0r hboxr;go_wp2_with fail;refine HCL.o.mono ?_;rintro e_ w6 ⟨rfl,M2,hR2,hset6,hg6⟩;dsimp only;have HR2:=sqH hR2;clear hR2 e0;go_wp2_with fail;go_roundg (ds.length - (j+1))
  case measure=>exact wc HGJ
  case rel=>exact⟨j+1,M2,rfl,by go_num,wu,by rw [HTK.o];exact HRR.o.snoc HR2.o,hset6,hgr.trans hg6⟩
def ux (es:List EntP):List ai:=es.flatMap (fun x=>x.aP.map (·.dig))
def uF (bl:List BlobP):List ai:=(bl.filter (fun b=>decide (0<b.aQ))).map (·.dig)
def rts (s:StoP):List ai:=ux s.aJ++uF s.aI
theorem Vu (es:List EntP) (k:Nat) (h:k<es.length):ux (es.take (k+1))=ux (es.take k)++es[k].aP.map (·.dig):=by
 unfold ux;rw [List.take_succ_eq_append_getElem h,List.flatMap_append];simp
theorem Vt (bl:List BlobP) (k:Nat) (h:k<bl.length):uF (bl.take (k+1))=uF (bl.take k)++(if 0<bl[k].aQ then [bl[k].dig] else []):=by
 unfold uF;rw [List.take_succ_eq_append_getElem h,List.filter_append,List.map_append]
 congr 1
 by_cases hp:0<bl[k].aQ
 ·rw [if_pos hp,List.filter_cons_of_pos (by simpa using hp)];rfl
 ·rw [if_neg hp,List.filter_cons_of_neg (by simpa using hp)];rfl
theorem vM (es:List EntP) (h:∀x∈es,x.aP.length<=8):(ux es).length<=8*es.length:=by
 induction es with
 | nil=>simp [ux]
 | cons x es ih =>
  have h1:=h x ab;have h2:=ih (fun y hy=>h y (by simp [hy]));unfold ux at h2 ⊢
  rw [List.flatMap_cons,List.length_append,List.length_map,List.length_cons];omega
theorem Z0 (bl:List BlobP):(uF bl).length<=bl.length:=by
 unfold uF;rw [List.length_map];exact List.length_filter_le _ _
structure RtsOk (s:StoP):Prop where
 e:s.aJ.length<=24
 p:∀x∈s.aJ,x.aP.length<=8
 d:∀x∈s.aJ,∀q∈x.aP,q.dig.length<=1000
 b:s.aI.length<=24
 g:∀x∈s.aI,x.dig.length<=1000
theorem RtsOk.len (h:RtsOk s):(rts s).length<=216:=by
 have h1:=vM s.aJ h.p;have h2:=Z0 s.aI;have:=h.e;have:=h.b;unfold rts;rw [List.length_append];omega
theorem GoodS.rts (h:GoodS s):RtsOk s :=
 ⟨by have:=h.e.len;omega,fun x hx=>(zi (h.e.one x hx).2.1).1,fun x hx q hq=>by have:=qQ ((zi (h.e.one x hx).2.1).2 q hq).2.1;omega,h.b.len,fun x hx=>by rw [(h.b.one x hx).1];have:=qQ (zE x.data);omega⟩
theorem xt (A B:aj) (c d:Nat) (s:StoP) (R C:Int) (w:World) (hs:RtsOk s) (hrd:RdSt w A c B d s) :
  Calls zZZ 98 #[.agg #[aA A s.aI.length c,aA B s.aJ.length d,aB aC R,aB aC C]] w fun e w'=>∃v L,e= .returned v/\StrL L (fun x=>x∈rts s)/\L.length<=216/\w'.ownsRow w.heap.size 9 1 v L.length (strs L)/\Below w.heap.size w w':=by
 have hrl:=hs.len;have hel:=hs.e;have hbl:=hs.b;have HS:=sqH hs;have hx0:Arr (w.alloc (aE #[aA A s.aI.length c,aA B s.aJ.length d,aB aC R,aB aC C] 38)) w.heap.size 38 [aA A s.aI.length c,aA B s.aJ.length d,aB aC R,aB aC C]:=Arr.new w 38 _;have hb0:=ws w (aE #[aA A s.aI.length c,aA B s.aJ.length d,aB aC R,aB aC C] 38);have hx1:=hx0.alloc (.map #[] 0);have hm1:=yy.made (w.alloc (aE #[aA A s.aI.length c,aA B s.aJ.length d,aB aC R,aB aC C] 38));have hb1:=hb0.alloc hb0.size (.map #[] 0);rw [World.size_alloc]at hm1;obtain⟨b,hb⟩:=wY (w.heap.size+1)
 obtain⟨gS,hgS⟩:=wY w.heap.size
 rw [<-hgS]at hx1;rw [<-hb]at hm1;have hgb:gS≠b:=wu;have hwb:w.heap.size<=b:=wu;have HB:=sqH hb;have HG:=sqH hgS;obtain⟨w1,hw1⟩:=wY ((w.alloc (aE #[aA A s.aI.length c,aA B s.aJ.length d,aB aC R,aB aC C] 38)).alloc (.map #[] 0))
 have HW:=sqH hw1;rw [<-hw1]at hx1 hm1 hb1;have hmm:= @run_makeMap zZZ;have f1:=hx1.c1;have he63:(s.aJ.length:Int)<=9223372036854775807:=wu;have hb63:(s.aI.length:Int)<=9223372036854775807:=wu;have f1':=f1;rw [hw1,hgS]at f1';clear hw1 hgS hb hx0 hb0 hs;go_enter func98,ntmps98;go_wp2_with fail;rw [<-HW.o]
 first | rw [<-HB.o] | skip
 first | rw [<-HG.o] | skip
 clear f1' hmm f1;go_loopg [14] s.aJ.length (fun gn i wr=>∃k:Nat,gn=s.aJ.length - k/\i= aB aC k/\k<=s.aJ.length/\yy wr b (ux (s.aJ.take k))/\w1.grownBy wr (aG b))
 case atStart=>exact⟨0,rfl,rfl,wu,hm1,World.grownBy.refl _ _⟩
 case round =>
  obtain⟨k,hgk,rfl,hk,hset,hgr⟩:=hrel;have HGK:=sqH hgk;clear hgk;by_cases hlt:k<s.aJ.length
  rotate_left
  ·obtain rfl:k=s.aJ.length:=by omega
   have hlb:decide (s.aJ.length<s.aJ.length)=false:=ab;have f0:=(hx1.grown hgr (fun e=>hgb (by injection e with e;exact e.symm))).c0;rw [List.take_length]at hset;have HSET:=sqH hset;clear hset;go_wp2_with fail;clear f0;generalize hwq:wr=wq at *
   clear hwq;go_loopg [33] s.aI.length (fun gn i wr=>∃k:Nat,gn=s.aI.length - k/\i= aB aC k/\k<=s.aI.length/\yy wr b (ux s.aJ++uF (s.aI.take k))/\w1.grownBy wr (aG b))
   case atStart=>exact⟨0,rfl,rfl,wu,by rw [List.take_zero];simpa [uF] using HSET.o,hgr⟩
   case round =>
    obtain⟨k,hgk,rfl,hk,hset,hgr⟩:=hrel;have HGK:=sqH hgk;have hb0r:=hb1.grown hgr hb1.size (fun k hk=>by cases hk;exact hwb);clear hgk;by_cases hlt:k<s.aI.length
    rotate_left
    ·obtain rfl:k=s.aI.length:=by omega
     have hlb:decide (s.aI.length<s.aI.length)=false:=ab;rw [List.take_length]at hset;have hset':yy wr b (rts s):=hset;clear hset;go_wp2_with fail;refine(YV b wr).mono ?_;rintro e_ wk ⟨rfl,rfl⟩;dsimp only;have hbk:=ws wr (aE #[.map (aG b)] 214);have HSO:=sqH (Zj b (rts s) wr hset' wu);go_wp2_with fail;refine HSO.o.mono ?_;rintro e_ wz ⟨vz,L,rfl,hL,hLl,hoz,hbz⟩;dsimp only;have hbkz:=wm hbk hbz;have hoz':=zb hoz hbk.size;go_wp2_with fail;go_ret;refine⟨vz,L,rfl,hL,wu,zb hoz' hb0r.size,wm hb0r hbkz⟩
    have hlb:decide (k<s.aI.length)=true:=decide_eq_true hlt;have hk0:=we k
    have hk1:(k:Int)<(s.aI.length:Int):=wu;obtain⟨bq,oq,Bq,cq,hA,hbq,d0,d1,d2,d3,hsl⟩:=(hrd.b.below hb0r).blob_at k hlt;subst hA;have HSU:=sqH (Vt s.aI k hlt);have hxl:s.aI[k].dig.length<=maxLen:=by have:=HS.o.g _ (List.getElem_mem hlt);unfold maxLen;omega
    have HKL:=sqH hlt;have hLn:=vM s.aJ HS.o.p;have hLm:=Z0 (s.aI.take k);rw [List.length_take]at hLm;have hMl:(ux s.aJ++uF (s.aI.take k)).length<maxLen:=by rw [List.length_append];unfold maxLen;omega
    generalize s.aI[k]=q at *
    have hbox:Arr (wr.alloc (aE #[.string ⟨q.dig.toArray⟩,aA Bq q.data.length cq,aB aC q.aQ,.bool q.mark] 55)) wr.heap.size 55 [.string ⟨q.dig.toArray⟩,aA Bq q.data.length cq,aB aC q.aQ,.bool q.mark]:=Arr.new wr 55 _;have hgA:=hgr.trans (World.grownBy_alloc wr (aE #[.string ⟨q.dig.toArray⟩,aA Bq q.data.length cq,aB aC q.aQ,.bool q.mark] 55) (aG b));have hsetA:=World.ownsMap.alloc hset (aE #[.string ⟨q.dig.toArray⟩,aA Bq q.data.length cq,aB aC q.aQ,.bool q.mark] 55);have p2:=hbox.c2;have p0:=hbox.c0;clear hsl hset hLn hLm;by_cases hp:0<q.aQ
    ·have hpb:decide ((0:Int)<(q.aQ:Int))=true:=decide_eq_true wu;have hpb':decide (0<q.aQ)=true:=decide_eq_true hp;obtain⟨w3,hput,hset3,hg3⟩:=yy.put hsetA q.dig hxl hMl;have hsu:=HSU.o;rw [if_pos hp]at hsu;have HSV:=sqH hsu;have HST3:=sqH hset3;clear hsetA hset3 hp hsu HSU;go_wp2_with fail;go_roundg (s.aI.length - (k+1))
     case measure=>have:=HGK.o;have:=HKL.o;omega
     case rel=>exact⟨k+1,rfl,by go_num,by have:=HKL.o;omega,by rw [HSV.o,<-List.append_assoc];exact HST3.o,hgA.trans hg3⟩
    ·have hpb:decide ((0:Int)<(q.aQ:Int))=false:=decide_eq_false wu;have hpb':decide (0<q.aQ)=false:=decide_eq_false hp;have hsu:=HSU.o;rw [if_neg hp,List.append_nil]at hsu;have HSV:=sqH hsu;have HST3:=sqH hsetA;clear hsetA hp hsu HSU;go_wp2_with fail;go_roundg (s.aI.length - (k+1))
     case measure=>have:=HGK.o;have:=HKL.o;omega
     case rel=>exact⟨k+1,rfl,by go_num,by have:=HKL.o;omega,by rw [HSV.o];exact HST3.o,hgA⟩
  have hlb:decide (k<s.aJ.length)=true:=decide_eq_true hlt;have hk0:=we k
  have hk1:(k:Int)<(s.aJ.length:Int):=wu;have hb0r:=hb1.grown hgr hb1.size (fun k hk=>by cases hk;exact hwb);obtain⟨bq,oq,Bq,cq,hA,hbq,c0,c1,c2,c3,hsl⟩:=hrd.e.ent_at k hlt;subst hA;have d0:=((UB hb0r).1 bq _ hbq).trans c0;have d1:=((UB hb0r).1 bq _ hbq).trans c1;have d2:=((UB hb0r).1 bq _ hbq).trans c2;have d3:=((UB hb0r).1 bq _ hbq).trans c3;clear c0 c1 c2 c3;have HSU:=sqH (Vu s.aJ k hlt);have hp8:=HS.o.p _ (List.getElem_mem hlt);have HPD:=sqH (HS.o.d _ (List.getElem_mem hlt));have hLn:=vM (s.aJ.take k) (fun x hx=>HS.o.p x (List.mem_of_mem_take hx));rw [List.length_take]at hLn;have hLn2:(ux (s.aJ.take k)).length<=192:=wu;have HKL:=sqH hlt;generalize s.aJ[k]=q at *
  have hbox:Arr (wr.alloc (aE #[.string ⟨q.key.toArray⟩,aA Bq q.aP.length cq,aB aC q.aQ,aB aC q.aO] 120)) wr.heap.size 120 [.string ⟨q.key.toArray⟩,aA Bq q.aP.length cq,aB aC q.aQ,aB aC q.aO]:=Arr.new wr 120 _;have hgA:=hgr.trans (World.grownBy_alloc wr (aE #[.string ⟨q.key.toArray⟩,aA Bq q.aP.length cq,aB aC q.aQ,aB aC q.aO] 120) (aG b));have hsetA:yy _ b _:=World.ownsMap.alloc hset (aE #[.string ⟨q.key.toArray⟩,aA Bq q.aP.length cq,aB aC q.aQ,aB aC q.aO] 120);have p1:=hbox.c1;have hq63:(q.aP.length:Int)<=9223372036854775807:=wu;clear hset hLn;go_wp2_with fail;clear d0 d1 d2 d3 p1;generalize (wr.alloc (aE #[.string ⟨q.key.toArray⟩,aA Bq q.aP.length cq,aB aC q.aQ,aB aC q.aO] 120))=wA at *
  clear hbox;go_loopg [21] q.aP.length (fun gn i wr=>∃j:Nat,gn=q.aP.length - j/\i= aB aC j/\j<=q.aP.length/\yy wr b (ux (s.aJ.take k)++(q.aP.take j).map (·.dig))/\w1.grownBy wr (aG b))
  case atStart=>exact⟨0,rfl,rfl,wu,by rw [List.take_zero];simpa using hsetA,hgA⟩
  case round =>
   obtain⟨j,hgj,rfl,hj,hset,hgi⟩:=hrel;have HGJ:=sqH hgj;have hb0i:=hb1.grown hgi hb1.size (fun k hk=>by cases hk;exact hwb);clear hgj hsetA hgA;by_cases hlt2:j<q.aP.length
   rotate_left
   ·obtain rfl:j=q.aP.length:=by omega
    have hlb2:decide (q.aP.length<q.aP.length)=false:=ab;rw [List.take_length,<-HSU.o]at hset;have HST:=sqH hset;clear hset;go_wp2_with fail;go_roundg (s.aJ.length - (k+1))
    case measure=>have:=HGK.o;have:=HKL.o;omega
    case rel=>exact⟨k+1,rfl,by go_num,by have:=HKL.o;omega,HST.o,hgi⟩
   have hlb2:decide (j<q.aP.length)=true:=decide_eq_true hlt2;have hj0:=we j
   have hj1:(j:Int)<(q.aP.length:Int):=wu;obtain⟨bb,off,hAb,_,hcell⟩:=(hsl.below hb0i).rd.2 wu;subst hAb;have hat:=fun i (hi:i<3)=>yu q.aP j i hlt2 hi;have c0:=hcell (j*3+0) _ (hat 0 wu);have c1:=hcell (j*3+1) _ (hat 1 wu);have c2:=hcell (j*3+2) _ (hat 2 wu);have hpd:q.aP[j].dig.length<=maxLen:=by have:=HPD.o _ (List.getElem_mem hlt2);unfold maxLen;omega
   have HTK:=sqH (show(q.aP.take (j+1)).map (·.dig)=(q.aP.take j).map (·.dig)++ [q.aP[j].dig] from by rw [List.take_succ_eq_append_getElem hlt2,List.map_append];rfl);have HJL:=sqH hlt2;generalize q.aP[j]=pt at *
   obtain⟨pn,pd,psz⟩:=pt;dsimp only [yn,List.getElem?_cons_zero,List.getElem?_cons_succ]at c0 c1 c2 hpd HTK;rw [Nat.add_zero]at c0;rw [show off+(j*3+1)=off+j*3+1 by omega]at c1;rw [show off+(j*3+2)=off+j*3+2 by omega]at c2;have hMl:(ux (s.aJ.take k)++(q.aP.take j).map (·.dig)).length<maxLen:=by rw [List.length_append,List.length_map,List.length_take];unfold maxLen;omega
   have hbx:Arr (wr.alloc (aE #[.string ⟨pn.toArray⟩,.string ⟨pd.toArray⟩,aB aC psz] 85)) wr.heap.size 85 [.string ⟨pn.toArray⟩,.string ⟨pd.toArray⟩,aB aC psz]:=Arr.new wr 85 _;have hgB:=hgi.trans (World.grownBy_alloc wr (aE #[.string ⟨pn.toArray⟩,.string ⟨pd.toArray⟩,aB aC psz] 85) (aG b));have hsetB:yy _ b _:=World.ownsMap.alloc hset (aE #[.string ⟨pn.toArray⟩,.string ⟨pd.toArray⟩,aB aC psz] 85);have p1:=hbx.c1;obtain⟨w3,hput,hset3,hg3⟩:=yy.put hsetB pd hpd hMl;have HST3:=sqH hset3;clear hat hcell hset hset3 hsetB;go_wp2_with fail;go_roundg (q.aP.length - (j+1))
   case measure=>have:=HGJ.o;have:=HJL.o;omega
   case rel=>exact⟨j+1,rfl,by go_num,by have:=HJL.o;omega,by rw [HTK.o,<-List.append_assoc];exact HST3.o,hgB.trans hg3⟩
theorem QR (A B:aj) (c d:Nat) (s:StoP) (R C:Int) (w:World) (hs:RtsOk s) (hrd:RdSt w A c B d s) :
  Calls zZZ 113 #[.agg #[aA A s.aI.length c,aA B s.aJ.length d,aB aC R,aB aC C]] w fun e w'=>∃v L,e= .returned v/\StrL L (Rch s.aI (rts s))/\L.length<=s.aI.length/\w'.ownsRow w.heap.size 9 1 v L.length (strs L)/\Below w.heap.size w w':=by
 have HOK:=sqH hs;have hx0:Arr (w.alloc (aE #[aA A s.aI.length c,aA B s.aJ.length d,aB aC R,aB aC C] 38)) w.heap.size 38 [aA A s.aI.length c,aA B s.aJ.length d,aB aC R,aB aC C]:=Arr.new w 38 _;have hb0:=ws w (aE #[aA A s.aI.length c,aA B s.aJ.length d,aB aC R,aB aC C] 38);have hrd1:=hrd.below hb0;clear hs hrd;go_enter func113,ntmps113;go_wp2_with fail;generalize (w.alloc (aE #[aA A s.aI.length c,aA B s.aJ.length d,aB aC R,aB aC C] 38))=w1 at *
 obtain⟨gS,hgS⟩:=wY w.heap.size
 rw [<-hgS]at hx0 ⊢
 have HSB:=sqH (show ∀w',Below w1.heap.size w1 w'->(wI w' gS (aA A s.aI.length c) (aA B s.aJ.length d) (aB aC R) (aB aC C)) from
  fun w' hb=>sqC4 (hx0.below hb))
 obtain⟨HRD,HB1,HgS⟩:=sqJ3 hrd1 hb0 hgS;clear hgS hx0 hrd1 hb0;refine wp_region_held_drew (S:=(fun w'=>wI w' gS (aA A s.aI.length c) (aA B s.aJ.length d) (aB aC R) (aB aC C))) ww ?_ (fun hHeld=> ?_)
 ·exact HSB.o _ (Below.refl _ w1).drew
 have hB:=(Below.refl w1.heap.size w1).drew;generalize w1.drew=wn0 at *
 refine wQ 0 ?_;refine wQ 1 ?_;refine wQ 2 ?_;refine wU 3 fun K hK=>?_;go_simp;refine(xt A B c d s R C wn0 HOK.o (HRD.o.below hB)).mono ?_;rintro e5 w5 ⟨v5,L1,rfl,hL1,hl1,ho5,hb5⟩;obtain⟨A3,c3,rfl,_,_⟩:=Rd.of_own' ho5;have HL1:=sqH hL1;clear hL1;dsimp only;refine kn hK (HSB.o _ (hB.trans (Below.mono (show Below wn0.heap.size wn0 _ from by(first | exact hb5 | exact hb6 | exact Below.refl _ _)) hB.size))) (Below wn0.heap.size wn0) (fun W=>W.ownsRow w1.heap.size 9 1 (aA A3 L1.length c3) L1.length (strs L1)) (by first | exact hb5 | exact hb6 | exact Below.refl _ _) (zb ho5 hB.size) fun wn1 hHeld hst hnew=> ?_;have hB:=wm hB hst;have h3:=hnew;clear hst;clear hK K
 try simp only [sqP]
 refine wU 4 fun K hK=>?_;go_simp;refine(Qd A A3 c c3 s.aI L1 wn1 (by have:=HOK.o.b;omega) HRD.o.bc HRD.o.bm HOK.o.g (HRD.o.b.below hB) wu (Rd.of_own h3)).mono ?_;rintro e6 w6 ⟨v6,L2,rfl,hL2,hl2,ho6,hb6⟩;have HL2:=sqH hL2;clear hL2;dsimp only;refine kn hK (HSB.o _ (hB.trans (Below.mono (show Below wn1.heap.size wn1 _ from by(first | exact hb5 | exact hb6 | exact Below.refl _ _)) hB.size))) (Below wn1.heap.size wn1) (fun W=>W.ownsRow w1.heap.size 9 1 v6 L2.length (strs L2)) (by first | exact hb5 | exact hb6 | exact Below.refl _ _) (zb ho6 hB.size) fun wn2 hHeld hst hnew=> ?_;have hB:=wm hB hst;have h4:=hnew;clear hst;clear hK K
 refine wQ 5 ?_;refine wpAnyH_done ww ?_ _
 try dsimp only [Exit.then]
 clear hHeld;have hBz:=wm HB1.o hB;clear hB h3;have e9:=HgS.o;subst e9
 refine wL ?_;intros;go_ret;refine⟨v6,L2,rfl,⟨HL2.o.nd,HL2.o.le,fun x=> ?_⟩,hl2,zb h4 HB1.o.size,hBz⟩;rw [HL2.o.mem];exact⟨fun h=>h.mono fun y hy hi=> .root ((HL1.o.mem y).1 hy) hi,fun h=>h.mono fun y hy hi=> .root ((HL1.o.mem y).2 hy) hi⟩
theorem xC (hr:RisesBy (·.dig) bl) {b:BlobP} (hb:b∈bl):kids bl b.dig=(qU b.data).1.map (·.dig):=by
 cases hf:bl.findIdx? (fun x=>x.dig==b.dig) with
 | none =>
  have:=jS.1 ⟨b,hb,rfl⟩;rw [hf]at this;cases this
 | some i =>
  have hi:i<bl.length:=(List.findIdx?_eq_some_iff_getElem.1 hf).1;have hd:bl[i].dig=b.dig:=by simpa using (List.findIdx?_eq_some_iff_getElem.1 hf).2.1
  have e:=hr.inj (List.getElem_mem hi) hb hd;have:=XZ hf hi;rw [e]at this;exact this
def z1l (bl:List BlobP) (L:List ai):List BlobP:=bl.filter (fun b=>decide (b.dig∈L))
noncomputable def cln (s:StoP):StoP:= { s with aI:=s.aI.filter (fun b=> @decide (Rch s.aI (rts s) b.dig) (Classical.propDecidable _)) }
theorem Xr {b:BlobP}:b∈(cln s).aI↔b∈s.aI/\Rch s.aI (rts s) b.dig:=by
 unfold cln;rw [List.mem_filter];exact and_congr_right fun _=> @decide_eq_true_iff _ (Classical.propDecidable _)
theorem UG {L:List ai} (hL:StrL L (Rch s.aI (rts s))):z1l s.aI L=(cln s).aI:=by
 unfold cln z1l;refine List.filter_congr fun b hb=> ?_;have:=hL.mem b.dig;by_cases h:b.dig∈L
 ·rw [decide_eq_true h];exact(@decide_eq_true _ (Classical.propDecidable _) (this.1 h)).symm
 ·rw [decide_eq_false h];exact(@decide_eq_false _ (Classical.propDecidable _) (fun h2=>h (this.2 h2))).symm
section
variable {bl bl':List BlobP} {ds ds':List ai}
theorem InB.sub {x:ai} (hs:∀b∈bl',b∈bl) (h:InB bl' x):InB bl x:=by
 obtain⟨b,hb,e⟩:=h;exact⟨b,hs b hb,e⟩
theorem vJ (hr:RisesBy (·.dig) bl) (hr':RisesBy (·.dig) bl') (hs:∀b∈bl',b∈bl) {x:ai} (hx:InB bl' x):kids bl' x=kids bl x:=by
 obtain⟨b,hb,rfl⟩:=hx;rw [xC hr' hb,xC hr (hs b hb)]
theorem Rch.sub (hr:RisesBy (·.dig) bl) (hr':RisesBy (·.dig) bl') (hs:∀b∈bl',b∈bl) (hd:∀x∈ds',x∈ds) {x:ai} (h:Rch bl' ds' x):Rch bl ds x:=by
 induction h with
 | root h1 h2=>exact .root (hd _ h1) (h2.sub hs)
 | step h1 h2 h3 ih=>exact .step ih (by rw [<-vJ hr hr' hs h1.inB];exact h2) (h3.sub hs)
theorem Rch.keepb (hr:RisesBy (·.dig) bl) (hr':RisesBy (·.dig) bl') (hs:∀b∈bl',b∈bl) (hd:∀x∈ds,x∈ds') (hk:∀x,Rch bl ds x->InB bl' x) {x:ai} (h:Rch bl ds x):Rch bl' ds' x:=by
 induction h with
 | root h1 h2=>exact .root (hd _ h1) (hk _ (.root h1 h2))
 | step h1 h2 h3 ih=>exact .step ih (by rw [vJ hr hr' hs (hk _ h1)];exact h2) (hk _ (.step h1 h2 h3))
end
theorem Rch.dmono {ds':List ai} {x:ai} (hd:∀x∈ds,x∈ds') (h:Rch bl ds x):Rch bl ds' x:=h.mono fun y hy hb=> .root (hd y hy) hb
theorem Xs (h:RisesBy (·.dig) s.aI):RisesBy (·.dig) (cln s).aI:=List.Pairwise.filter _ h
theorem z11:∀b∈(cln s).aI,b∈s.aI:=fun b hb=>(Xr.1 hb).1
theorem ye (s:StoP):(cln s).aJ=s.aJ:=rfl
theorem yf (s:StoP):(cln s).aL=s.aL:=rfl
theorem vX (s:StoP):(cln s).aK=s.aK:=rfl
theorem z1y {b:BlobP} (hb:b∈s.aI) (hp:0<b.aQ):b.dig∈rts s :=
 List.mem_append_right _ (List.mem_map.2 ⟨b,List.mem_filter.2 ⟨hb,decide_eq_true hp⟩,rfl⟩)
theorem Kv {x:EntP} {p:PartP} (hx:x∈s.aJ) (hp:p∈x.aP):p.dig∈rts s :=
 List.mem_append_left _ (List.mem_flatMap.2 ⟨x,hx,List.mem_map.2 ⟨p,hp,rfl⟩⟩)
theorem jq (p:BlobP->Bool):∀l:List BlobP,usd (l.filter p)<=usd l
 | []=>Nat.le_refl _
 | b::l=>by
  have ih:=jq p l
  cases h:p b with
  | true=>rw [List.filter_cons_of_pos h];unfold usd at *;simp only [List.map_cons,List.sum_cons];omega
  | false=>rw [List.filter_cons_of_neg (by simp [h])];unfold usd at *;simp only [List.map_cons,List.sum_cons];omega
theorem UH (s:StoP):usd (cln s).aI<=usd s.aI:=jq _ _
theorem z10 (s:StoP):(cln s).aI.length<=s.aI.length:=List.length_filter_le _ _
theorem yN (h:GoodS s):GoodS (cln s) :=
 ⟨⟨Nat.le_trans (z10 s) h.b.len,fun b hb=>h.b.one b (z11 b hb),Xs h.b.ris⟩,h.e,h.aL,Nat.le_trans (UH s) h.used,h.aK,fun x hx=>⟨(h.ent x hx).1,fun p hp=>by
  obtain⟨b,hb,e1,e2⟩:=(h.ent x hx).2 p hp
  exact⟨b,Xr.2 ⟨hb,.root (by rw [e1];exact Kv hx hp) ⟨b,hb,rfl⟩⟩,e1,e2⟩⟩⟩
theorem Zx {es:List EntP} (h:GoodS s) (hs:es.Sublist s.aJ):GoodS { s with aJ:=es } :=
 ⟨h.b,⟨Nat.le_trans hs.length_le h.e.len,fun x hx=>h.e.one x (hs.subset hx),List.Pairwise.sublist hs h.e.ris⟩,h.aL,h.used,h.aK,fun x hx=>h.ent x (hs.subset hx)⟩
noncomputable def uK (more:Nat):Nat->StoP->List ai->Option (StoP×List ai)
 | 0,_,_=>none
 | n+1,s,g=>if usd s.aI+more<=s.aL then aG (s,g) else
  match ZQ s.aJ s.aJ.length with
  | none=>none
  | some i=>match s.aJ[i]? with
   | none=>none
   | some x=>uK more n (cln { s with aJ:=s.aJ.eraseIdx i }) (g++ [x.key])
noncomputable def yh (more:Nat) (s:StoP):Option (StoP×List ai) :=
 if usd s.aI+more<=s.aL then aG (s, []) else uK more (s.aJ.length+1) (cln s) []
theorem XJ {n:Nat} {g':List ai} (h:uK more (n+1) s g=aG (t,g')) :
  (usd s.aI+more<=s.aL/\t=s/\g'=g)\/(¬usd s.aI+more<=s.aL/\∃i,∃hi:i<s.aJ.length,ZQ s.aJ s.aJ.length=aG i/\uK more n (cln { s with aJ:=s.aJ.eraseIdx i }) (g++ [s.aJ[i].key])=aG (t,g')):=by
 unfold uK at h;by_cases hf:usd s.aI+more<=s.aL
 ·rw [if_pos hf]at h;cases h
  exact .inl ⟨hf,rfl,rfl⟩
 ·rw [if_neg hf]at h;cases ho:ZQ s.aJ s.aJ.length with
  | none=>rw [ho]at h;cases h
  | some i =>
   have hi:=(xj s.aJ _ i ho).2;rw [ho]at h;simp only [List.getElem?_eq_getElem hi]at h;exact .inr ⟨hf,i,hi,rfl,h⟩
theorem ug {α:Type} (l:List α) (i:Nat):∀x∈l.eraseIdx i,x∈l:=fun x hx=>List.mem_of_mem_eraseIdx hx
theorem ZA {more:Nat}:∀(n:Nat) (s t:StoP) (g g':List ai),GoodS s->uK more n s g=aG (t,g')->GoodS t/\usd t.aI+more<=t.aL/\t.aJ.length+g'.length=s.aJ.length+g.length/\t.aL=s.aL/\t.aK=s.aK
 | 0,s,t,g,g',hg,h=>by unfold uK at h;cases h
 | n+1,s,t,g,g',hg,h=>by
  rcases XJ h with ⟨h1,rfl,rfl⟩ | ⟨h1,i,hi,ho,h2⟩
  ·exact⟨hg,h1,rfl,rfl,rfl⟩
  ·have h3:=ZA n _ t _ g' (yN (Zx hg (List.eraseIdx_sublist _ _))) h2
   refine⟨h3.1,h3.2.1,?_,h3.2.2.2⟩
   have h4:=h3.2.2.1
   rw [ye]at h4
   simp only [List.length_eraseIdx_of_lt hi,List.length_append,List.length_cons,List.length_nil]at h4
   omega
theorem j6 (hg:GoodS s) (h:yh more s=aG (t,g)):GoodS t/\usd t.aI+more<=t.aL/\t.aJ.length+g.length=s.aJ.length/\t.aL=s.aL/\t.aK=s.aK:=by
 unfold yh at h;by_cases hf:usd s.aI+more<=s.aL
 ·rw [if_pos hf]at h;cases h;exact⟨hg,hf,rfl,rfl,rfl⟩
 ·rw [if_neg hf]at h;have:=ZA _ _ t [] g (yN hg) h;simpa [ye,yf,vX] using this
theorem yE {α:Type} {p:α->Bool}:∀(l:List α) (i:Nat) (hi:i<l.length),p l[i]=false->(l.eraseIdx i).filter p=l.filter p
 | x::l,0,_,h=>by
  rw [List.eraseIdx_cons_zero,List.filter_cons_of_neg]
  simp only [List.getElem_cons_zero]at h
  simp [h]
 | x::l,i+1,hi,h=>by
  have ih:=yE l i (by simpa using hi) (by simpa using h)
  rw [List.eraseIdx_cons_succ]
  cases hx:p x with
  | true=>rw [List.filter_cons_of_pos hx,List.filter_cons_of_pos hx,ih]
  | false=>rw [List.filter_cons_of_neg (by simp [hx]),List.filter_cons_of_neg (by simp [hx]),ih]
end Go.Proofs.YtcjmjaefcjcomaaGreat
