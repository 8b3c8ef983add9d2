/- Lemmas, as stated. -/
import Derived.Sort.KeysCollected
import Derived.Sort.OwnSorted
import Derived.Lib.SlicesCompact
import Derived.Lib.RowBridge
import Derived.Test.YtaboknhfiijipaaGreatQO05
set_option linter.unusedVariables false
set_option linter.unusedSimpArgs false
set_option maxRecDepth 100000
set_option maxHeartbeats 4000000
open Go.Proofs.Tryz
open Go.Proofs.Tryz renaming prog->zZZ
open Go.Value renaming slice->aA,int->aB,string->aD
namespace Go.Proofs.YtaboknhfiijipaaGreat
open Go.RowKit
variable {p:List UInt8->Prop} {L:List ai} {a b:ai}
def strs (L:List ai):ak:=L.map fun s=> aD ⟨s.toArray⟩
theorem yl (L:List ai) (k:Nat) (h:k<L.length):(strs L)[k]?=some (aD ⟨L[k].toArray⟩):=by
 rw [strs,List.getElem?_map,List.getElem?_eq_getElem h];rfl
structure StrL (L:List ai) (p:List UInt8->Prop):Prop where
 nd:L.Nodup
 le:L.Pairwise (fun x y=>leB x y=true)
 mem:∀x,x∈L↔p x
theorem StrL.uniq {L':List ai} (h:StrL L p) (h':StrL L' p):L=L':=by
 have hp:L.Perm L':=(List.perm_ext_iff_of_nodup h.nd h'.nd).2 fun x=>by rw [h.mem,h'.mem]
 refine List.Perm.eq_of_pairwise (le:=fun a b=>leB a b=true) (fun a b _ _ h1 h2=> ?_) h.le h'.le hp;simp only [leB,decide_eq_true_eq]at h1 h2;exact List.le_antisymm h1 h2
def nub:List ai->List ai
 | []=> []
 | x::l=>if x∈l then nub l else x::nub l
theorem xP (x:ai):∀l,x∈nub l↔x∈l
 | []=>Iff.rfl
 | y::l=>by
  rw [nub]
  split
  ·rename_i h
   rw [xP x l,List.mem_cons]
   exact⟨.inr,fun h2=>h2.elim (fun e=>e▸h) id⟩
  ·rw [List.mem_cons,xP x l,List.mem_cons]
theorem Zs:∀l,(nub l).Nodup
 | []=>List.nodup_nil
 | y::l=>by
  rw [nub]
  split
  ·exact Zs l
  ·rename_i h
   exact List.nodup_cons.2 ⟨fun h2=>h ((xP y l).1 h2),Zs l⟩
theorem J6 (x y:ai):leB x y= !Op.bytesLess y x:=by
 rw [Kw];show decide (x<=y)=_;by_cases h:y<x
 ·rw [decide_eq_true h,decide_eq_false (by rw [List.not_le];exact h)];rfl
 ·rw [decide_eq_false h,decide_eq_true (List.not_lt.1 h)];rfl
theorem Yg (A:aj) (c:Nat) (L:List ai) (d:ai) (w:World) (hl:L.length<=1000000000) (hr:Rd w 1 A L.length (strs L)) :
  Calls zZZ 98 #[aA A L.length c,aD ⟨d.toArray⟩] w fun e w'=>e= .returned (.bool (decide (d∈L)))/\w'=w:=by
 rcases Nat.eq_zero_or_pos L.length with h0 | h0
 ·obtain rfl:L= []:=List.eq_nil_of_length_eq_zero h0;exact(Tryz.slices_Contains_string_empty A c ⟨d.toArray⟩ w).mono fun e w' ⟨h1,h2⟩=>⟨by rw [h1];simp,h2⟩
 ·obtain⟨b,off,rfl,_,hc⟩:=hr.2 h0;have hz:(L.map fun s=>(⟨s.toArray⟩:ByteArray)).length=L.length:=List.length_map _;refine(Tryz.slices_Contains_string b off L.length c (L.map fun s=>⟨s.toArray⟩) ⟨d.toArray⟩ w (by rw [hz];exact Nat.le_refl _) wu (fun j hj=> ?_)).mono ?_
  ·have hj':j<L.length:=wu
   rw [hc j _ (yl L j hj')];simp [List.getD,List.getElem?_map,List.getElem?_eq_getElem hj']
  ·rintro e w' ⟨rfl,rfl⟩;refine⟨?_,rfl⟩
   congr 2
   rw [<-hz,List.take_length];by_cases hm:d∈L
   ·rw [decide_eq_true hm,Lib.containsS_iff];exact List.mem_map.2 ⟨d,hm,rfl⟩
   ·rw [decide_eq_false hm,<-Bool.not_eq_true,Lib.containsS_iff];intro h;obtain⟨x,hx,e⟩:=List.mem_map.1 h;exact hm (by rw [<-z0y.1 e];exact hx)
open Go.Sort
theorem uU:El zZZ 35 9 1 16:=El.mk' (z:= aD ByteArray.empty) underlying35 ww rfl wu wu
theorem jP (L:List ai):∀u∈strs L,u.oneCell'=true:=by
 intro u hu;obtain⟨s,_,rfl⟩:=List.mem_map.1 hu;rfl
theorem vI (L M:List ai):strs (L++M)=strs L++strs M:=by simp [strs]
theorem Xn {c:ai} (h1:leB a b=true) (h2:leB b c=true):leB a c=true:=by simp only [leB,decide_eq_true_eq] at *;exact List.le_trans h1 h2
theorem Uf (h1:leB a b=true) (h2:leB b a=true):a=b:=by simp only [leB,decide_eq_true_eq] at *;exact List.le_antisymm h1 h2
theorem XX (L:List ai):(L.mergeSort leB).Pairwise (fun x y=>leB x y=true):=by
 have to:∀a b:ai,(leB a b||leB b a)=true:=fun a b=>by simp only [leB,Bool.or_eq_true,decide_eq_true_eq];exact List.le_total a b
 have tr:∀a b c:ai,leB a b=true->leB b c=true->leB a c=true:=fun a b c h1 h2=>Xn h1 h2;exact List.pairwise_mergeSort tr to L
theorem uR (d:Array (ai)) (hp:∀i j,i<j->j<d.size->leB d[i]! d[j]! = true):∀m,m<=d.size ->
  (∀x,x∈Lib.compactUpTo d m↔∃j,j<m/\d[j]! = x)/\(Lib.compactUpTo d m).Pairwise (fun x y=>leB x y=true)/\(Lib.compactUpTo d m).Nodup
 | 0,_=>⟨fun x=>by simp [Lib.compactUpTo],by simp [Lib.compactUpTo],by simp [Lib.compactUpTo]⟩
 | m+1,hm=>by
  obtain⟨h1,h2,h3⟩:=uR d hp m wu
  rw [Lib.compactUpTo_succ]
  cases hk:Lib.keeps d m with
  | false =>
   rw [if_neg ab,List.append_nil]
   refine⟨fun x=> ?_,h2,h3⟩
   rw [h1]
   constructor
   ·rintro⟨j,hj,e⟩;exact⟨j,wu,e⟩
   ·rintro⟨j,hj,e⟩
    by_cases hjm:j=m
    ·subst hjm
     have:¬(j=0\/d[j]! ≠ d[j - 1]!):=by simpa [Lib.keeps] using hk
     have h0:j≠0:=fun h=>this (.inl h)
     have he:d[j]! = d[j - 1]! := Classical.not_not.1 fun h=>this (.inr h)
     exact⟨j - 1,wu,by rw [<-he];exact e⟩
    ·exact⟨j,wu,e⟩
  | true =>
   rw [if_pos rfl]
   have hlt:∀x∈Lib.compactUpTo d m,leB x d[m]! = true/\x≠d[m]! := fun x hx=>by
    obtain⟨j,hj,rfl⟩:=(h1 x).1 hx
    refine⟨hp j m hj wu,fun e=> ?_⟩
    have hkk:m=0\/d[m]! ≠ d[m - 1]! := by simpa [Lib.keeps] using hk
    rcases hkk with h | h
    ·omega
    ·refine h (Uf ?_ (hp (m - 1) m wu wu))
     rw [<-e]
     rcases Nat.lt_or_ge j (m - 1) with hj2 | hj2
     ·exact hp j (m - 1) hj2 wu
     ·have:j=m - 1:=by omega
      rw [this];simp [leB]
   refine⟨fun x=> ?_,?_,?_⟩
   ·rw [List.mem_append,h1,List.mem_singleton]
    constructor
    ·rintro(⟨j,hj,e⟩ | rfl)
     ·exact⟨j,wu,e⟩
     ·exact⟨m,wu,rfl⟩
    ·rintro⟨j,hj,e⟩
     by_cases hjm:j=m
     ·subst hjm;exact .inr e.symm
     ·exact .inl ⟨j,wu,e⟩
   ·exact List.pairwise_append.2 ⟨h2,List.pairwise_singleton _ _,fun x hx y hy=>by rw [List.mem_singleton.1 hy];exact(hlt x hx).1⟩
   ·exact List.nodup_append.2 ⟨h3,ab,fun x hx y hy=>by rw [List.mem_singleton.1 hy];exact(hlt x hx).2⟩
theorem Z6 (hp:L.Pairwise (fun x y=>leB x y=true)):StrL (Lib.compact L) (fun x=>x∈L):=by
 have hsz:L.toArray.size=L.length:=ab;obtain⟨h1,h2,h3⟩:=uR L.toArray (fun i j hij hj=>by
  have hj':j<L.length:=by simpa using hj
  have:=List.pairwise_iff_getElem.1 hp i j wu hj' hij;simpa [getElem!_pos,hj',show i<L.length by omega] using this) L.length ab
 refine⟨h3,h2,fun x=> ?_⟩;show x∈Lib.compactUpTo L.toArray L.length↔_;rw [h1];constructor
 ·rintro⟨j,hj,rfl⟩;simp [getElem!_pos,hj]
 ·intro hx;obtain⟨j,hj,rfl⟩:=List.mem_iff_getElem.1 hx;exact⟨j,hj,by simp [getElem!_pos,hj]⟩
theorem StrL.len {N:List ai} (h:StrL L p) (hn:N.Nodup) (hm:∀x,x∈N↔p x):L.length=N.length :=
 ((List.perm_ext_iff_of_nodup h.nd hn).2 fun x=>by rw [h.mem,hm]).length_eq
theorem VI (base:Nat) (v:Value) (L:List ai) (w:World) (hl:L.length<=1000000000) (h:w.ownsRow base 9 1 v L.length (strs L)) :
  Calls zZZ 130 #[v] w fun e w'=>e= .returned (.tuple #[])/\w'.ownsRow base 9 1 v L.length (strs (L.mergeSort leB))/\w.grownBy w' v.ownBlock:=by
 rcases h.2 with ⟨rfl,h0⟩ | ⟨g,cap,cur,rfl,hbase,hb,h1,h2,h3,h4⟩
 ·have hL:L= []:=List.eq_nil_of_length_eq_zero h0;subst hL;refine(Tryz.slices_Sort_string_none none 0 w).mono ?_;rintro e w' ⟨rfl,rfl⟩;exact⟨rfl,by rw [List.mergeSort_nil];exact World.ownsRow_nil _ _ _ _,World.grownBy.refl _ _⟩
 ·refine(Tryz.slices_Sort_string g 0 cap L w (holds_of_block hb (by rw [Nat.mul_one]at h4;exact h4)) (Array.getElem?_eq_some_iff.1 hb).1 wu).mono ?_;rintro e w' ⟨rfl,n,os,rfl⟩;exact⟨rfl,ownsRow_sorted ab hbase hb h1 h2 h3,grownBy_sorted _⟩
theorem ZL (base:Nat) (v:Value) (L:List ai) (w:World) (hl:L.length<=1000000000) (h:w.ownsRow base 9 1 v L.length (strs L)) :
  Calls zZZ 163 #[v] w fun e w'=>∃v',e= .returned v'/\w'.ownsRow base 9 1 v' (Lib.compact L).length (strs (Lib.compact L))/\w.grownBy w' v.ownBlock:=by
 rcases h.2 with ⟨rfl,h0⟩ | ⟨g,cap,cur,rfl,hbase,hb,h1,h2,h3,h4⟩
 ·have hL:L= []:=List.eq_nil_of_length_eq_zero h0;subst hL;refine(Tryz.slices_Compact_string_empty none 0 w).mono ?_;rintro e w' ⟨rfl,rfl⟩;exact⟨_,rfl,World.ownsRow_nil _ _ _ _,World.grownBy.refl _ _⟩
 ·refine(Tryz.slices_Compact_string g 0 cap L w (holds_of_block hb (by rw [Nat.mul_one]at h4;exact h4)) wu h1).mono ?_;rintro e w' ⟨rfl,q,rfl⟩;have hcl:=Lib.compact_length_le L;have hgr:∀W:World,Go.Sort.grow W #[]=W:=fun W=>by simp [Go.Sort.grow]
  have hlen:(Lib.compact L++List.replicate (L.length - (Lib.compact L).length) []).length=L.length:=by simp;omega
  have ho:=ownsRow_sorted (n:=q) (os:=#[]) hlen hbase hb h1 h2 h3;rw [hgr]at ho;have hc:=z0k ho hcl;refine⟨_,rfl,?_,?_⟩
  ·have e:((Lib.compact L++List.replicate (L.length - (Lib.compact L).length) []).map encStr).take ((Lib.compact L).length*1)=strs (Lib.compact L):=by
    rw [Nat.mul_one,List.map_append,List.take_append_of_le_length ab,List.take_of_length_le ab];rfl
   rw [e]at hc;exact hc
  ·have:=grownBy_sorted (w:=w) (g:=g) (n:=q) (os:=#[]) (Lib.compact L++List.replicate (L.length - (Lib.compact L).length) []).toArray;rw [hgr]at this;exact this
theorem kM (A:aj) (c:Nat) (L:List ai) (w:World) (hl:L.length<=1000000000) (hr:Rd w 1 A L.length (strs L)) :
  Calls zZZ 80 #[aA A L.length c] w fun e w'=>∃v,e= .returned v/\w'.ownsRow w.heap.size 9 1 v L.length (strs L)/\Below w.heap.size w w':=by
 rcases Nat.eq_zero_or_pos L.length with h0 | h0
 ·obtain rfl:L= []:=List.eq_nil_of_length_eq_zero h0;cases A with
  | none =>
   refine(Tryz.slices_Clone_string_nil 0 c w).mono ?_;rintro e w' ⟨rfl,rfl⟩;exact⟨_,rfl,World.ownsRow_nil _ _ _ _,Below.refl _ _⟩
  | some a =>
   refine(Tryz.slices_Clone_string_zero a c w).mono ?_;rintro e w' ⟨v,rfl,h1,_,h2⟩;exact⟨_,rfl,h1,h2⟩
 ·obtain⟨b,off,rfl,_,hc⟩:=hr.2 h0;have hz:(L.map fun s=>(⟨s.toArray⟩:ByteArray)).length=L.length:=List.length_map _;refine(Tryz.slices_Clone_string b off L.length c (L.map fun s=>⟨s.toArray⟩) w wu wu (fun j hj=> ?_)).mono ?_
  ·have hj':j<L.length:=wu
   rw [hc j _ (yl L j hj')];simp [List.getD,List.getElem?_map,List.getElem?_eq_getElem hj']
  ·rintro e w' ⟨v,rfl,h1,_,h2⟩;refine⟨v,rfl,?_,h2⟩;rw [List.take_of_length_le wu,List.map_map]at h1;exact h1
theorem ZQ (n:Nat) (N:Int) (hN:N=n) (w:World) (hn:n<=8000000000) :
  Calls zZZ 135 #[aA none 0 0,aB .i64 N] w fun e w'=>∃v,e= .returned v/\w'.ownsRow w.heap.size 9 1 v 0 []/\Below w.heap.size w w':=by
 subst hN;by_cases h0:n=0
 ·subst h0;go_enter func135,ntmps135;go_wp2_with fail;go_ret;exact⟨_,rfl,World.ownsRow_nil _ _ _ _,Below.refl _ _⟩
 ·have hp:0<n:=wu
  go_enter func135,ntmps135
  refine wL ?_;intros;refine KZ rfl (.tmp 20) (.tmp 21) rfl uU underlying3 n hp wu ac ac ?_;intro A c w1 hown1 hc1 hb1;cases A with
  | none =>
   rcases hown1.2 with ⟨h1,_⟩ | ⟨g,_,_,h1,_⟩
   ·injection h1;omega
   ·cases h1
  | some ad =>
   go_wp2_with fail;go_ret;exact⟨_,rfl,hown1,hb1⟩
theorem uJ (g:Nat) (A B:aj) (c d:Nat) (L M:List ai) (w:World) (hc:L.length<=c) (hd:M.length<=d) (hl:L.length<=1000000000) (hm:M.length<=1000000000)
  (h0:w.cell? ⟨g,0,none⟩=some (aA A L.length c)) (h1:w.cell? ⟨g,1,none⟩=some (aA B M.length d)) (hr:Rd w 1 A L.length (strs L)) (hr':Rd w 1 B M.length (strs M)) :
  Calls zZZ 85 #[aA (some ⟨g,0,none⟩) 2 2] w fun e w'=>∃v,e= .returned v/\w'.ownsRow w.heap.size 9 1 v (L++M).length (strs (L++M))/\Below w.heap.size w w':=by
 obtain⟨n,hn⟩:=wY L.length
 obtain⟨m,hm'⟩:=wY M.length
 rw [<-hn]at h0 hr hc hl;rw [<-hm']at h1 hr' hd hm;have HN:=sqH hn;have HM:=sqH hm';clear hn hm';go_enter func85,ntmps85;go_wp2_with fail;go_loop [3,11] (fun s i=>(i= aB .i64 0/\s= aB .i64 0)\/(i= aB .i64 1/\s= aB .i64 n)\/(i= aB .i64 2/\s= aB .i64 ((n:Int)+m))) (fun _ i=>2 - (intOf i).toNat)
 case atStart=>exact .inl ⟨rfl,rfl⟩
 case round =>
  rcases hrel with ⟨rfl,rfl⟩ | ⟨rfl,rfl⟩ | ⟨rfl,rfl⟩
  ·go_wp2_with fail;go_round
   case rel=>exact .inr (.inl ⟨rfl,rfl⟩)
   case measure=>simp [intOf]
  ·go_wp2_with fail;go_round
   case rel=>exact .inr (.inr ⟨rfl,by go_num⟩)
   case measure=>simp [intOf]
  ·go_wp2_with fail;refine(ZQ (n+m) _ wu _ wu).mono ?_;rintro e_ w1 ⟨v1,rfl,hown1,hb1⟩;dsimp only;go_wp2_with fail;go_loopw [6,27] (fun v i wr=>((i= aB .i64 0/\wr.ownsRow w.heap.size 9 1 v 0 [])\/(i= aB .i64 1/\wr.ownsRow w.heap.size 9 1 v n (strs L))\/(i= aB .i64 2/\wr.ownsRow w.heap.size 9 1 v (n+m) (strs L++strs M)))/\Below w.heap.size w wr) (fun _ i _=>2 - (intOf i).toNat)
   case atStart=>exact⟨.inl ⟨rfl,hown1⟩,hb1⟩
   case round =>
    obtain⟨hcase,hbel⟩:=hrel;have b0:=World.block_lt_of_cell? w _ h0;have h0':=(hbel.cell (p:=⟨g,0,none⟩) b0).trans h0;have h1':=(hbel.cell (p:=⟨g,1,none⟩) b0).trans h1;have hs:=hbel.size;rcases hcase with ⟨rfl,hown⟩ | ⟨rfl,hown⟩ | ⟨rfl,hown⟩
    ·refine wL ?_;intros
     refine zM rfl (.tmp 31) (.tmp 32) rfl uU ac hown ac (hr.below hbel) (jP _) wu hs ?_;intro v2 w2 hown2 hg2 _;have hb2:=zj hbel hown ag hg2;go_wp2_with fail;go_roundw
     case rel=>exact⟨.inr (.inl ⟨rfl,by simpa using hown2⟩),hb2⟩
     case measure=>simp [intOf]
    ·refine wL ?_;intros
     refine zM rfl (.tmp 31) (.tmp 32) rfl uU ac hown ac (hr'.below hbel) (jP _) wu hs ?_;intro v2 w2 hown2 hg2 _;have hb2:=zj hbel hown ag hg2;go_wp2_with fail;go_roundw
     case rel=>exact⟨.inr (.inr ⟨rfl,hown2⟩),hb2⟩
     case measure=>simp [intOf]
    ·rw [<-vI]at hown;have hlen:(L++M).length=n+m:=by rw [List.length_append,HN.o,HM.o]
     refine wL ?_;intros;go_ret;exact⟨_,rfl,by rw [hlen];exact hown,hbel⟩
theorem UO (A B:aj) (c d:Nat) (L M:List ai) (w:World) (hc:L.length<=c) (hd:M.length<=d) (hl:L.length<=100000000) (hm:M.length<=100000000) (hr:Rd w 1 A L.length (strs L)) (hr':Rd w 1 B M.length (strs M)) :
  Calls zZZ 136 #[aA A L.length c,aA B M.length d] w fun e w'=>∃v N,e= .returned v/\StrL N (fun x=>x∈L\/x∈M)/\N.length<=L.length+M.length/\w'.ownsRow w.heap.size 9 1 v N.length (strs N)/\Below w.heap.size w w':=by
 have hbox:Arr (w.alloc (.cells #[aA A L.length c,aA B M.length d] 35)) w.heap.size 35 [aA A L.length c,aA B M.length d]:=Arr.new w 35 _;have hb1:=ws w (.cells #[aA A L.length c,aA B M.length d] 35);have hr1:=hr.below hb1;have hr1':=hr'.below hb1;have HCC:=sqH (uJ w.heap.size A B c d L M _ hc hd wu wu (hbox.c0) (hbox.c1) hr1 hr1');have hlm:(L++M).length<=200000000:=by rw [List.length_append];omega
 have HLM:=sqH (show(L++M).length=L.length+M.length from List.length_append);have HMM:=sqH (fun x=>show x∈L++M↔x∈L\/x∈M from List.mem_append);clear hr hr' hr1 hr1' hbox;go_enter func136,ntmps136;go_wp2_with fail;generalize (w.alloc (.cells #[aA A L.length c,aA B M.length d] 35))=w1 at *
 refine HCC.o.mono ?_;rintro e_ w2 ⟨v2,rfl,ho2,hb2⟩;dsimp only;have hb12:=wm hb1 hb2;have hs1:=hb1.size;generalize L++M=K at *
 clear HCC hb1 hb2;go_wp2_with fail;refine(VI _ v2 K w2 wu ho2).mono ?_;rintro e_ w3 ⟨rfl,ho3,hg3⟩;dsimp only;have hb13:=zj hb12 ho2 hs1 hg3;have hp:=XX K;have hperm:=List.mergeSort_perm K leB;have hkl:(K.mergeSort leB).length=K.length:=List.length_mergeSort K;rw [<-hkl]at ho3;have HKP:=sqH (And.intro hp (And.intro hperm hkl));generalize K.mergeSort leB=Q at *
 clear ho2 hg3 hb12 hp hperm;go_wp2_with fail;refine(ZL _ v2 Q w3 wu ho3).mono ?_;rintro e_ w4 ⟨v4,rfl,ho4,hg4⟩;dsimp only;have hb14:=zj hb13 ho3 hs1 hg4;have HST:=sqH (Z6 HKP.o.1);have hcl:=Lib.compact_length_le Q;obtain⟨A4,c4,rfl,_,hr4⟩:=Rd.of_own' ho4;generalize Lib.compact Q=N at *
 clear ho3 hg4 hb13 ho4;go_wp2_with fail;refine(kM A4 c4 N w4 wu hr4).mono ?_;rintro e_ w5 ⟨v5,rfl,ho5,hb5⟩;dsimp only;have hb15:=wm hb14 hb5;have hs4:=hb14.size;clear hb14 hb5 hr4;go_wp2_with fail;go_ret;refine⟨v5,N,rfl,⟨HST.o.nd,HST.o.le,fun x=> ?_⟩,by have:=HLM.o;omega,zb ho5 hs4,hb15⟩;rw [HST.o.mem,HKP.o.2.1.mem_iff,HMM.o]
end Go.Proofs.YtaboknhfiijipaaGreat
