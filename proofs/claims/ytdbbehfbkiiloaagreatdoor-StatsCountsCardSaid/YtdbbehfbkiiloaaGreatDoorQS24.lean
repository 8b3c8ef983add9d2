/- Lemmas of the proof. Conditions: as stated. -/
import Derived.Test.YtdbbehfbkiiloaaGreatDoorQS21
import Derived.Test.YtdbbehfbkiiloaaGreatDoorQS22
import Derived.Test.YtdbbehfbkiiloaaGreatDoorQS23
import Derived.Maps.OwnSet
import Derived.Carry
set_option linter.unusedVariables false
set_option linter.unusedSimpArgs false
set_option maxRecDepth 100000
set_option maxHeartbeats 8000000
namespace Go.Proofs.YtdbbehfbkiiloaaGreatDoor
open Go.RowKit
def kids (bl:List BlobP) (x:List UInt8):List (List UInt8) :=
 match bl.findIdx? (fun b=>b.dig==x) with
 | some i=>match bl[i]? with
  | some b=>(kC b.data).1.map (·.dig)
  | none=> []
 | none=> []
def InB (bl:List BlobP) (x:List UInt8):Prop:=∃b∈bl,b.dig=x
theorem jU {bl:List BlobP} {x:List UInt8}:InB bl x↔(bl.findIdx? (fun b=>b.dig==x)).isSome=true:=by
 rw [List.findIdx?_isSome,List.any_eq_true];constructor
 ·rintro⟨b,hb,rfl⟩;exact⟨b,hb,by simp⟩
 ·rintro⟨b,hb,h⟩;exact⟨b,hb,by simpa using h⟩
inductive Rch (bl:List BlobP) (ds:List (List UInt8)):List UInt8→Prop where
 | root {x}:x∈ds→InB bl x→Rch bl ds x
 | step {x y}:Rch bl ds x→y∈kids bl x→InB bl y→Rch bl ds y
theorem Rch.inB {bl:List BlobP} {ds:List (List UInt8)} {x:List UInt8} (h:Rch bl ds x):InB bl x:=by
 cases h<;>assumption
theorem Rch.mono {bl:List BlobP} {ds es:List (List UInt8)} {x:List UInt8} (h:Rch bl ds x) (hd:∀y∈ds,InB bl y→Rch bl es y):Rch bl es x:=by
 induction h with
 | root h1 h2=>exact hd _ h1 h2
 | step _ h2 h3 ih=>exact .step ih h2 h3
def unmet (bl:List BlobP) (M:List (List UInt8)):Nat:=(bl.filter fun b=> !M.contains b.dig).length
theorem kF {α:Type} {p q:α→Bool}:∀(l:List α),(∀x∈l,p x=true→q x=true)→(l.filter p).length≤(l.filter q).length
 | [],_=>Nat.le_refl _
 | x::l,h=>by
  have ih:=kF l (fun y hy=>h y (by simp [hy]))
  by_cases hp:p x=true
  ·rw [List.filter_cons_of_pos hp,List.filter_cons_of_pos (h x (by simp) hp)];simpa using ih
  ·rw [List.filter_cons_of_neg hp]
   by_cases hq:q x=true
   ·rw [List.filter_cons_of_pos hq];simp only [List.length_cons];omega
   ·rw [List.filter_cons_of_neg hq];exact ih
theorem kG {α:Type} {p q:α→Bool}:∀(l:List α),(∀x∈l,p x=true→q x=true)→(∃x∈l,p x=false∧q x=true)→(l.filter p).length<(l.filter q).length
 | [],_,h=>by obtain⟨x,hx,_⟩:=h;cases hx
 | x::l,h,h2=>by
  have hl:=fun y hy=>h y (List.mem_cons_of_mem x hy)
  by_cases hp:p x=true
  ·rw [List.filter_cons_of_pos hp,List.filter_cons_of_pos (h x (by simp) hp)]
   obtain⟨y,hy,h3,h4⟩:=h2
   rcases List.mem_cons.1 hy with rfl | hy
   ·rw [hp]at h3;cases h3
   ·have:=kG l hl ⟨y,hy,h3,h4⟩;simpa using this
  ·rw [List.filter_cons_of_neg hp]
   by_cases hq:q x=true
   ·rw [List.filter_cons_of_pos hq];have:=kF l hl;simp only [List.length_cons];omega
   ·rw [List.filter_cons_of_neg hq]
    obtain⟨y,hy,h3,h4⟩:=h2
    rcases List.mem_cons.1 hy with rfl | hy
    ·exact absurd h4 hq
    ·exact kG l hl ⟨y,hy,h3,h4⟩
theorem yt {bl:List BlobP} {M M':List (List UInt8)} (h:∀x∈M,x∈M'):unmet bl M'≤unmet bl M:=by
 refine kF _ fun b _ hb=> ?_;simp only [Bool.not_eq_true',List.contains_eq_mem,decide_eq_false_iff_not]at hb ⊢
 exact fun h2=>hb (h _ h2)
theorem uh {bl:List BlobP} {M:List (List UInt8)} {d:List UInt8} (hi:InB bl d) (hd:d∉M):unmet bl (M++ [d])<unmet bl M:=by
 obtain⟨b,hb,rfl⟩:=hi;refine kG _ (fun x _ hx=> ?_) ⟨b,hb,by simp,by simp [hd]⟩;simp only [Bool.not_eq_true',List.contains_eq_mem,decide_eq_false_iff_not,List.mem_append,not_or]at hx ⊢
 exact hx.1
theorem Zs (bl:List BlobP):unmet bl []≤bl.length:=List.length_filter_le _ _
structure SeekR (bl:List BlobP) (M ds M':List (List UInt8)):Prop where
 sub:∀x∈M,x∈M'
 hit:∀d∈ds,InB bl d→d∈M'
 come:∀x∈M',x∈M∨Rch bl ds x
 clo:∀x∈M',x∉M→∀y∈kids bl x,InB bl y→y∈M'
 len:M'.length+unmet bl M'≤M.length+unmet bl M
theorem SeekR.nil (bl:List BlobP) (M:List (List UInt8)):SeekR bl M [] M:=⟨fun _ h=>h,fun _ h=>absurd h (by simp),fun _ h=> .inl h,fun _ h h2=>absurd h h2,Nat.le_refl _⟩
theorem SeekR.none_ {bl:List BlobP} {M:List (List UInt8)} {d:List UInt8} (h:¬InB bl d):SeekR bl M [d] M :=
 ⟨fun _ h=>h,fun x h1 h2=>absurd h2 (by rw [List.mem_singleton.1 h1];exact h),fun _ h=> .inl h,fun _ h h2=>absurd h h2,Nat.le_refl _⟩
theorem SeekR.met {bl:List BlobP} {M:List (List UInt8)} {d:List UInt8} (h:d∈M):SeekR bl M [d] M :=
 ⟨fun _ h=>h,fun x h1 _=>by rw [List.mem_singleton.1 h1];exact h,fun _ h=> .inl h,fun _ h h2=>absurd h h2,Nat.le_refl _⟩
theorem SeekR.snoc {bl:List BlobP} {M M1 M2 ds:List (List UInt8)} {d:List UInt8} (h1:SeekR bl M ds M1) (h2:SeekR bl M1 [d] M2):SeekR bl M (ds++ [d]) M2:=by
 refine⟨fun x h=>h2.sub x (h1.sub x h),fun x h hi=> ?_,fun x h=> ?_,fun x h hn y hy hi=> ?_,Nat.le_trans h2.len h1.len⟩
 ·rcases List.mem_append.1 h with h | h
  ·exact h2.sub x (h1.hit x h hi)
  ·exact h2.hit x h hi
 ·rcases h2.come x h with h3 | h3
  ·rcases h1.come x h3 with h4 | h4
   ·exact .inl h4
   ·exact .inr (h4.mono fun y hy hi=> .root (by simp [hy]) hi)
  ·exact .inr (h3.mono fun y hy hi=> .root (by simp [List.mem_singleton.1 hy]) hi)
 ·by_cases h3:x∈M1
  ·exact h2.sub y (h1.clo x h3 hn y hy hi)
  ·exact h2.clo x h h3 y hy hi
theorem SeekR.into {bl:List BlobP} {M M':List (List UInt8)} {d:List UInt8} (hi:InB bl d) (hd:d∉M) (h:SeekR bl (M++ [d]) (kids bl d) M'):SeekR bl M [d] M':=by
 have hroot:Rch bl [d] d:= .root (by simp) hi;have hdm:d∈M':=h.sub d (by simp);have hl:=uh hi hd;refine⟨fun x hx=>h.sub x (by simp [hx]),fun x hx _=>by rw [List.mem_singleton.1 hx];exact hdm,fun x hx=> ?_,fun x hx hn y hy hiy=> ?_,by have:=h.len;rw [List.length_append]at this;simp only [List.length_cons,List.length_nil]at this;omega⟩
 ·rcases h.come x hx with h1 | h1
  ·rcases List.mem_append.1 h1 with h1 | h1
   ·exact .inl h1
   ·exact .inr (by rw [List.mem_singleton.1 h1];exact hroot)
  ·exact .inr (h1.mono fun y hy hiy=> .step hroot hy hiy)
 ·by_cases hxd:x=d
  ·subst hxd;exact h.hit y hy hiy
  ·exact h.clo x hx (by simp [hn,hxd]) y hy hiy
theorem SeekR.all {bl:List BlobP} {ds M':List (List UInt8)} (h:SeekR bl [] ds M') (x:List UInt8):x∈M'↔Rch bl ds x:=by
 constructor
 ·intro hx;rcases h.come x hx with h1 | h1
  ·cases h1
  ·exact h1
 ·intro hx
  induction hx with
  | root h1 h2=>exact h.hit _ h1 h2
  | step h1 h2 h3 ih=>exact h.clo _ ih (by simp) _ h2 h3
end Go.Proofs.YtdbbehfbkiiloaaGreatDoor
namespace Go.Proofs.YtdbbehfbkiiloaaGreatDoor
open Go.RowKit Go.Maps
def tt:DataW Unit:= .lit (.bool true)
def q8 (w:World) (b:Nat) (M:List (List UInt8)):Prop:=w.ownsMap Tryz.prog 9 (plainElem Tryz.prog 4) b M.length (setOf tt (M.map Lit.string))
theorem Yn:Keyed Tryz.prog 9:=string_keyed Tryz.underlying9
theorem jV (d:List UInt8) (hd:d.length≤maxLen):keyOf Tryz.prog 9 (.string ⟨d.toArray⟩)=some (.string d):=by
 simp [keyOf,Tryz.underlying9,mapKey,ByteArray.size,hd]
theorem ku (M:List (List UInt8)):∀x∈M.map Lit.string,WideAt.IsKeyLit x:=by
 intro x hx;obtain⟨s,_,rfl⟩:=List.mem_map.1 hx;trivial
theorem vZ (a b:List UInt8):(Lit.string a).sameKey (.string b)=decide (a=b):=by
 by_cases h:a=b
 ·subst h;simp [Lit.sameKey]
 ·simp [Lit.sameKey,h]
theorem Kg (M:List (List UInt8)) (d:List UInt8):has (setOf tt (M.map Lit.string)) (.string d)=decide (d∈M):=by
 rw [has_setOf _ _ _ (ku M),List.any_map];by_cases h:d∈M
 ·rw [decide_eq_true h,List.any_eq_true];exact⟨d,h,by simp [vZ]⟩
 ·rw [decide_eq_false h,List.any_eq_false];intro x hx;simp only [Function.comp_def,vZ,decide_eq_true_eq];rintro rfl;exact h hx
theorem xf (d:List UInt8) (z:DataW Unit):∀(n:Nat) (M:List (List UInt8)),M.length=n→(setOf tt (M.map Lit.string)).atKey (.string d) z=if d∈M then tt else z
 | 0,M,h=>by
  obtain rfl:=List.eq_nil_of_length_eq_zero h
  rfl
 | n+1,M,h=>by
  obtain⟨M0,x,rfl⟩:∃M0 x,M=M0++ [x]:=⟨M.dropLast,M.getLast (by intro e;simp [e]at h),(List.dropLast_concat_getLast _).symm⟩
  have h0:M0.length=n:=by simpa using h
  rw [List.map_append,List.map_cons,List.map_nil,setOf_snoc]
  by_cases hx:d=x
  ·subst hx
   rw [atKey_put_same (tidy_setOf _ _ (ku M0)).isMap (show WideAt.IsKeyLit (.string d) from trivial),if_pos (by simp)]
  ·rw [atKey_put_other (by intro e;injection e with e;exact hx e),xf d z n M0 h0]
   by_cases hm:d∈M0
   ·rw [if_pos hm,if_pos (by simp [hm])]
   ·rw [if_neg hm,if_neg (by simp [hm,hx])]
theorem Qz (x:Bool):plainElem (H:=Unit) Tryz.prog 4 (.bool x)=some (.lit (.bool x), []):=plainElem_bool Tryz.underlying4 x
theorem yk {v:Value} {y:Bool} {ps:List MemPlace} (h:plainElem (H:=Unit) Tryz.prog 4 v=some (.lit (.bool y),ps)):v= .bool y:=by
 unfold plainElem at h;cases v<;>simp [Tryz.underlying4]at h
 all_goals first | (obtain⟨rfl,_⟩:=h;rfl) | simp_all
theorem q8.look {w:World} {b:Nat} {M:List (List UInt8)} (h:q8 w b M) (d:List UInt8) (hd:d.length≤maxLen) :
  (Instr.lookup 132 (.map (some b)) (.string ⟨d.toArray⟩) false).run Tryz.prog w= .ok (.bool (decide (d∈M))) w:=by
 obtain⟨v,ps,hrun,hv⟩:=World.ownsMap.lookup h Yn Tryz.underlying132 (z:= .bool false) (by rfl) (Qz false) (jV d hd);rw [xf d _ _ M rfl]at hv;rw [hrun];by_cases hm:d∈M
 ·rw [if_pos hm]at hv;rw [decide_eq_true hm,yk hv]
 ·rw [if_neg hm]at hv;rw [decide_eq_false hm,yk hv]
theorem q8.put {w:World} {b:Nat} {M:List (List UInt8)} (h:q8 w b M) (d:List UInt8) (hd:d.length≤maxLen) (hn:M.length<maxLen) :
  ∃w',(Instr.mapUpdate 132 (.map (some b)) (.string ⟨d.toArray⟩) (.bool true)).run Tryz.prog w= .ok () w'∧q8 w' b (M++ [d])∧w.grownBy w' (some b):=by
 obtain⟨w',hrun,h1,h2⟩:=World.ownsMap.update h Yn Tryz.underlying132 hn (jV d hd) (Qz true);refine⟨w',hrun,?_,h2⟩;unfold q8;rw [List.map_append,List.map_cons,List.map_nil,setOf_snoc,List.length_append];exact h1
theorem q8.made (w:World):q8 (w.alloc (.map #[] 0)) w.heap.size []:=World.ownsMap_made w _ _ _
theorem q8.lt {w:World} {b:Nat} {M:List (List UInt8)} (h:q8 w b M):b<w.heap.size:=World.ownsMap.lt h
theorem q8.kept {w w':World} {b:Nat} {row:Option Nat} {M:List (List UInt8)} (h:q8 w b M) (hg:w.grownBy w' row) (hne:some b≠row):q8 w' b M:=World.ownsMap.kept h hg hne
theorem q8.below {w w':World} {b:Nat} {M:List (List UInt8)} (h:q8 w b M) (hb:Below w.heap.size w w'):q8 w' b M:=h.kept ⟨hb.os,hb.tape,hb.output,hb.size,fun k hk _=>hb.block k hk⟩ (row:=none) (by simp)
theorem jW {w:World} {b:Nat} {M ss:List (List UInt8)} (hs:q8 w b M) (h:ss.Perm (strKeys (setOf tt (M.map Lit.string)))):StrL (ss.mergeSort leB) (fun x=>x∈M):=by
 obtain⟨es,he,hp⟩:=tidy_setOf tt (M.map Lit.string) (ku M);obtain⟨es',he',hk'⟩:=World.ownsMap.keysOf hs;have e1:es=es':=by rw [he]at he';injection he'
 subst e1;have hk:∀p∈es,∃x,p.1= .string x:=fun p hp'=>by
  obtain⟨v,hv⟩:=hk' p hp';obtain⟨x,_,e,_⟩:=Maps.keyOf_str Tryz.underlying9 hv;exact⟨x,e⟩
 have h1:=perm_strKeys hp hk (xy M) (fun x=>by rw [qX,←he,Kg];simp);rw [he]at h;have h2:=h.trans h1.symm;have h3:=(List.mergeSort_perm ss leB).trans h2;have tr:∀a b c:List UInt8,leB a b=true→leB b c=true→leB a c=true:=fun a b c h1 h2=>by simp only [leB,decide_eq_true_eq] at *;exact List.le_trans h1 h2
 have to:∀a b:List UInt8,(leB a b||leB b a)=true:=fun a b=>by simp only [leB,Bool.or_eq_true,decide_eq_true_eq];exact List.le_total a b
 exact⟨h3.nodup_iff.2 (xy M),List.pairwise_mergeSort tr to ss,fun x=>by rw [h3.mem_iff,qX]⟩
end Go.Proofs.YtdbbehfbkiiloaaGreatDoor
namespace Go.Proofs.YtdbbehfbkiiloaaGreatDoor
open Go.RowKit Go.Maps Go.Sort Go.Shelf
theorem Ks (m:Nat):AnyZ.SortsIn Tryz.prog Tryz.sorted87_ren Fence.wide m :=
 ⟨fun blk off cap ss W hH hblk hsz=>callsIn_wide.2 (AnyM.slices_Sort_string Tryz.sort119 blk off cap ss W hH hblk hsz),
  fun p cap W=>callsIn_wide.2 (AnyM.slices_Sort_string_none Tryz.sort119 p cap W)⟩
theorem ja (b:Nat) (W:World):Calls Tryz.prog 88 #[.map (some b)] W fun e w'=>e= .returned (.func (.func 120) #[] #[.pointer (some ⟨W.heap.size,0,none⟩)])∧w'=W.alloc (.cells #[.map (some b)] 132) :=
 callsIn_wide.1 (AnyZ.keys_in Tryz.keys88 Fence.wide 5 trivial rfl (some b) W)
theorem xc (b:Nat) (M:List (List UInt8)) (w:World) (hs:q8 w b M) (hmax:M.length≤1000000) :
  Calls Tryz.prog 87 #[.func (.func 120) #[] #[.pointer (some ⟨w.heap.size,0,none⟩)]] (w.alloc (.cells #[.map (some b)] 132)) fun e w'=>∃v L,e= .returned v∧StrL L (fun x=>x∈M)∧L.length≤M.length ∧
   w'.ownsRow (w.alloc (.cells #[.map (some b)] 132)).heap.size 9 1 v L.length (strs L)∧Below (w.alloc (.cells #[.map (some b)] 132)).heap.size (w.alloc (.cells #[.map (some b)] 132)) w':=by
 have hown:=hs;unfold q8 at hown;have hbl:=World.ownsMap.lt hown;have hsz:=World.ownsMap.size_le hown;have hseq:SeqGives Fence.wide 2 Tryz.prog 120 #[.pointer (some ⟨w.heap.size,0,none⟩)] encStr (fun ss=>ss.Perm (strKeys (setOf tt (M.map Lit.string)))) (Maps.size (setOf tt (M.map Lit.string))) (w.alloc (.cells #[.map (some b)] 132)) :=
  AnyZ.keys_gives (ρ:=Tryz.keys88_ren) { Tryz.keys88 with } Fence.wide _ trivial rfl (by omega) w.heap.size b M.length _ _ (by simp) (by simp) (by
   obtain⟨es,clock,hb,Ft,hs,hD⟩:=hown;exact⟨es,clock,(Below.heap_alloc _ _ b hbl).trans hb,Ft,hs,hD⟩)
 have h:=AnyZ.sorted_in Tryz.sorted87 Fence.wide 5 trivial trivial trivial trivial rfl (by omega) (Ks _) (enters_of Tryz.func119 (by kernel_rfl) rfl) 120 #[.pointer (some ⟨w.heap.size,0,none⟩)] trivial (enters_of Tryz.func120 (by kernel_rfl) rfl) _ _ (by unfold maxLen;omega) (by omega) _ hseq;refine(callsIn_wide.1 h).mono ?_;rintro e w' ⟨v,ss,rfl,hp,hrow,_,hb⟩;have hL:=jW hs hp;have hlen:(ss.mergeSort leB).length=ss.length:=List.length_mergeSort ss;refine⟨v,ss.mergeSort leB,rfl,hL,?_,?_,hb⟩
 ·rw [hlen,hp.length_eq];obtain⟨es,he,_⟩:=tidy_setOf tt (M.map Lit.string) (ku M);rw [he]at hsz ⊢
  show(es.map _).length≤_;rw [List.length_map];exact hsz
 ·rw [hlen];exact hrow
end Go.Proofs.YtdbbehfbkiiloaaGreatDoor
namespace Go.Proofs.YtdbbehfbkiiloaaGreatDoor
open Go.RowKit Go.Maps
theorem jX {bl:List BlobP} {d:List UInt8} {i:Nat} (h:bl.findIdx? (fun b=>b.dig==d)=some i) (hi:i<bl.length):kids bl d=(kC bl[i].data).1.map (·.dig):=by
 unfold kids;rw [h];dsimp only;rw [List.getElem?_eq_getElem hi]
theorem vL (x:List PartP):dcs x=strs (x.map (·.dig)):=by simp [dcs,strs]
theorem QZ (gs b c:Nat) (A:Option Addr) (bl:List BlobP) (w0:World) (hg:w0.heap.size≤gs) (hbs:w0.heap.size≤b) (hne:gs≠b) (hl:bl.length≤1000) (hcap:bl.length≤c) (hcm:c≤maxLen) (hdig:∀x∈bl,x.dig.length≤1000) (hrd:Rw BlobS w0 A bl) :
  ∀(m:Nat) (M:List (List UInt8)) (d:List UInt8) (w:World),unmet bl M<m→M.length+unmet bl M≤bl.length→Below w0.heap.size w0 w→Arr w gs 142 [.slice A bl.length c,.map (some b)]→q8 w b M →
   Calls Tryz.prog 91 #[.pointer (some ⟨gs,0,none⟩),.string ⟨d.toArray⟩] w fun e w'=>e= .returned (.tuple #[])∧∃M',SeekR bl M [d] M'∧q8 w' b M'∧w.grownBy w' (some b):=by
 intro m
 induction m with
 | zero=>intro M d w h;exact absurd h (by omega)
 | succ m ih =>
  intro M d w hun hlen hb0 hbox hset;have HF:=vv A c bl d w (by omega) (hrd.below hb0);have a0:=hbox.cell (k:=0) rfl;have HB0:=sqH hb0;have hs0:=hb0.size;cases hf:bl.findIdx? (fun x=>x.dig==d) with
  | none =>
   rw [hf]at HF;have HFF:=sqH HF;have HR:=sqH (SeekR.none_ (bl:=bl) (M:=M) (d:=d) (by rw [jU,hf];simp));have HST:=sqH hset;have HIH:=sqH ih;clear HF hf hset ih;go_enter Tryz.func91,Tryz.ntmps91;go_wp2_with fail;refine HFF.out.mono ?_;rintro e_ w2 ⟨rfl,hb2⟩;dsimp only;unfold Qv;dsimp only;go_wp2_with fail
   ((try simp only [Exit.inBlock,Exit.then]);first | (refine bodyPost_ret (results_none rfl _ _ _) rfl ?_) | (refine bodyPost_end (results_none rfl _ _ _) rfl ?_))
   exact⟨rfl,M,HR.out,HST.out.below hb2,qI hb2 _⟩
  | some i =>
   rw [hf]at HF;have HFF:=sqH HF;have hi:i<bl.length:=(List.findIdx?_eq_some_iff_getElem.1 hf).1;have hdi:bl[i].dig=d:=by simpa using (List.findIdx?_eq_some_iff_getElem.1 hf).2.1
   have hin:InB bl d:=⟨bl[i],List.getElem_mem hi,hdi⟩
   have hdl:d.length≤maxLen:=by have:=hdig _ (List.getElem_mem hi);rw [hdi]at this;unfold maxLen;omega
   have HKD:=sqH (jX hf hi);have HDL:=sqH hdl;have HIN:=sqH hin;have hi0:(0:Int)≤(i:Int):=by omega
   have hi1:(i:Int)<(bl.length:Int):=by omega
   have HIH:=sqH ih;have HI:=sqH hi;clear HF hf hdi hin hdl ih;by_cases hm:d∈M
   ·have HR:=sqH (SeekR.met (bl:=bl) hm);have hlk:=fun (w2:World) (h:q8 w2 b M)=>h.look d HDL.out;rw [decide_eq_true hm]at hlk;have HLK:=sqH hlk;have HST:=sqH hset;clear hm hlk hset;go_enter Tryz.func91,Tryz.ntmps91;go_wp2_with fail;refine HFF.out.mono ?_;rintro e_ w2 ⟨rfl,hb2⟩;dsimp only;unfold Qv;dsimp only;have hset2:=HST.out.below hb2;have hrun:=HLK.out w2 hset2;have a1:=(hbox.below hb2).cell (k:=1) rfl;go_wp2_with fail
    ((try simp only [Exit.inBlock,Exit.then]);first | (refine bodyPost_ret (results_none rfl _ _ _) rfl ?_) | (refine bodyPost_end (results_none rfl _ _ _) rfl ?_))
    exact⟨rfl,M,HR.out,hset2,qI hb2 _⟩
   ·have HMU:=sqH (uh HIN.out hm);have hlk:=fun (w2:World) (h:q8 w2 b M)=>h.look d HDL.out;rw [decide_eq_false hm]at hlk;have HLK:=sqH hlk;have HST:=sqH hset;have HNM:=sqH hm;have hMn:M.length<maxLen:=by unfold maxLen;omega
    clear hm hlk hset;go_enter Tryz.func91,Tryz.ntmps91;go_wp2_with fail;refine HFF.out.mono ?_;rintro e_ w2 ⟨rfl,hb2⟩;dsimp only;unfold Qv;dsimp only;have hset2:=HST.out.below hb2;have hrun:=HLK.out w2 hset2;have hbox2:=hbox.below hb2;have a1:=hbox2.cell (k:=1) rfl;obtain⟨w3,hput,hset3,hg3⟩:=hset2.put d HDL.out hMn;have hbox3:=hbox2.grown hg3 (fun e=>hne (by injection e with e;exact e.symm));have a2:=hbox3.cell (k:=0) rfl;have hb03:=(hb0.trans (hb2.mono hs0)).grown hg3 (by have:=hb2.size;omega) (fun k hk=>by cases hk;exact hbs);obtain⟨bq,oq,B,cq,hA,hbq,d0,d1,d2,d3,hs⟩:=(hrd.below hb03).blob_at i hi;have HPT:=sqH (x8 ⟨bl[i].dig.toArray⟩ B bl[i].data.length cq bl[i].data (bl[i].pins:Int) bl[i].mark w3 rfl hs.cap hs.max hs.rd);have hx8:=kq bl[i].data;have hG03:=(qI hb2 (row:=some b)).trans hg3;subst hA;have HHS:=sqH hrd;clear hs hset2 hg3 hbox hbox2 a0 hrd;obtain⟨ks,hks⟩:∃ks,kids bl d=ks:=⟨_,rfl⟩
    obtain⟨xs,hxs⟩:∃xs,(kC bl[i].data).1=xs:=⟨_,rfl⟩
    have hkx:xs.map (·.dig)=ks:=by rw [←hks,←hxs];exact HKD.out.symm
    have hkl:xs.length=ks.length:=by rw [←hkx,List.length_map]
    rw [hxs,vL,hkx,hkl]at HPT;rw [hxs,hkl]at hx8;have HKS:=sqH hks;clear hks hkx hkl hxs HKD;go_wp2_with fail;refine HPT.out.mono ?_;rintro e_ w4 ⟨v4,rfl,ho4,hb4⟩;dsimp only;have hset4:=hset3.below hb4;have hbox4:=hbox3.below hb4;have hb04:=hb03.trans (hb4.mono hb03.size);have hG04:=hG03.trans (qI hb4 (row:=some b));obtain⟨A4,c4,rfl,hc4,hr4⟩:=Rd.of_own' ho4;have hA4:∀bb off,A4=some ⟨bb,off,none⟩→0<ks.length→bb≠b:=fun bb off e h0=>by
     have h5:=(ho4.lt bb (by rw [e];rfl)).1;have:=hset3.lt;omega
    have hks8:(ks.length:Int)≤9223372036854775807:=by omega
    clear ho4 hset3 hbox3 hb03 hb4 hG03 d0 d1 d2 d3 a1 a2 hrun hput;go_wp2_with fail;go_loopg [41] ks.length (fun gn i wr=>∃(j:Nat) (M':List (List UInt8)),gn=ks.length - j∧i= .int .i64 j∧j≤ks.length∧SeekR bl (M++ [d]) (ks.take j) M'∧q8 wr b M'∧w4.grownBy wr (some b))
    case atStart=>exact⟨0,M++ [d],rfl,rfl,by omega,by rw [List.take_zero];exact SeekR.nil _ _,hset4,World.grownBy.refl _ _⟩
    case round =>
     obtain⟨j,M',hgj,rfl,hj,hR,hsetr,hgr⟩:=hrel;have HGJ:=sqH hgj;have HRR:=sqH hR;clear hgj hR;by_cases hlt:j<ks.length
     rotate_left
     ·obtain rfl:j=ks.length:=by omega
      have hlb:decide (ks.length<ks.length)=false:=by simp
      have hfin:=HRR.out;rw [List.take_length]at hfin;rw [←HKS.out]at hfin;have HFN:=sqH (SeekR.into HIN.out HNM.out hfin);clear hfin;go_wp2_with fail
      ((try simp only [Exit.inBlock,Exit.then]);first | (refine bodyPost_ret (results_none rfl _ _ _) rfl ?_) | (refine bodyPost_end (results_none rfl _ _ _) rfl ?_))
      exact⟨rfl,M',HFN.out,hsetr,hG04.trans hgr⟩
     have hlb:decide (j<ks.length)=true:=decide_eq_true hlt;have hj0:(0:Int)≤(j:Int):=by omega
     have hj1:(j:Int)<(ks.length:Int):=by omega
     obtain⟨bb,off,hAb,_,hcell⟩:=(hr4.far hgr hA4).2 (by omega);subst hAb;have e0:=hcell j _ (qe ks j hlt);have hboxr:=hbox4.grown hgr (fun e=>hne (by injection e with e;exact e.symm));have hb0r:=hb04.grown hgr hb04.size (fun k hk=>by cases hk;exact hbs);have hun1:=yt (bl:=bl) HRR.out.sub;have hln1:=HRR.out.len;rw [List.length_append]at hln1;simp only [List.length_cons,List.length_nil]at hln1;have hmu:=HMU.out;have HCL:=sqH (HIH.out M' ks[j] wr (by omega) (by omega) hb0r hboxr hsetr);have HTK:=sqH (show ks.take (j+1)=ks.take j++ [ks[j]] from List.take_succ_eq_append_getElem hlt);generalize ks[j]=kd at *
     clear hcell hun1 hln1 hmu hb0r hboxr;go_wp2_with fail;refine HCL.out.mono ?_;rintro e_ w6 ⟨rfl,M2,hR2,hset6,hg6⟩;dsimp only;have HR2:=sqH hR2;clear hR2 e0;go_wp2_with fail;go_roundg (ks.length - (j+1))
     case measure=>have:=HGJ.out;omega
     case rel=>exact⟨j+1,M2,rfl,by go_num,by omega,by rw [HTK.out];exact HRR.out.snoc HR2.out,hset6,hgr.trans hg6⟩
theorem j0 (A D:Option Addr) (c dc:Nat) (bl:List BlobP) (ds:List (List UInt8)) (w:World) (hl:bl.length≤1000) (hcap:bl.length≤c) (hcm:c≤maxLen) (hdig:∀x∈bl,x.dig.length≤1000) (hrd:Rw BlobS w A bl) (hdn:ds.length≤1000000) (hrd2:Rd w 1 D ds.length (strs ds)) :
  Calls Tryz.prog 51 #[.slice A bl.length c,.slice D ds.length dc] w fun e w'=>∃v L,e= .returned v∧StrL L (Rch bl ds)∧L.length≤bl.length∧w'.ownsRow w.heap.size 9 1 v L.length (strs L)∧Below w.heap.size w w':=by
 obtain⟨b,hb⟩:∃b,b=w.heap.size:=⟨_,rfl⟩
 obtain⟨gs,hgs⟩:∃g,g=w.heap.size+1:=⟨_,rfl⟩
 have hm0:=q8.made w;have hm1:q8 ((w.alloc (.map #[] 0)).alloc (.cells #[.slice A bl.length c,.map (some w.heap.size)] 142)) w.heap.size []:=World.ownsMap.alloc hm0 _;have hx1:Arr ((w.alloc (.map #[] 0)).alloc (.cells #[.slice A bl.length c,.map (some w.heap.size)] 142)) (w.alloc (.map #[] 0)).heap.size 142 [.slice A bl.length c,.map (some w.heap.size)]:=Arr.new _ _ _;rw [World.size_alloc,←hgs,←hb]at hx1;rw [←hb]at hm1;have hb1:=((Below.refl w.heap.size w).alloc (Nat.le_refl _) (.map #[] 0))
 have hb2:=hb1.alloc hb1.size (.cells #[.slice A bl.length c,.map (some b)] 142);have HSK:=sqH (QZ gs b c A bl w (by omega) (by omega) (by omega) hl hcap hcm hdig hrd);have HB:=sqH hb;have hHb:w.heap.size≤b:=by omega
 have hgb:gs≠b:=by omega
 have hd63:(ds.length:Int)≤9223372036854775807:=by omega
 obtain⟨w1,hw1⟩:∃w1,w1=(w.alloc (.map #[] 0)).alloc (.cells #[.slice A bl.length c,.map (some b)] 142):=⟨_,rfl⟩
 rw [←hw1]at hm1 hx1 hb2;have HW1:=sqH hw1;have HGS:=sqH hgs;clear hm0 hb1 hrd hw1 hgs hb;have hmm:= @run_makeMap Tryz.prog;go_enter Tryz.func51,Tryz.ntmps51;go_wp2_with fail;rw [←HB.out,←HW1.out];rw [show b+1=gs from by rw [HB.out,HGS.out]];clear HW1 HGS hmm;go_loopg [14] ds.length (fun gn i wr=>∃(j:Nat) (M':List (List UInt8)),gn=ds.length - j∧i= .int .i64 j∧j≤ds.length∧SeekR bl [] (ds.take j) M'∧q8 wr b M'∧w1.grownBy wr (some b))
 case atStart=>exact⟨0, [],rfl,rfl,by omega,by rw [List.take_zero];exact SeekR.nil _ _,hm1,World.grownBy.refl _ _⟩
 case round =>
  obtain⟨j,M',hgj,rfl,hj,hR,hsetr,hgr⟩:=hrel;have HGJ:=sqH hgj;have HRR:=sqH hR;have hboxr:=hx1.grown hgr (fun e=>hgb (by injection e with e;exact e.symm));have hb0r:=hb2.grown hgr hb2.size (fun k hk=>by cases hk;exact hHb);have hln1:=HRR.out.len;have hun0:=Zs bl;have hun1:=yt (bl:=bl) (M:= []) (M':=M') (fun x h=>nomatch h);simp only [List.length_nil,Nat.zero_add]at hln1;clear hgj hR;by_cases hlt:j<ds.length
  rotate_left
  ·obtain rfl:j=ds.length:=by omega
   have hlb:decide (ds.length<ds.length)=false:=by simp
   have hfin:=HRR.out;rw [List.take_length]at hfin;have HFN:=sqH hfin;have a1:=hboxr.cell (k:=1) rfl;have hMl:M'.length≤bl.length:=by omega
   clear hfin hln1 hun0 hun1;go_wp2_with fail;refine(ja b wr).mono ?_;rintro e_ wk ⟨rfl,rfl⟩;dsimp only;have hbk:=(Below.refl wr.heap.size wr).alloc (Nat.le_refl _) (.cells #[.map (some b)] 132);have HSO:=sqH (xc b M' wr hsetr (by omega));go_wp2_with fail;refine HSO.out.mono ?_;rintro e_ wz ⟨vz,L,rfl,hL,hLl,hoz,hbz⟩;dsimp only;have hbkz:=hbk.trans (hbz.mono hbk.size);have hoz':=zg hoz hbk.size;go_wp2_with fail;go_ret;refine⟨vz,L,rfl,⟨hL.nd,hL.le,fun x=>by rw [hL.mem,HFN.out.all]⟩,by omega,zg hoz' hb0r.size,hb0r.trans (hbkz.mono hb0r.size)⟩
  have hlb:decide (j<ds.length)=true:=decide_eq_true hlt;have hj0:(0:Int)≤(j:Int):=by omega
  have hj1:(j:Int)<(ds.length:Int):=by omega
  obtain⟨bb,off,hAb,_,hcell⟩:=(hrd2.below hb0r).2 (by omega);subst hAb;have e0:=hcell j _ (qe ds j hlt);have HCL:=sqH (HSK.out (bl.length+1) M' ds[j] wr (by omega) (by omega) hb0r hboxr hsetr);have HTK:=sqH (show ds.take (j+1)=ds.take j++ [ds[j]] from List.take_succ_eq_append_getElem hlt);generalize ds[j]=kd at *
  clear hcell hun1 hln1 hun0 hb0r hboxr;go_wp2_with fail;refine HCL.out.mono ?_;rintro e_ w6 ⟨rfl,M2,hR2,hset6,hg6⟩;dsimp only;have HR2:=sqH hR2;clear hR2 e0;go_wp2_with fail;go_roundg (ds.length - (j+1))
  case measure=>have:=HGJ.out;omega
  case rel=>exact⟨j+1,M2,rfl,by go_num,by omega,by rw [HTK.out];exact HRR.out.snoc HR2.out,hset6,hgr.trans hg6⟩
def vY (es:List EntP):List (List UInt8):=es.flatMap (fun x=>x.parts.map (·.dig))
def uL (bl:List BlobP):List (List UInt8):=(bl.filter (fun b=>decide (0<b.pins))).map (·.dig)
def rts (s:StoP):List (List UInt8):=vY s.ents++uL s.blobs
theorem Zj (es:List EntP) (k:Nat) (h:k<es.length):vY (es.take (k+1))=vY (es.take k)++es[k].parts.map (·.dig):=by
 unfold vY;rw [List.take_succ_eq_append_getElem h,List.flatMap_append];simp
theorem Zi (bl:List BlobP) (k:Nat) (h:k<bl.length):uL (bl.take (k+1))=uL (bl.take k)++(if 0<bl[k].pins then [bl[k].dig] else []):=by
 unfold uL;rw [List.take_succ_eq_append_getElem h,List.filter_append,List.map_append]
 congr 1
 by_cases hp:0<bl[k].pins
 ·rw [if_pos hp,List.filter_cons_of_pos (by simpa using hp)];rfl
 ·rw [if_neg hp,List.filter_cons_of_neg (by simpa using hp)];rfl
theorem yN (es:List EntP) (h:∀x∈es,x.parts.length≤8):(vY es).length≤8*es.length:=by
 induction es with
 | nil=>simp [vY]
 | cons x es ih =>
  have h1:=h x (by simp);have h2:=ih (fun y hy=>h y (by simp [hy]));unfold vY at h2 ⊢
  rw [List.flatMap_cons,List.length_append,List.length_map,List.length_cons];omega
theorem vX (bl:List BlobP):(uL bl).length≤bl.length:=by
 unfold uL;rw [List.length_map];exact List.length_filter_le _ _
structure RtsOk (s:StoP):Prop where
 e:s.ents.length≤24
 p:∀x∈s.ents,x.parts.length≤8
 d:∀x∈s.ents,∀q∈x.parts,q.dig.length≤1000
 b:s.blobs.length≤24
 g:∀x∈s.blobs,x.dig.length≤1000
theorem RtsOk.len {s:StoP} (h:RtsOk s):(rts s).length≤216:=by
 have h1:=yN s.ents h.p;have h2:=vX s.blobs;have:=h.e;have:=h.b;unfold rts;rw [List.length_append];omega
theorem GoodS.rts {s:StoP} (h:GoodS s):RtsOk s :=
 ⟨by have:=h.e.len;omega,fun x hx=>(zC (h.e.one x hx).2.1).1,fun x hx q hq=>by have:=zJ ((zC (h.e.one x hx).2.1).2 q hq).2.1;omega,h.b.len,fun x hx=>by rw [(h.b.one x hx).1];have:=zJ (zD x.data);omega⟩
theorem ko (A B:Option Addr) (c d:Nat) (s:StoP) (R C:Int) (w:World) (hs:RtsOk s) (hrd:RdSt w A c B d s) :
  Calls Tryz.prog 47 #[.agg #[.slice A s.blobs.length c,.slice B s.ents.length d,.int .i64 R,.int .i64 C]] w fun e w'=>∃v L,e= .returned v∧StrL L (fun x=>x∈rts s)∧L.length≤216∧w'.ownsRow w.heap.size 9 1 v L.length (strs L)∧Below w.heap.size w w':=by
 have hrl:=hs.len;have hel:=hs.e;have hbl:=hs.b;have HS:=sqH hs;have hx0:Arr (w.alloc (.cells #[.slice A s.blobs.length c,.slice B s.ents.length d,.int .i64 R,.int .i64 C] 26)) w.heap.size 26 [.slice A s.blobs.length c,.slice B s.ents.length d,.int .i64 R,.int .i64 C]:=Arr.new w 26 _;have hb0:=(Below.refl w.heap.size w).alloc (Nat.le_refl _) (.cells #[.slice A s.blobs.length c,.slice B s.ents.length d,.int .i64 R,.int .i64 C] 26);have hx1:=hx0.alloc (.map #[] 0);have hm1:=q8.made (w.alloc (.cells #[.slice A s.blobs.length c,.slice B s.ents.length d,.int .i64 R,.int .i64 C] 26));have hb1:=hb0.alloc hb0.size (.map #[] 0);rw [World.size_alloc]at hm1;obtain⟨b,hb⟩:∃b,b=w.heap.size+1:=⟨_,rfl⟩
 obtain⟨gS,hgS⟩:∃g,g=w.heap.size:=⟨_,rfl⟩
 rw [←hgS]at hx1;rw [←hb]at hm1;have hgb:gS≠b:=by omega
 have hwb:w.heap.size≤b:=by omega
 have HB:=sqH hb;have HG:=sqH hgS;obtain⟨w1,hw1⟩:∃w1,w1=(w.alloc (.cells #[.slice A s.blobs.length c,.slice B s.ents.length d,.int .i64 R,.int .i64 C] 26)).alloc (.map #[] 0):=⟨_,rfl⟩
 have HW:=sqH hw1;rw [←hw1]at hx1 hm1 hb1;have hmm:= @run_makeMap Tryz.prog;have f1:=hx1.cell (k:=1) rfl;have he63:(s.ents.length:Int)≤9223372036854775807:=by omega
 have hb63:(s.blobs.length:Int)≤9223372036854775807:=by omega
 have f1':=f1;rw [hw1,hgS]at f1';clear hw1 hgS hb hx0 hb0 hs;go_enter Tryz.func47,Tryz.ntmps47;go_wp2_with fail;rw [←HW.out]
 first | rw [←HB.out] | skip
 first | rw [←HG.out] | skip
 clear f1' hmm f1;go_loopg [14] s.ents.length (fun gn i wr=>∃k:Nat,gn=s.ents.length - k∧i= .int .i64 k∧k≤s.ents.length∧q8 wr b (vY (s.ents.take k))∧w1.grownBy wr (some b))
 case atStart=>exact⟨0,rfl,rfl,by omega,hm1,World.grownBy.refl _ _⟩
 case round =>
  obtain⟨k,hgk,rfl,hk,hset,hgr⟩:=hrel;have HGK:=sqH hgk;clear hgk;by_cases hlt:k<s.ents.length
  rotate_left
  ·obtain rfl:k=s.ents.length:=by omega
   have hlb:decide (s.ents.length<s.ents.length)=false:=by simp
   have f0:=(hx1.grown hgr (fun e=>hgb (by injection e with e;exact e.symm))).cell (k:=0) rfl;rw [List.take_length]at hset;have HSET:=sqH hset;clear hset;go_wp2_with fail;clear f0;generalize hwq:wr=wq at *
   clear hwq;go_loopg [33] s.blobs.length (fun gn i wr=>∃k:Nat,gn=s.blobs.length - k∧i= .int .i64 k∧k≤s.blobs.length∧q8 wr b (vY s.ents++uL (s.blobs.take k))∧w1.grownBy wr (some b))
   case atStart=>exact⟨0,rfl,rfl,by omega,by rw [List.take_zero];simpa [uL] using HSET.out,hgr⟩
   case round =>
    obtain⟨k,hgk,rfl,hk,hset,hgr⟩:=hrel;have HGK:=sqH hgk;have hb0r:=hb1.grown hgr hb1.size (fun k hk=>by cases hk;exact hwb);clear hgk;by_cases hlt:k<s.blobs.length
    rotate_left
    ·obtain rfl:k=s.blobs.length:=by omega
     have hlb:decide (s.blobs.length<s.blobs.length)=false:=by simp
     rw [List.take_length]at hset;have hset':q8 wr b (rts s):=hset;clear hset;go_wp2_with fail;refine(ja b wr).mono ?_;rintro e_ wk ⟨rfl,rfl⟩;dsimp only;have hbk:=(Below.refl wr.heap.size wr).alloc (Nat.le_refl _) (.cells #[.map (some b)] 132);have HSO:=sqH (xc b (rts s) wr hset' (by omega));go_wp2_with fail;refine HSO.out.mono ?_;rintro e_ wz ⟨vz,L,rfl,hL,hLl,hoz,hbz⟩;dsimp only;have hbkz:=hbk.trans (hbz.mono hbk.size);have hoz':=zg hoz hbk.size;go_wp2_with fail;go_ret;refine⟨vz,L,rfl,hL,by omega,zg hoz' hb0r.size,hb0r.trans (hbkz.mono hb0r.size)⟩
    have hlb:decide (k<s.blobs.length)=true:=decide_eq_true hlt;have hk0:(0:Int)≤(k:Int):=by omega
    have hk1:(k:Int)<(s.blobs.length:Int):=by omega
    obtain⟨bq,oq,Bq,cq,hA,hbq,d0,d1,d2,d3,hsl⟩:=(hrd.b.below hb0r).blob_at k hlt;subst hA;have HSU:=sqH (Zi s.blobs k hlt);have hxl:s.blobs[k].dig.length≤maxLen:=by have:=HS.out.g _ (List.getElem_mem hlt);unfold maxLen;omega
    have HKL:=sqH hlt;have hLn:=yN s.ents HS.out.p;have hLm:=vX (s.blobs.take k);rw [List.length_take]at hLm;have hMl:(vY s.ents++uL (s.blobs.take k)).length<maxLen:=by rw [List.length_append];unfold maxLen;omega
    generalize s.blobs[k]=q at *
    have hbox:Arr (wr.alloc (.cells #[.string ⟨q.dig.toArray⟩,.slice Bq q.data.length cq,.int .i64 q.pins,.bool q.mark] 52)) wr.heap.size 52 [.string ⟨q.dig.toArray⟩,.slice Bq q.data.length cq,.int .i64 q.pins,.bool q.mark]:=Arr.new wr 52 _;have hgA:=hgr.trans (World.grownBy_alloc wr (.cells #[.string ⟨q.dig.toArray⟩,.slice Bq q.data.length cq,.int .i64 q.pins,.bool q.mark] 52) (some b));have hsetA:=World.ownsMap.alloc hset (.cells #[.string ⟨q.dig.toArray⟩,.slice Bq q.data.length cq,.int .i64 q.pins,.bool q.mark] 52);have p2:=hbox.cell (k:=2) rfl;have p0:=hbox.cell (k:=0) rfl;clear hsl hset hLn hLm;by_cases hp:0<q.pins
    ·have hpb:decide ((0:Int)<(q.pins:Int))=true:=decide_eq_true (by omega);have hpb':decide (0<q.pins)=true:=decide_eq_true hp;obtain⟨w3,hput,hset3,hg3⟩:=q8.put hsetA q.dig hxl hMl;have hsu:=HSU.out;rw [if_pos hp]at hsu;have HSV:=sqH hsu;have HST3:=sqH hset3;clear hsetA hset3 hp hsu HSU;go_wp2_with fail;go_roundg (s.blobs.length - (k+1))
     case measure=>have:=HGK.out;have:=HKL.out;omega
     case rel=>exact⟨k+1,rfl,by go_num,by have:=HKL.out;omega,by rw [HSV.out,←List.append_assoc];exact HST3.out,hgA.trans hg3⟩
    ·have hpb:decide ((0:Int)<(q.pins:Int))=false:=decide_eq_false (by omega);have hpb':decide (0<q.pins)=false:=decide_eq_false hp;have hsu:=HSU.out;rw [if_neg hp,List.append_nil]at hsu;have HSV:=sqH hsu;have HST3:=sqH hsetA;clear hsetA hp hsu HSU;go_wp2_with fail;go_roundg (s.blobs.length - (k+1))
     case measure=>have:=HGK.out;have:=HKL.out;omega
     case rel=>exact⟨k+1,rfl,by go_num,by have:=HKL.out;omega,by rw [HSV.out];exact HST3.out,hgA⟩
  have hlb:decide (k<s.ents.length)=true:=decide_eq_true hlt;have hk0:(0:Int)≤(k:Int):=by omega
  have hk1:(k:Int)<(s.ents.length:Int):=by omega
  have hb0r:=hb1.grown hgr hb1.size (fun k hk=>by cases hk;exact hwb);obtain⟨bq,oq,Bq,cq,hA,hbq,c0,c1,c2,c3,hsl⟩:=hrd.e.ent_at k hlt;subst hA;have d0:=((ZP hb0r).1 bq _ hbq).trans c0;have d1:=((ZP hb0r).1 bq _ hbq).trans c1;have d2:=((ZP hb0r).1 bq _ hbq).trans c2;have d3:=((ZP hb0r).1 bq _ hbq).trans c3;clear c0 c1 c2 c3;have HSU:=sqH (Zj s.ents k hlt);have hp8:=HS.out.p _ (List.getElem_mem hlt);have HPD:=sqH (HS.out.d _ (List.getElem_mem hlt));have hLn:=yN (s.ents.take k) (fun x hx=>HS.out.p x (List.mem_of_mem_take hx));rw [List.length_take]at hLn;have hLn2:(vY (s.ents.take k)).length≤192:=by omega
  have HKL:=sqH hlt;generalize s.ents[k]=q at *
  have hbox:Arr (wr.alloc (.cells #[.string ⟨q.key.toArray⟩,.slice Bq q.parts.length cq,.int .i64 q.pins,.int .i64 q.stamp] 64)) wr.heap.size 64 [.string ⟨q.key.toArray⟩,.slice Bq q.parts.length cq,.int .i64 q.pins,.int .i64 q.stamp]:=Arr.new wr 64 _;have hgA:=hgr.trans (World.grownBy_alloc wr (.cells #[.string ⟨q.key.toArray⟩,.slice Bq q.parts.length cq,.int .i64 q.pins,.int .i64 q.stamp] 64) (some b));have hsetA:q8 _ b _:=World.ownsMap.alloc hset (.cells #[.string ⟨q.key.toArray⟩,.slice Bq q.parts.length cq,.int .i64 q.pins,.int .i64 q.stamp] 64);have p1:=hbox.cell (k:=1) rfl;have hq63:(q.parts.length:Int)≤9223372036854775807:=by omega
  clear hset hLn;go_wp2_with fail;clear d0 d1 d2 d3 p1;generalize (wr.alloc (.cells #[.string ⟨q.key.toArray⟩,.slice Bq q.parts.length cq,.int .i64 q.pins,.int .i64 q.stamp] 64))=wA at *
  clear hbox;go_loopg [21] q.parts.length (fun gn i wr=>∃j:Nat,gn=q.parts.length - j∧i= .int .i64 j∧j≤q.parts.length∧q8 wr b (vY (s.ents.take k)++(q.parts.take j).map (·.dig))∧w1.grownBy wr (some b))
  case atStart=>exact⟨0,rfl,rfl,by omega,by rw [List.take_zero];simpa using hsetA,hgA⟩
  case round =>
   obtain⟨j,hgj,rfl,hj,hset,hgi⟩:=hrel;have HGJ:=sqH hgj;have hb0i:=hb1.grown hgi hb1.size (fun k hk=>by cases hk;exact hwb);clear hgj hsetA hgA;by_cases hlt2:j<q.parts.length
   rotate_left
   ·obtain rfl:j=q.parts.length:=by omega
    have hlb2:decide (q.parts.length<q.parts.length)=false:=by simp
    rw [List.take_length,←HSU.out]at hset;have HST:=sqH hset;clear hset;go_wp2_with fail;go_roundg (s.ents.length - (k+1))
    case measure=>have:=HGK.out;have:=HKL.out;omega
    case rel=>exact⟨k+1,rfl,by go_num,by have:=HKL.out;omega,HST.out,hgi⟩
   have hlb2:decide (j<q.parts.length)=true:=decide_eq_true hlt2;have hj0:(0:Int)≤(j:Int):=by omega
   have hj1:(j:Int)<(q.parts.length:Int):=by omega
   obtain⟨bb,off,hAb,_,hcell⟩:=(hsl.below hb0i).rd.2 (by omega);subst hAb;have hat:=fun i (hi:i<3)=>kI q.parts j i hlt2 hi;have c0:=hcell (j*3+0) _ (hat 0 (by omega));have c1:=hcell (j*3+1) _ (hat 1 (by omega));have c2:=hcell (j*3+2) _ (hat 2 (by omega));have hpd:q.parts[j].dig.length≤maxLen:=by have:=HPD.out _ (List.getElem_mem hlt2);unfold maxLen;omega
   have HTK:=sqH (show(q.parts.take (j+1)).map (·.dig)=(q.parts.take j).map (·.dig)++ [q.parts[j].dig] from by rw [List.take_succ_eq_append_getElem hlt2,List.map_append];rfl);have HJL:=sqH hlt2;generalize q.parts[j]=pt at *
   obtain⟨pn,pd,psz⟩:=pt;dsimp only [qu,List.getElem?_cons_zero,List.getElem?_cons_succ]at c0 c1 c2 hpd HTK;rw [Nat.add_zero]at c0;rw [show off+(j*3+1)=off+j*3+1 by omega]at c1;rw [show off+(j*3+2)=off+j*3+2 by omega]at c2;have hMl:(vY (s.ents.take k)++(q.parts.take j).map (·.dig)).length<maxLen:=by rw [List.length_append,List.length_map,List.length_take];unfold maxLen;omega
   have hbx:Arr (wr.alloc (.cells #[.string ⟨pn.toArray⟩,.string ⟨pd.toArray⟩,.int .i64 psz] 77)) wr.heap.size 77 [.string ⟨pn.toArray⟩,.string ⟨pd.toArray⟩,.int .i64 psz]:=Arr.new wr 77 _;have hgB:=hgi.trans (World.grownBy_alloc wr (.cells #[.string ⟨pn.toArray⟩,.string ⟨pd.toArray⟩,.int .i64 psz] 77) (some b));have hsetB:q8 _ b _:=World.ownsMap.alloc hset (.cells #[.string ⟨pn.toArray⟩,.string ⟨pd.toArray⟩,.int .i64 psz] 77);have p1:=hbx.cell (k:=1) rfl;obtain⟨w3,hput,hset3,hg3⟩:=q8.put hsetB pd hpd hMl;have HST3:=sqH hset3;clear hat hcell hset hset3 hsetB;go_wp2_with fail;go_roundg (q.parts.length - (j+1))
   case measure=>have:=HGJ.out;have:=HJL.out;omega
   case rel=>exact⟨j+1,rfl,by go_num,by have:=HJL.out;omega,by rw [HTK.out,←List.append_assoc];exact HST3.out,hgB.trans hg3⟩
theorem uR (A B:Option Addr) (c d:Nat) (s:StoP) (R C:Int) (w:World) (hs:RtsOk s) (hrd:RdSt w A c B d s) :
  Calls Tryz.prog 54 #[.agg #[.slice A s.blobs.length c,.slice B s.ents.length d,.int .i64 R,.int .i64 C]] w fun e w'=>∃v L,e= .returned v∧StrL L (Rch s.blobs (rts s))∧L.length≤s.blobs.length∧w'.ownsRow w.heap.size 9 1 v L.length (strs L)∧Below w.heap.size w w':=by
 have HOK:=sqH hs;have hx0:Arr (w.alloc (.cells #[.slice A s.blobs.length c,.slice B s.ents.length d,.int .i64 R,.int .i64 C] 26)) w.heap.size 26 [.slice A s.blobs.length c,.slice B s.ents.length d,.int .i64 R,.int .i64 C]:=Arr.new w 26 _;have hb0:=(Below.refl w.heap.size w).alloc (Nat.le_refl _) (.cells #[.slice A s.blobs.length c,.slice B s.ents.length d,.int .i64 R,.int .i64 C] 26);have hrd1:=hrd.below hb0;clear hs hrd;go_enter Tryz.func54,Tryz.ntmps54;go_wp2_with fail;generalize (w.alloc (.cells #[.slice A s.blobs.length c,.slice B s.ents.length d,.int .i64 R,.int .i64 C] 26))=w1 at *
 obtain⟨gS,hgS⟩:∃g,g=w.heap.size:=⟨_,rfl⟩
 rw [←hgS]at hx0 ⊢
 have HSB:=sqH (show ∀w',Below w1.heap.size w1 w'→(w'.cell? ⟨gS,0,none⟩=some (.slice A s.blobs.length c)∧w'.cell? ⟨gS,1,none⟩=some (.slice B s.ents.length d)∧w'.cell? ⟨gS,2,none⟩=some (.int .i64 R)∧w'.cell? ⟨gS,3,none⟩=some (.int .i64 C)) from
  fun w' hb=>⟨(hx0.below hb).cell (k:=0) rfl,(hx0.below hb).cell (k:=1) rfl,(hx0.below hb).cell (k:=2) rfl,(hx0.below hb).cell (k:=3) rfl⟩)
 have HRD:=sqH hrd1;have HB1:=sqH hb0;have HgS:=sqH hgS;clear hgS hx0 hrd1 hb0;refine wp_region_held_drew (S:=(fun w'=>w'.cell? ⟨gS,0,none⟩=some (.slice A s.blobs.length c)∧w'.cell? ⟨gS,1,none⟩=some (.slice B s.ents.length d)∧w'.cell? ⟨gS,2,none⟩=some (.int .i64 R)∧w'.cell? ⟨gS,3,none⟩=some (.int .i64 C))) (by kernel_rfl) ?_ (fun hHeld=> ?_)
 ·exact HSB.out _ (Below.refl _ w1).drew
 have hB:=(Below.refl w1.heap.size w1).drew;generalize w1.drew=wn0 at *
 refine sqTH 0 ?_;try simp only [sqP]
 refine sqTH 1 ?_;try simp only [sqP]
 refine sqTH 2 ?_;try simp only [sqP]
 refine wpAnyH_ready (rs:= [3]) (by kernel_rfl) (by simp) ?_;refine AllReadyH.cons (o:=_) rfl (fun K hK=> ?_) ?_
 ·
  go_simp;refine(ko A B c d s R C wn0 HOK.out (HRD.out.below hB)).mono ?_;rintro e5 w5 ⟨v5,L1,rfl,hL1,hl1,ho5,hb5⟩;obtain⟨A3,c3,rfl,_,_⟩:=Rd.of_own' ho5;have HL1:=sqH hL1;clear hL1;dsimp only;refine qi hK ?_ (Below wn0.heap.size wn0) (fun W=>W.ownsRow w1.heap.size 9 1 (.slice A3 L1.length c3) L1.length (strs L1)) ?_ ?_ (fun wn1 hHeld hst hnew=> ?_)
  ·(exact HSB.out _ (hB.trans (Below.mono (show Below wn0.heap.size wn0 _ from by(first | exact hb5 | exact hb6 | exact Below.refl _ _)) hB.size)))
  ·(first | exact hb5 | exact hb6 | exact Below.refl _ _)
  ·(exact zg ho5 hB.size)
  have hB:=hB.trans (hst.mono hB.size);have h3:=hnew;clear hst;clear hK K
  try simp only [sqP]
  refine wpAnyH_ready (rs:= [4]) (by kernel_rfl) (by simp) ?_;refine AllReadyH.cons (o:=_) rfl (fun K hK=> ?_) ?_
  ·
   go_simp;refine(j0 A A3 c c3 s.blobs L1 wn1 (by have:=HOK.out.b;omega) HRD.out.bc HRD.out.bm HOK.out.g (HRD.out.b.below hB) (by omega) (Rd.of_own h3)).mono ?_;rintro e6 w6 ⟨v6,L2,rfl,hL2,hl2,ho6,hb6⟩;have HL2:=sqH hL2;clear hL2;dsimp only;refine qi hK ?_ (Below wn1.heap.size wn1) (fun W=>W.ownsRow w1.heap.size 9 1 v6 L2.length (strs L2)) ?_ ?_ (fun wn2 hHeld hst hnew=> ?_)
   ·(exact HSB.out _ (hB.trans (Below.mono (show Below wn1.heap.size wn1 _ from by(first | exact hb5 | exact hb6 | exact Below.refl _ _)) hB.size)))
   ·(first | exact hb5 | exact hb6 | exact Below.refl _ _)
   ·(exact zg ho6 hB.size)
   have hB:=hB.trans (hst.mono hB.size);have h4:=hnew;clear hst;clear hK K
   try simp only [sqP]
   refine sqTH 5 ?_;try simp only [sqP]
   refine wpAnyH_done (by kernel_rfl) ?_ _
   try dsimp only [Exit.then]
   clear hHeld;have hBz:=HB1.out.trans (hB.mono HB1.out.size);clear hB h3;have e9:=HgS.out;subst e9
   repeat' (fail_if_success (first|at_builtin|at_make));first|go_values|go_skip|go_guarded|go_step|go_upon|go_back
   go_ret;refine⟨v6,L2,rfl,⟨HL2.out.nd,HL2.out.le,fun x=> ?_⟩,hl2,zg h4 HB1.out.size,hBz⟩;rw [HL2.out.mem];exact⟨fun h=>h.mono fun y hy hi=> .root ((HL1.out.mem y).1 hy) hi,fun h=>h.mono fun y hy hi=> .root ((HL1.out.mem y).2 hy) hi⟩
  exact AllReadyH.nil
 exact AllReadyH.nil
theorem yG {bl:List BlobP} (hr:RisesBy (·.dig) bl) {b:BlobP} (hb:b∈bl):kids bl b.dig=(kC b.data).1.map (·.dig):=by
 cases hf:bl.findIdx? (fun x=>x.dig==b.dig) with
 | none =>
  have:=jU.1 ⟨b,hb,rfl⟩;rw [hf]at this;cases this
 | some i =>
  have hi:i<bl.length:=(List.findIdx?_eq_some_iff_getElem.1 hf).1;have hd:bl[i].dig=b.dig:=by simpa using (List.findIdx?_eq_some_iff_getElem.1 hf).2.1
  have e:=hr.inj (List.getElem_mem hi) hb hd;have:=jX hf hi;rw [e]at this;exact this
end Go.Proofs.YtdbbehfbkiiloaaGreatDoor
namespace Go.Proofs.YtdbbehfbkiiloaaGreatDoor
open Go.RowKit
section
variable {bl bl':List BlobP} {ds ds':List (List UInt8)}
theorem InB.sub {x:List UInt8} (hs:∀b∈bl',b∈bl) (h:InB bl' x):InB bl x:=by
 obtain⟨b,hb,e⟩:=h;exact⟨b,hs b hb,e⟩
theorem yH (hr:RisesBy (·.dig) bl) (hr':RisesBy (·.dig) bl') (hs:∀b∈bl',b∈bl) {x:List UInt8} (hx:InB bl' x):kids bl' x=kids bl x:=by
 obtain⟨b,hb,rfl⟩:=hx;rw [yG hr' hb,yG hr (hs b hb)]
theorem Rch.sub (hr:RisesBy (·.dig) bl) (hr':RisesBy (·.dig) bl') (hs:∀b∈bl',b∈bl) (hd:∀x∈ds',x∈ds) {x:List UInt8} (h:Rch bl' ds' x):Rch bl ds x:=by
 induction h with
 | root h1 h2=>exact .root (hd _ h1) (h2.sub hs)
 | step h1 h2 h3 ih=>exact .step ih (by rw [←yH hr hr' hs h1.inB];exact h2) (h3.sub hs)
theorem Rch.keepb (hr:RisesBy (·.dig) bl) (hr':RisesBy (·.dig) bl') (hs:∀b∈bl',b∈bl) (hd:∀x∈ds,x∈ds') (hk:∀x,Rch bl ds x→InB bl' x) {x:List UInt8} (h:Rch bl ds x):Rch bl' ds' x:=by
 induction h with
 | root h1 h2=>exact .root (hd _ h1) (hk _ (.root h1 h2))
 | step h1 h2 h3 ih=>exact .step ih (by rw [yH hr hr' hs (hk _ h1)];exact h2) (hk _ (.step h1 h2 h3))
end
section
variable {w:World} {base g cap:Nat} {e:TypeId} {N:Nat→Prop}
theorem vj {P:Program} (w:World) (t e ty:TypeId) (z:Value) (zs:List Value) (n:Nat) (hn:0<n) (ht:P.underlying t=some (.slice e)) (hv:∀w,(zeroValue e).run P w= .ok z w) (hz:(Builtin.zeroCells z.cells n).toList=zs) (h1:∀u∈zs,u.oneCell'=true) (b o c:Nat)
  (hc:∀j,j<zs.length→(w.cell? ⟨b,o+j,none⟩).isSome=true) (hf:∀j,j<zs.length→w.frozen? ⟨b,o+j,none⟩=false) :
  (Builtin.clear_ #[t] ty #[.slice (some ⟨b,o,none⟩) n c]).run P w= .ok (.tuple #[]) (w.setCells b o zs):=by
 have hst:=run_storeCells_cells (P:=P) b o zs 0 w (by simpa using hc) (by simpa using hf) h1;simp only [Nat.add_zero]at hst;cases n with
 | zero=>omega
 | succ m=>simp [Builtin.clear_,run_underlying ht,hv,hz,hst]
theorem yW (z:Array Value) (n:Nat):(Builtin.zeroCells z n).toList.length=n*z.size:=by simp [Builtin.zeroCells]
theorem yX (z:Array Value) (n:Nat) (h0:0<z.size) (h:∀u∈z.toList,u.oneCell'=true):∀u∈(Builtin.zeroCells z n).toList,u.oneCell'=true:=fun u hu=>by
 simp only [Builtin.zeroCells,Array.toList_map,List.mem_map]at hu
 obtain⟨i,_,rfl⟩:=hu
 have hlt:i % z.size<z.size:=Nat.mod_lt _ h0
 rw [getElem!_pos z _ hlt]
 exact h _ (Array.mem_toList_iff.2 (Array.getElem_mem hlt))
theorem Z6 {size n i:Nat} {xs zs:List Value} (h:w.ownsRow base e size (.slice (some ⟨g,0,none⟩) n cap) n xs) (hn:0<n) (hi:i<n) (hz:zs.length=(n - i)*size) :
  (w.setCells g (i*size) zs).ownsRow base e size (.slice (some ⟨g,0,none⟩) i cap) i (xs.take (i*size))∧w.grownBy (w.setCells g (i*size) zs) (some g)∧(∀j,j<zs.length→(w.cell? ⟨g,i*size+j,none⟩).isSome=true)∧(∀j,j<zs.length→w.frozen? ⟨g,i*size+j,none⟩=false):=by
 obtain⟨g',cap',cs,e1,hbg,hA,hnc,hcm,hcl,hct⟩:=Qy h hn;injection e1 with e11 _ e13;injection e11 with e11;injection e11 with e11;subst e11 e13;have him:(n - i)*size+i*size=n*size:=by rw [←Nat.add_mul,Nat.sub_add_cancel (by omega)]
 have hns:n*size≤cap*size:=Nat.mul_le_mul_right _ hnc;have e2:cs=cs.take (i*size)++((cs.drop (i*size)).take ((n - i)*size)++cs.drop (n*size)):=by
  conv=>lhs;rw [←List.take_append_drop (i*size) cs]
  congr 1
  conv=>lhs;rw [←List.take_append_drop ((n - i)*size) (cs.drop (i*size))]
  rw [List.drop_drop,Nat.add_comm,him]
 have hl1:(cs.take (i*size)).length=i*size:=by rw [List.length_take];omega
 have hA2:=hA;rw [e2]at hA2;have h3:=vM _ zs _ _ w hA2 (by rw [hz,List.length_take,List.length_drop];omega);rw [hl1]at h3;refine⟨⟨?_,.inr ⟨g,cap,_,rfl,hbg,by simpa [Arr] using h3,by omega,hcm,?_,?_⟩⟩,kH _ _ _,fun j hj=> ?_,fun j hj=>hA.frozen _⟩
 ·rw [List.length_take,h.1];exact Nat.min_eq_left (by omega)
 ·simp only [List.size_toArray,List.length_append,List.length_take,List.length_drop,hcl,hz];omega
 ·simp only;rw [List.take_left' hl1,←hct,List.take_take,Nat.min_eq_left (by omega)]
 ·have hk:i*size+j<cs.length:=by rw [hcl];omega
  rw [hA.cell (List.getElem?_eq_getElem hk)];rfl
end
theorem OwSt.mono {w:World} {base:Nat} {v1 v2:Value} {s:StoP} {N N':Nat→Prop} (h:OwSt w base v1 v2 s N) (hN:∀b,N' b→N b):OwSt w base v1 v2 s N':=h.wider fun b hb=> .inl (hN b hb)
end Go.Proofs.YtdbbehfbkiiloaaGreatDoor
