/- Lemmas, as stated. -/
import Derived.BigGuardPart
import Derived.ArgAppend
import Derived.Lib.SlBytesConst
import Derived.Test.YtcjmjaefcjcomaaGreatQB03
set_option linter.unusedVariables false
set_option linter.unusedSimpArgs false
set_option maxRecDepth 100000
set_option maxHeartbeats 4000000
open Go.Proofs.Tryz
open Go.Value renaming int->aB,string->aD,slice->aA
open Go.IntKind renaming i64->aC
open Go.Obj renaming cells->aE
open Option renaming none->aF,some->aG
open Go.Proofs.Tryz renaming prog->zZZ
open And renaming intro->aH
namespace Go.Proofs.YtcjmjaefcjcomaaGreat
open Go.RowKit
variable {α:Type} {l m:List BlobP} {base k:Nat} {p:PartP} {v:Value} {W w:World} {X d:ai} {A:aj} {f:α->List UInt8}
def VS (c:UInt8):Bool:=decide (33<=c.toNat/\c.toNat<=126)
def k6 (l:ai):Nat:=if l.length<1\/12<l.length then 1 else if l.all VS then 0 else 3
theorem z0j (s:ByteArray) (w:World) (hs:s.size<=140737488351232) :
  Calls Tryz.prog 58 #[aD s] w fun e w'=>e= .returned (aB aC (k6 s.data.toList))/\w'=w:=by
 have hsz:s.data.toList.length=s.size:=by rw [Array.length_toList];rfl
 by_cases hbad:s.size<1\/12<s.size
 ·have hfin:k6 s.data.toList=1:=by rw [k6,if_pos wu]
  have HF:=sqH hfin;clear hfin hsz;have hb:s.size<1\/¬s.size<1/\12<s.size:=wu;clear hbad;rcases hb with h1 | ⟨h1,h2⟩
  all_goals
   go_enter func58,ntmps58;go_wp2_with fail;go_ret;rw [HF.o];exact⟨rfl,rfl⟩
 ·have hfin:k6 s.data.toList=if s.data.toList.all VS then 0 else 3:=by rw [k6,if_neg wu]
  have HF:=sqH hfin;have HZ:=sqH hsz;have h1:¬s.size<1:=wu;have h2:¬12<s.size:=wu;have h3:s.size<=12:=wu;have hb12:decide (12<(s.size:Int))=false:=by simp;omega
  clear hfin hsz hbad;go_enter func58,ntmps58;go_wp2_with fail;go_loopg [14] s.size (fun gn i wr=>∃k:Nat,gn=s.size - k/\i= aB aC k/\k<=s.size/\(s.data.toList.take k).all VS=true/\wr=w)
  case atStart=>exact⟨0,rfl,rfl,wu,rfl,rfl⟩
  case round =>
   obtain⟨k,hgk,rfl,hk,hall,rfl⟩:=hrel;have HGK:=sqH hgk;have HA:=sqH hall;clear hgk hall;by_cases hlt:k<s.size
   ·have hta:(s.data.toList.take (k+1)).all VS=(VS s[k]):=by
     have e:s.data.toList.take (k+1)=s.data.toList.take k++ [s[k]]:=by
      rw [List.take_succ_eq_append_getElem (wc HZ)];rfl
     rw [e,List.all_append,HA.o];simp
    have hno:VS s[k]=false->k6 s.data.toList=3:=fun h=>by
     rw [HF.o,if_neg];intro ha;have hm:s[k]∈s.data.toList:=by
      have:s.data.toList[k]'(wc HZ)=s[k]:=rfl;rw [<-this];exact List.getElem_mem _
     have:=List.all_eq_true.1 ha _ hm;rw [h]at this;cases this
    have HTA:=sqH hta;have HNO:=sqH hno;clear hta hno;have hc:=s[k].toNat_lt;have hi0:=we k
    have hi1:(k:Int)<(s.size:Int):=wu;by_cases hlo:s[k].toNat<=32
    ·have hf:=HNO.o (by simp [VS];omega);have HFF:=sqH hf;have hlo':(s[k].toNat:Int)<=32:=wu
     clear hf;go_wp2_with fail;go_ret;rw [HFF.o];exact⟨rfl,rfl⟩
    ·by_cases hhi:126<s[k].toNat
     ·have hf:=HNO.o (by simp [VS];omega);have HFF:=sqH hf;have hlo':¬(s[k].toNat:Int)<=32:=wu
      have hhi':126<(s[k].toNat:Int):=wu;have hbh:decide (126<(s[k].toNat:Int))=true:=by simpa using hhi'
      clear hf;go_wp2_with fail;go_ret;rw [HFF.o];exact⟨rfl,rfl⟩
     ·have hok:VS s[k]=true:=by simp [VS];omega
      have HOK:=sqH hok;have hlo':¬(s[k].toNat:Int)<=32:=wu;have hhi':¬126<(s[k].toNat:Int):=wu;have hbh:decide (126<(s[k].toNat:Int))=false:=by simpa using hhi'
      clear hok;go_wp2_with fail;go_roundg (s.size - (k+1))
      case measure=>exact wc HGK
      case rel=>exact⟨k+1,rfl,by go_num,wu,by rw [HTA.o,HOK.o],rfl⟩
   ·obtain rfl:k=s.size:=by omega
    go_wp2_with fail;go_ret;rw [HF.o,if_pos (by have:=HA.o;rw [List.take_of_length_le (wc HZ)]at this;exact this)];exact⟨rfl,rfl⟩
def leS (a b:ai):Bool:=Op.bytesLess a b||a==b
def yv:Option (ai)->List PartP->Nat
 | _, []=>0
 | q,p::r=>if k6 p.name≠0 then k6 p.name else if (match q with | some q=>leS p.name q | none=>false) then 6 else if hexC p.dig≠0 then hexC p.dig else if 300<p.size then 4 else yv (aG p.name) r
theorem k5 (q:Option (ai)) (p:PartP) (r:List PartP):yv q (p::r)=if k6 p.name≠0 then k6 p.name else if (match q with | some q=>leS p.name q | none=>false) then 6 else if hexC p.dig≠0 then hexC p.dig else if 300<p.size then 4 else yv (aG p.name) r:=rfl
def chk (l:List PartP):Nat:=if 8<l.length then 1 else yv aF l
def jA (l:List PartP):Prop:=∀p∈l,p.name.length<=140737488351232/\p.dig.length<=140737488351232/\(p.size:Int)<=9223372036854775807
def QC (l:List PartP) (k:Nat):Option (ai):=match k with | 0=>aF | m+1=>(l[m]?).map (·.name)
theorem yK (A:aj) (n c:Nat) (l:List PartP) (w:World) (hl:l.length=n) (hc:n<=c) (hm:n<=9223372036854775807) (hok:jA l) (hr:Rd w 3 A n (pcs l)) :
  Calls Tryz.prog 40 #[.slice A n c] w fun e w'=>e= .returned (aB aC (chk l))/\Below w.heap.size w w':=by
 have HOK:=sqH hok;have HL:=sqH hl;by_cases hbig:8<n
 ·have hfin:chk l=1:=by rw [chk,if_pos wu]
  have HF:=sqH hfin;clear hfin hok hl;go_enter func40,ntmps40;go_wp2_with fail;go_ret;rw [HF.o];exact⟨rfl,Below.refl _ _⟩
 have hfin:chk l=yv aF l:=by rw [chk,if_neg wu]
 have HF:=sqH hfin;clear hfin hok hl;go_enter func40,ntmps40;go_wp2_with fail;go_loopg [12] n (fun gn i wr=>∃k:Nat,gn=n - k/\i= aB aC k/\k<=n/\chk l=yv (QC l k) (l.drop k)/\Below w.heap.size w wr)
 case atStart=>exact⟨0,rfl,rfl,wu,HF.o,Below.refl _ _⟩
 case round =>
  clear HF;obtain⟨k,hgk,rfl,hk,hch,hbel⟩:=hrel;have HGK:=sqH hgk;clear hgk;by_cases hlt:k<n
  ·have hkl:k<l.length:=by have:=HL.o;omega
   have hstep:chk l=yv (QC l k) (l[k]::l.drop (k+1)):=by rw [hch,List.drop_eq_getElem_cons hkl]
   have hpn:QC l (k+1)=aG l[k].name:=by simp [QC,hkl]
   obtain⟨b,off,rfl,hbw,hcell⟩:=(hr.below hbel).2 wu;have hat:=fun j (hj:j<3)=>yu l k j hkl hj;have hpok:=HOK.o l[k] (List.getElem_mem hkl);have hprev:0<k->∃q:ai,QC l k=aG q/\wr.cell? ⟨b,off+(k - 1)*3,aF⟩=aG (aD ⟨q.toArray⟩):=fun h0=>by
    obtain⟨m,rfl⟩:∃m,k=m+1:=⟨k - 1,wu⟩
    refine⟨l[m].name,by simp [QC,show m<l.length by omega],?_⟩;have:=yu l m 0 wu wu;exact hcell (m*3+0) _ this
   generalize l[k]=p at *
   have c0:=hcell (k*3+0) _ (hat 0 wu);have c1:=hcell (k*3+1) _ (hat 1 wu);have c2:=hcell (k*3+2) _ (hat 2 wu);rw [Nat.add_zero]at c0;rw [show off+(k*3+1)=off+k*3+1 by omega]at c1;rw [show off+(k*3+2)=off+k*3+2 by omega]at c2;obtain⟨pn,pd,psz⟩:=p;dsimp only [yn,List.getElem?_cons_zero,List.getElem?_cons_succ]at c0 c1 c2;obtain⟨HST,HPN,HPK⟩:=sqJ3 hstep hpn hpok;have hsz:=hbel.size;obtain⟨s,hs⟩:=wY (⟨pn.toArray⟩:ByteArray)
   obtain⟨t,ht⟩:=wY (⟨pd.toArray⟩:ByteArray)
   have hsd:s.data.toList=pn:=by rw [hs]
   have htd:t.data.toList=pd:=by rw [ht]
   rw [<-hs]at c0;rw [<-ht]at c1;have hssz:s.size<=140737488351232:=by have:=HPK.o.1;rw [hs];exact this
   have htsz:t.size<=140737488351232:=by have:=HPK.o.2.1;rw [ht];exact this
   have hp0:=HPK.o.2.2;obtain⟨HN,HC,HSD,HTD⟩:=sqJ4 (fun w'=>z0j s w' hssz) (fun w'=>kG t w' htsz) hsd htd;dsimp only at hp0;have hi0:=we psz
   clear hstep hpn hat hcell hpok hch hs ht hsd htd hr;by_cases hn0:k6 s.data.toList=0
   ·have hnb:((k6 s.data.toList:Int) != 0)=false:=by rw [bne_eq_false_iff_eq];omega
    have hn1:k6 pn=0:=by rw [<-HSD.o];exact hn0
    generalize k6 s.data.toList=nc at *
    have HNC:=sqH hn0;have HN1:=sqH hn1;clear hn0 hn1;by_cases hk0:0<k
    ·obtain⟨q,hq1,hq2⟩:=hprev hk0;have hkb:decide (0<(k:Int))=true:=by simp;omega
     have hm1:IntKind.i64.wrap ((k:Int) - 1)=(k:Int) - 1:=IntWalk.i64_in _ wu;have hm2:((k:Int) - 1).toNat=k - 1:=wu;have hm3:(0:Int)<=(k:Int) - 1:=wu;have hm4:(k:Int) - 1<(n:Int):=wu;have hm5:(1:Int)<=(k:Int):=wu;have hls:leS pn q=(Op.bytesLess s.toList q||s.toList==q):=by rw [leS,<-HSD.o,ByteArray.toList_eq]
     have HQ1:=sqH hq1;have HLS:=sqH hls;clear hprev hq1 hls;go_wp2_with fail;refine(HN.o _).mono ?_;rintro e_ _ ⟨rfl,rfl⟩;dsimp only;go_wp2_with fail;have d1:(wr.alloc (aE #[aD s,aD t,aB aC psz] 85)).cell? ⟨wr.heap.size,1,aF⟩=aG (aD t):=ab;have d0:(wr.alloc (aE #[aD s,aD t,aB aC psz] 85)).cell? ⟨wr.heap.size,0,aF⟩=aG (aD s):=ab;have d2:(wr.alloc (aE #[aD s,aD t,aB aC psz] 85)).cell? ⟨wr.heap.size,2,aF⟩=aG (aB aC psz):=ab;have hbl:=hbel.alloc hsz (aE #[aD s,aD t,aB aC psz] 85);have hlt2:wr.heap.size<(wr.alloc (aE #[aD s,aD t,aB aC psz] 85)).heap.size:=ab;have d3:=(World.cell?_alloc_lt wr (aE #[aD s,aD t,aB aC psz] 85) ⟨b,off+(k - 1)*3,aF⟩ hbw).trans hq2;generalize wr.alloc (aE #[aD s,aD t,aB aC psz] 85)=wa at *
     generalize wr.heap.size=gr at *
     clear c0 c1 c2 hbel;clear hq2;go_quiet (fail);generalize (Op.bytesLess s.toList q||s.toList==q)=lb at *
     cases lb
     rotate_left
     ·have hfin:chk l=6:=by rw [HST.o,k5,if_neg (by simpa using HN1.o),HQ1.o];simp only [];rw [if_pos HLS.o]
      have HFIN:=sqH hfin;clear hfin;go_wp2_with fail;go_ret;rw [HFIN.o];exact⟨rfl,zO hbl _⟩
     ·have hnx:chk l=if hexC pd≠0 then hexC pd else if 300<psz then 4 else yv (aG pn) (l.drop (k+1)):=by
       rw [HST.o,k5,if_neg (by simpa using HN1.o),HQ1.o];simp only [];rw [if_neg (by rw [HLS.o];simp)]
      go_wp2_with fail;have HNX:=sqH hnx;clear hnx;have e2:(wa.drewN nq).cell? ⟨gr,2,aF⟩=_:=d2;have hbq:=zO hbl nq;have hlq:gr<(wa.drewN nq).heap.size:=hlt2;by_cases hh0:hexC t.data.toList=0
      ·have hhb:((hexC t.data.toList:Int) != 0)=false:=by rw [bne_eq_false_iff_eq];omega
       have hh1:hexC pd=0:=by rw [<-HTD.o];exact hh0
       have HH1:=sqH hh1;clear hh1;by_cases hbigs:300<psz
       ·have hfin:chk l=4:=by rw [HNX.o,if_neg (by simpa using HH1.o),if_pos hbigs]
        have HFIN:=sqH hfin;have hbi:(300:Int)<(psz:Int):=wu;have hbb:decide ((300:Int)<(psz:Int))=true:=by simpa using hbi
        clear hfin;go_wp2_with fail;refine wZ (HC.o _) fun w5 hb5=>?_;dsimp only;have f2:=(hb5.cell (p:=⟨gr,2,aF⟩) hlq).trans e2;have hb6:=wm hbq hb5;go_wp2_with fail;go_ret;rw [HFIN.o];exact⟨rfl,hb6⟩
       ·have hfin:chk l=yv (aG pn) (l.drop (k+1)):=by rw [HNX.o,if_neg (by simpa using HH1.o),if_neg hbigs]
        have HFIN:=sqH hfin;have hbi:¬(300:Int)<(psz:Int):=wu;have hbb:decide ((300:Int)<(psz:Int))=false:=by simpa using hbi
        clear hfin;go_wp2_with fail;refine wZ (HC.o _) fun w5 hb5=>?_;dsimp only;have f2:=(hb5.cell (p:=⟨gr,2,aF⟩) hlq).trans e2;have hb6:=wm hbq hb5;go_wp2_with fail;go_roundg (n - (k+1))
        case measure=>exact wc HGK
        case rel=>exact⟨k+1,rfl,by go_num,wu,by rw [HPN.o];exact HFIN.o,hb6⟩
      ·have hhb:((hexC t.data.toList:Int) != 0)=true:=by rw [bne_iff_ne];omega
       have hfin:chk l=hexC t.data.toList:=by rw [HNX.o,HTD.o,if_pos (by rw [<-HTD.o];exact hh0)]
       have HFIN:=sqH hfin;clear hfin;go_wp2_with fail;refine wZ (HC.o _) fun w5 hb5=>?_;dsimp only;have hb6:=wm hbq hb5;go_wp2_with fail;go_ret;rw [HFIN.o];exact⟨rfl,hb6⟩
    ·have hkb:decide (0<(k:Int))=false:=by simp;omega
     have hk00:k=0:=wu;have hpv:QC l k=aF:=by rw [hk00];rfl
     have HPV:=sqH hpv;clear hprev hk00 hpv;go_wp2_with fail;refine(HN.o _).mono ?_;rintro e_ _ ⟨rfl,rfl⟩;dsimp only;go_wp2_with fail;have d1:(wr.alloc (aE #[aD s,aD t,aB aC psz] 85)).cell? ⟨wr.heap.size,1,aF⟩=aG (aD t):=ab;have d0:(wr.alloc (aE #[aD s,aD t,aB aC psz] 85)).cell? ⟨wr.heap.size,0,aF⟩=aG (aD s):=ab;have d2:(wr.alloc (aE #[aD s,aD t,aB aC psz] 85)).cell? ⟨wr.heap.size,2,aF⟩=aG (aB aC psz):=ab;have hbl:=hbel.alloc hsz (aE #[aD s,aD t,aB aC psz] 85);have hlt2:wr.heap.size<(wr.alloc (aE #[aD s,aD t,aB aC psz] 85)).heap.size:=ab;generalize wr.alloc (aE #[aD s,aD t,aB aC psz] 85)=wa at *
     generalize wr.heap.size=gr at *
     clear c0 c1 c2 hbel;go_quiet (fail);go_wp2_with fail;have hnx:chk l=if hexC pd≠0 then hexC pd else if 300<psz then 4 else yv (aG pn) (l.drop (k+1)):=by
      rw [HST.o,k5,if_neg (by simpa using HN1.o),HPV.o];simp only [];rw [if_neg ab]
     have HNX:=sqH hnx;clear hnx;have e2:(wa.drewN nq).cell? ⟨gr,2,aF⟩=_:=d2;have hbq:=zO hbl nq;have hlq:gr<(wa.drewN nq).heap.size:=hlt2;by_cases hh0:hexC t.data.toList=0
     ·have hhb:((hexC t.data.toList:Int) != 0)=false:=by rw [bne_eq_false_iff_eq];omega
      have hh1:hexC pd=0:=by rw [<-HTD.o];exact hh0
      have HH1:=sqH hh1;clear hh1;by_cases hbigs:300<psz
      ·have hfin:chk l=4:=by rw [HNX.o,if_neg (by simpa using HH1.o),if_pos hbigs]
       have HFIN:=sqH hfin;have hbi:(300:Int)<(psz:Int):=wu;have hbb:decide ((300:Int)<(psz:Int))=true:=by simpa using hbi
       clear hfin;go_wp2_with fail;refine wZ (HC.o _) fun w5 hb5=>?_;dsimp only;have f2:=(hb5.cell (p:=⟨gr,2,aF⟩) hlq).trans e2;have hb6:=wm hbq hb5;go_wp2_with fail;go_ret;rw [HFIN.o];exact⟨rfl,hb6⟩
      ·have hfin:chk l=yv (aG pn) (l.drop (k+1)):=by rw [HNX.o,if_neg (by simpa using HH1.o),if_neg hbigs]
       have HFIN:=sqH hfin;have hbi:¬(300:Int)<(psz:Int):=wu;have hbb:decide ((300:Int)<(psz:Int))=false:=by simpa using hbi
       clear hfin;go_wp2_with fail;refine wZ (HC.o _) fun w5 hb5=>?_;dsimp only;have f2:=(hb5.cell (p:=⟨gr,2,aF⟩) hlq).trans e2;have hb6:=wm hbq hb5;go_wp2_with fail;go_roundg (n - (k+1))
       case measure=>exact wc HGK
       case rel=>exact⟨k+1,rfl,by go_num,wu,by rw [HPN.o];exact HFIN.o,hb6⟩
     ·have hhb:((hexC t.data.toList:Int) != 0)=true:=by rw [bne_iff_ne];omega
      have hfin:chk l=hexC t.data.toList:=by rw [HNX.o,HTD.o,if_pos (by rw [<-HTD.o];exact hh0)]
      have HFIN:=sqH hfin;clear hfin;go_wp2_with fail;refine wZ (HC.o _) fun w5 hb5=>?_;dsimp only;have hb6:=wm hbq hb5;go_wp2_with fail;go_ret;rw [HFIN.o];exact⟨rfl,hb6⟩
   ·have hnb:((k6 s.data.toList:Int) != 0)=true:=by rw [bne_iff_ne];omega
    have hfin:chk l=k6 s.data.toList:=by rw [HST.o,k5,HSD.o,if_pos (by rw [<-HSD.o];exact hn0)]
    have HFIN:=sqH hfin;clear hfin hn0;go_wp2_with fail;refine(HN.o _).mono ?_;rintro e_ _ ⟨rfl,rfl⟩;dsimp only;go_wp2_with fail;go_ret;rw [HFIN.o];exact⟨rfl,hbel.alloc hsz _⟩
  ·obtain rfl:k=n:=by omega
   rw [List.drop_of_length_le (wc HL),yv]at hch;have HCH:=sqH hch;clear hch;go_wp2_with fail;go_ret;rw [HCH.o];exact⟨rfl,hbel⟩
def kR (p:PartP):ai:=txt p.name++(kr p.dig).1++num p.size
def enc (l:List PartP):ai:= [65,77,49]++num l.length++l.flatMap kR
def VR (W:World) (base:Nat) (v:Value) (X:ai):Prop :=
 W.ownsRow base 5 1 v X.length (bys X)\/(∃g,v= aA (aG ⟨g,0,aF⟩) X.length X.length/\Rd W 1 (aG ⟨g,0,aF⟩) X.length (bys X))
theorem z4w:∃(i:TypeInfo) (z:Value),zZZ.info? 5=aG i/\i.zero=aG z/\i.size=1/\i.bytes=1/\z.cells.size=1:=vu.ex
theorem VR.below {W':World} (h:VR W base v X) (hb:Below W.heap.size W W'):VR W' base v X :=
 h.imp (fun h=>zc h hb) (fun ⟨g,e,h⟩=>⟨g,e,h.below hb⟩)
theorem VR.lt (h:VR W base v X) (h0:0<X.length):∀k,v.ownBlock=aG k->k<W.heap.size:=fun k hk=>by
 rcases h with h | ⟨g,rfl,hr⟩
 ·exact(h.lt k hk).2
 ·obtain⟨b,off,e,hb,_⟩:=hr.2 h0
  injection hk with hk;injection e with e;injection e with e1
  simp only at hk
  omega
theorem K0 (A:aj) (n c:Nat) (l:ai) (E:Int) (gb base:Nat) (v:Value) (X:ai) (w:World) (hl:l.length=n) (h0:0<n) (hr:Rd w 1 A n (bys l)) (hbox:Arr w gb 25 [v]) (hv:VR w base v X)
  (hbase:base<=gb) (hX:X.length+n<=1000000) (hne:v.ownBlock≠aG gb) :
  Calls zZZ 42 #[aA A n c,aB aC E,.pointer (aG ⟨gb,0,aF⟩)] w fun e w'=>e= .returned (.tuple #[])/\∃v',Arr w' gb 25 [v']/\w'.ownsRow base 5 1 v' (X++l).length (bys (X++l))/\v'.ownBlock≠aG gb/\Below base w w' /\
   w.heap.size<=w'.heap.size/\(∀k,k<w.heap.size->k≠gb->v.ownBlock≠aG k->w'.heap[k]?=w.heap[k]?/\v'.ownBlock≠aG k):=by
 have hgl:=hbox.lt;have c0:=hbox.c0;have f0:=hbox.frozen 0;rcases hv with hown | ⟨g,rfl,hrd⟩
 ·go_enter func42,ntmps42
  refine wL ?_;intros;refine zG rfl (.tmp 5) (.tmp 6) rfl vu ac hown ac hr (kC _) wu wu ?_;intro v1 w1 ho1 hg1 hw1;have hgr:∀k,k<w.heap.size->v.ownBlock≠aG k->w1.heap[k]?=w.heap[k]?:=fun k hk hn=>hg1.block k hk (by simpa using Ne.symm hn);have q1:Arr w1 gb 25 [v]:=(hgr gb hgl hne).trans hbox;have hsz1:=hg1.size;have c1:=q1.c0;have f1:=q1.frozen 0;have q2:=q1.set (k:=0) ab v1;have hne1:v1.ownBlock≠aG gb:=by
   rcases hw1 with h | h
   ·rw [h];exact hne
   ·rw [h];intro e;injection e with e;omega
  have hnk:∀k,k<w.heap.size->v.ownBlock≠aG k->v1.ownBlock≠aG k:=fun k hk hn=>by
   rcases hw1 with h | h
   ·rw [h];exact hn
   ·rw [h];intro e;injection e with e;omega
  have hlt1:=ho1.lt;have hb1:Below base w w1:=⟨hg1.os,hg1.tape,hg1.output,hg1.size,fun k hk=>by
   rcases Nat.lt_or_ge k w.heap.size with h | h
   ·exact hgr k h (fun e=>by have:=(hown.lt k e).1;omega)
   ·omega⟩
  obtain⟨A1,cp1,rfl,hcp1,hrd1⟩:=Rd.of_own' ho1
  refine wL ?_;intros;go_end0;refine⟨rfl,_,q2,?_,hne1,Below.setCell hb1 hbase _,by rw [World.size_setCell];exact hsz1,fun k hk hkg hkv=>⟨(Below.heap_setCell _ _ _ k hkg).trans (hgr k hk hkv),hnk k hk hkv⟩⟩;rw [q6,List.length_append,hl];exact zd ho1 hne1
 ·go_enter func42,ntmps42
  refine wL ?_;intros;obtain⟨i0,z0,hi,hz,hs,hby,hzs⟩:=z4w;obtain⟨b,off,rfl,hbl,hcl⟩:=hr.2 h0;refine wpList_append_grows w rfl (.tmp 5) (.tmp 6) 25 rfl 5 i0 z0 1 1 underlying25 hi hz hs hby hzs wu (aG ⟨g,0,aF⟩) X.length X.length (bys X) ac ab (by rw [qt];omega) (fun b1 hb1 j u hj=> ?_) ⟨b,off,aF⟩ n c (bys l) ac (by rw [qt];omega) (fun j u hj=>by rw [Addr.add_mid];exact hcl j u hj) (kC _) wu (by simp [maxLen];omega) wu ?_
  ·cases hb1
   obtain⟨b',off',e',_,hcl'⟩:=hrd.2 (by have:=(List.getElem?_eq_some_iff.1 hj).1;rw [qt]at this;omega);cases e'
   rw [Addr.add_mid];exact hcl' j u hj
  intro v1 w1 ho1 hg1;have hgr:∀k,k<w.heap.size->w1.heap[k]?=w.heap[k]?:=fun k hk=>hg1.block k hk ab;have q1:Arr w1 gb 25 [aA (aG ⟨g,0,aF⟩) X.length X.length]:=(hgr gb hgl).trans hbox;have hsz1:=hg1.size;have c1:=q1.c0;have f1:=q1.frozen 0;have q2:=q1.set (k:=0) ab v1;have hne1:v1.ownBlock≠aG gb:=fun e=>by have:=(ho1.lt gb e).1;omega
  have hb1:Below base w w1:=⟨hg1.os,hg1.tape,hg1.output,hg1.size,fun k hk=>hgr k wu⟩
  obtain⟨A1,cp1,rfl,hcp1,hrd1⟩:=Rd.of_own' ho1
  refine wL ?_;intros;go_end0;refine⟨rfl,_,q2,?_,hne1,Below.setCell hb1 hbase _,by rw [World.size_setCell];exact hsz1,fun k hk hkg hkv=>⟨(Below.heap_setCell _ _ _ k hkg).trans (hgr k hk),fun e=>by have:=(ho1.lt k e).1;omega⟩⟩;rw [q6,List.length_append,hl];exact zb (zd ho1 hne1) wu
theorem Jq:∀(l r:ai),xn l=aG r->l.length=2*r.length:=fun l r h=>by
 have:=um l r h
 rw [<-this,yj]
theorem kf (h:hexC d=0):(kr d).2=0/\(kr d).1.length=32:=by
 unfold hexC at h;by_cases h64:d.length=64
 ·rw [if_neg wu]at h;refine⟨h,?_⟩;unfold kr at h ⊢
  rw [if_neg wu,if_neg wu]at h ⊢
  cases hu:xn d with
  | none=>rw [hu]at h;cases h
  | some r=>have:=Jq d r hu;simp only [];omega
 ·rw [if_pos h64]at h;cases h
theorem kB {s:ai} (h:k6 s=0):1<=s.length/\s.length<=12:=by
 unfold k6 at h;by_cases hb:s.length<1\/12<s.length
 ·rw [if_pos hb]at h;cases h
 ·omega
theorem uW:∀(l:List PartP) (q:Option (ai)),yv q l=0->∀p∈l,k6 p.name=0/\hexC p.dig=0/\p.size<=300
 | [],_,_,p,hp=>by cases hp
 | x::l,q,h,p,hp=>by
  rw [k5]at h
  by_cases h1:k6 x.name=0
  ·rw [if_neg (fun e=>e h1)]at h
   have key:∀bb:Bool,(if bb=true then 6 else if hexC x.dig≠0 then hexC x.dig else if 300<x.size then 4 else yv (aG x.name) l)=0->k6 p.name=0/\hexC p.dig=0/\p.size<=300:=fun bb h=>by
    cases bb with
    | true=>rw [if_pos rfl]at h;exact absurd h aa
    | false =>
     rw [if_neg aa]at h
     by_cases h2:hexC x.dig=0
     ·rw [if_neg (fun e=>e h2)]at h
      by_cases h3:300<x.size
      ·rw [if_pos h3]at h;exact absurd h aa
      ·rw [if_neg h3]at h
       rcases List.mem_cons.1 hp with rfl | hp
       ·exact⟨h1,h2,wu⟩
       ·exact uW l _ h p hp
     ·rw [if_pos h2]at h;exact absurd h h2
   exact key _ h
  ·rw [if_pos h1]at h;exact absurd h h1
theorem zi {l:List PartP} (h:chk l=0):l.length<=8/\∀p∈l,k6 p.name=0/\hexC p.dig=0/\p.size<=300:=by
 unfold chk at h;by_cases hb:8<l.length
 ·rw [if_pos hb]at h;cases h
 ·rw [if_neg hb]at h;exact⟨wu,uW l aF h⟩
theorem Kb (h:k6 p.name=0/\hexC p.dig=0/\p.size<=300):1<=(txt p.name).length/\(txt p.name).length<=14/\1<=(num p.size).length/\(num p.size).length<=2/\(kR p).length<=48:=by
 have h1:=kB h.1;have h2:=QK p.name wu;have h3:=kf h.2.1;have h4:=xY p.size 1 wu;simp only [kR,List.length_append];omega
theorem yP (l:List PartP) (h:∀p∈l,k6 p.name=0/\hexC p.dig=0/\p.size<=300):(l.flatMap kR).length<=48*l.length:=by
 induction l with
 | nil=>simp
 | cons x l ih =>
  have h1:=(Kb (h x ab)).2.2.2.2;have h2:=ih (fun p hp=>h p (by simp [hp]));simp only [List.flatMap_cons,List.length_append,List.length_cons];omega
theorem ZF {t:ByteArray} (htd:t.data.toList=d) (h:hexC d=0) (w:World) (hs:t.size<=140737488351232) :
  Calls zZZ 20 #[aD t] w fun e w'=>∃A c,e= .returned (.tuple #[aA A (kr d).1.length c,aB aC 0])/\OwnB 5 w.heap.size w' A c (kr d).1/\Below w.heap.size w w' :=
 XQ 0 rfl (by rw [htd];exact Prod.ext rfl (kf h).1) w hs
theorem YJ (A:aj) (n c:Nat) (l:List PartP) (w:World) (hl:l.length=n) (hc:n<=c) (hr:Rd w 3 A n (pcs l)) (hchk:chk l=0) :
  Calls zZZ 22 #[aA A n c] w fun e w'=>∃A' c',e= .returned (.tuple #[aA A' (enc l).length c',aB aC 0])/\OwnB 5 w.heap.size w' A' c' (enc l)/\Below w.heap.size w w':=by
 have hz:=zi hchk;have hn8:n<=8:=wu;have hok:jA l:=fun p hp=>by
  have h:=hz.2 p hp;have h1:=kB h.1;have h2:p.dig.length=64:=by
   have:=h.2.1;unfold hexC at this;split at this
   ·cases this
   ·omega
  exact⟨wu,wu,wu⟩
 have hck:=yK A n c l w hl hc wu hok hr;rw [hchk,show((0:Nat):Int)=0 from rfl]at hck;obtain⟨HC,HZ,HL⟩:=sqJ3 hck hz hl;have hkc:=fun (w:World) (C:Array Value) (n c:Nat)=>Lib.run_convert_bytes_const (P:=zZZ) w 25 5 C n c underlying25 underlying5;have hnl:=xY n 0 wu;clear hok hck hz hl hchk;go_enter func22,ntmps22
 refine wL ?_;intros;refine wZ HC.o fun w1 hb1=>?_;dsimp only
 refine wL ?_;intros;have q0:Rd ((w1.alloc (aE #[aB .u8 65,aB .u8 77,aB .u8 49] 5 (3,4))).alloc (aE #[aA (aG ⟨w1.heap.size,0,aF⟩) 3 3] 25)) 1 (aG ⟨w1.heap.size,0,aF⟩) 3 (bys [65,77,49]):=by
  refine Rd.alloc (w:=w1.alloc _) ⟨rfl,fun _=>⟨_,0,rfl,ab,fun j u hu=> ?_⟩⟩ _;rw [<-hu,Nat.zero_add];have h1:(w1.alloc (aE #[aB .u8 65,aB .u8 77,aB .u8 49] 5 (3,4))).heap[w1.heap.size]?=aG (aE #[aB .u8 65,aB .u8 77,aB .u8 49] 5 (3,4)):=World.alloc_heap_new w1 _;simp only [World.cell?,h1,Option.isSome_none,Bool.false_eq_true,if_false];simp [bys]
 have qb:Arr ((w1.alloc (aE #[aB .u8 65,aB .u8 77,aB .u8 49] 5 (3,4))).alloc (aE #[aA (aG ⟨w1.heap.size,0,aF⟩) 3 3] 25)) (w1.heap.size+1) 25 [aA (aG ⟨w1.heap.size,0,aF⟩) 3 3]:=by
  have:=Arr.new (w1.alloc (aE #[aB .u8 65,aB .u8 77,aB .u8 49] 5 (3,4))) 25 [aA (aG ⟨w1.heap.size,0,aF⟩) 3 3];rw [World.size_alloc]at this;exact this
 have hb2:=(hb1.alloc hb1.size (aE #[aB .u8 65,aB .u8 77,aB .u8 49] 5 (3,4))).alloc (by have:=hb1.size;simp;omega) (aE #[aA (aG ⟨w1.heap.size,0,aF⟩) 3 3] 25);have hsz1:=hb1.size;clear hb1 HC hkc;generalize ((w1.alloc (aE #[aB .u8 65,aB .u8 77,aB .u8 49] 5 (3,4))).alloc (aE #[aA (aG ⟨w1.heap.size,0,aF⟩) 3 3] 25))=w2 at *
 generalize w1.heap.size=g0 at *
 have hgb:w.heap.size<=g0+1:=wu;generalize hgbe:g0+1=gb at *
 have hgne:g0≠gb:=wu;refine(kT n n rfl _ wu).mono ?_;rintro e_ w3 ⟨A3,c3,rfl,ho3,hb3⟩;dsimp only;have qb3:=qb.below hb3;have q03:=q0.below hb3;have hb4:=wm hb2 hb3;clear qb q0 hb2 hb3 hgbe
 refine wL ?_;intros;refine(K0 A3 _ c3 (num n) 0 gb w.heap.size _ [65,77,49] _ rfl wu ho3.rd qb3 (.inr ⟨g0,rfl,q03⟩) hgb af (by simpa [Value.ownBlock] using hgne)).mono ?_;rintro e_ w4 ⟨rfl,v4,qb4,ho4,hne4,hb5,_,_⟩;dsimp only;have hb6:=hb4.trans hb5;have hx4:VR w4 w.heap.size v4 ([65,77,49]++num n++(l.take 0).flatMap kR):=by
  rw [List.take_zero,List.flatMap_nil,List.append_nil];exact .inl ho4
 clear ho4 hb5 qb3 q03 hb4 ho3
 refine wL ?_;intros;go_loopg [26] n (fun gn i wr=>∃k v,gn=n - k/\i= aB aC ((k:Nat):Int)/\k<=n/\Arr wr gb 25 [v]/\VR wr w.heap.size v ([65,77,49]++num n++(l.take k).flatMap kR)/\v.ownBlock≠aG gb/\Below w.heap.size w wr)
 case atStart=>exact⟨0,v4,rfl,rfl,wu,qb4,hx4,hne4,hb6⟩
 case round =>
  clear qb4 hx4 hne4 hb6;obtain⟨k,v,hgk,rfl,hk,qb,hx,hne,hbel⟩:=hrel;have HGK:=sqH hgk;clear hgk;by_cases hlt:k<n
  ·have hkl:k<l.length:=by have:=HL.o;omega
   have hpz:=HZ.o.2 l[k] (List.getElem_mem hkl);have hel:=Kb hpz;have hfl:=yP (l.take k) (fun p hp=>HZ.o.2 p (List.mem_of_mem_take hp));rw [List.length_take]at hfl;have hsn:(l.take (k+1)).flatMap kR=(l.take k).flatMap kR++kR l[k]:=by
    rw [List.take_succ_eq_append_getElem hkl,List.flatMap_append,List.flatMap_cons,List.flatMap_nil,List.append_nil]
   obtain⟨b,off,rfl,hbw,hcell⟩:=(hr.below hbel).2 wu;have hat:=fun j (hj:j<3)=>yu l k j hkl hj;generalize l[k]=p at *
   have c0:=hcell (k*3+0) _ (hat 0 wu);have c1:=hcell (k*3+1) _ (hat 1 wu);have c2:=hcell (k*3+2) _ (hat 2 wu);rw [Nat.add_zero]at c0;rw [show off+(k*3+1)=off+k*3+1 by omega]at c1;rw [show off+(k*3+2)=off+k*3+2 by omega]at c2;obtain⟨pn,pd,psz⟩:=p;dsimp only [yn,List.getElem?_cons_zero,List.getElem?_cons_succ]at c0 c1 c2 hpz hel;obtain⟨s,hs⟩:=wY (⟨pn.toArray⟩:ByteArray)
   obtain⟨t,ht⟩:=wY (⟨pd.toArray⟩:ByteArray)
   have hsd:s.data.toList=pn:=by rw [hs]
   have htd:t.data.toList=pd:=by rw [ht]
   rw [<-hs]at c0;rw [<-ht]at c1;have hnz:=kB hpz.1;have hdz:=kf hpz.2.1;have hssz:s.size<=2000:=by
    have:s.size=pn.length:=by rw [hs];rfl
    omega
   have htsz:t.size<=140737488351232:=by
    have h64:=hpz.2.1;have:t.size=pd.length:=by rw [ht];rfl
    unfold hexC at h64;split at h64
    ·cases h64
    ·omega
   have hT:=fun w'=>KF s w' hssz;rw [hsd]at hT;have HT:=sqH hT;have HB:=sqH (fun w'=>ZF htd hpz.2.1 w' htsz);have hp3:psz<=300:=hpz.2.2;obtain⟨HN,HSN,HEL,HDZ⟩:=sqJ4 (fun w'=>kT psz psz rfl w' wu) hsn hel hdz;have hsz:=hbel.size;have hX:([65,77,49]++num n++(l.take k).flatMap kR).length<=500:=by simp only [List.length_append,List.length_cons,List.length_nil];omega
   generalize hXe: [65,77,49]++num n++(l.take k).flatMap kR=X at *
   have HXE:=sqH hXe;clear hat hcell hsn hel hdz hT hpz hnz hs ht hsd htd hfl hXe;have hX0:0<X.length:=by rw [<-HXE.o];simp only [List.length_append,List.length_cons,List.length_nil];omega
   refine wL ?_;intros;have qp:=Arr.new wr 85 [aD s,aD t,aB aC psz];have hba:Below wr.heap.size wr (wr.alloc (.cells [aD s,aD t,aB aC psz].toArray 85)):=(Below.refl _ _).alloc ag _;have qb1:=qb.below hba;have hx1:=hx.below hba;have hbl1:=hbel.trans (hba.mono hsz);have hvg:v.ownBlock≠aG wr.heap.size:=fun e=>by have:=hx.lt hX0 _ e;omega
   have hgl:=qb.lt;change Calls _ _ _ (wr.alloc (.cells [aD s,aD t,aB aC psz].toArray 85)) _;clear c0 c1 c2 qb hx hbel hba;generalize (wr.alloc (.cells [aD s,aD t,aB aC psz].toArray 85))=wa at *
   generalize wr.heap.size=gp at *
   have hpg:gp≠gb:=wu;have he1:=HEL.o.1;have he2:=HEL.o.2.1;have he3:=HEL.o.2.2.1;have he4:=HEL.o.2.2.2.1;have he5:32<=(kr pd).1.length:=Nat.le_of_eq HDZ.o.2.symm;have he6:(kr pd).1.length<=32:=Nat.le_of_eq HDZ.o.2;refine(HT.o _).mono ?_;rintro e_ w5 ⟨A5,c5,rfl,ho5,hb5⟩;dsimp only;have qp5:=qp.below hb5;have qb5:=qb1.below hb5;have hx5:=hx1.below hb5;have hbl5:=wm hbl1 hb5;clear qp qb1 hx1 hbl1
   refine wL ?_;intros;refine(K0 A5 _ c5 (txt pn) 0 gb w.heap.size v X _ rfl wu ho5.rd qb5 hx5 hgb wu hne).mono ?_;rintro e_ w6 ⟨rfl,v6,qb6,ho6,hne6,hb6,hs6,hk6⟩;dsimp only;have hbl6:=hbl5.trans hb6;have hk6g:=hk6 gp qp5.lt hpg hvg;have qp6:Arr w6 gp _ _:=hk6g.1.trans qp5;have hvg6:=hk6g.2;have f1:=qp6.c1;clear qp5 qb5 hx5 hbl5 hk6 hk6g ho5 hb5 hne hvg
   refine wL ?_;intros;refine(HB.o _).mono ?_;rintro e_ w7 ⟨A7,c7,rfl,ho7,hb7⟩;dsimp only;have qp7:=qp6.below hb7;have qb7:=qb6.below hb7;have hx7:VR w7 w.heap.size v6 (X++txt pn):= .inl (zc ho6 hb7);have hbl7:=wm hbl6 hb7;clear qp6 qb6 ho6 hbl6 f1
   refine wL ?_;intros;refine(K0 A7 _ c7 (kr pd).1 0 gb w.heap.size v6 (X++txt pn) _ rfl wu ho7.rd qb7 hx7 hgb (by simp only [List.length_append];omega) hne6).mono ?_;rintro e_ w8 ⟨rfl,v8,qb8,ho8,hne8,hb8,hs8,hk8⟩;dsimp only;have hbl8:=hbl7.trans hb8;have hk8g:=hk8 gp qp7.lt hpg hvg6;have qp8:Arr w8 gp _ _:=hk8g.1.trans qp7;have f2:=qp8.c2;clear qp7 qb7 hx7 hbl7 hk8 hk8g ho7 hb7 hne6
   refine wL ?_;intros;refine(HN.o _).mono ?_;rintro e_ w9 ⟨A9,c9,rfl,ho9,hb9⟩;dsimp only;have qb9:=qb8.below hb9;have hx9:VR w9 w.heap.size v8 (X++txt pn++(kr pd).1):= .inl (zc ho8 hb9);have hbl9:=wm hbl8 hb9;clear qp8 qb8 ho8 hbl8 f2
   refine wL ?_;intros;refine((K0 A9 _ c9 (num psz) 0 gb w.heap.size v8 (X++txt pn++(kr pd).1) _ rfl wu ho9.rd qb9 hx9 hgb (by simp only [List.length_append];omega) hne8)).mono ?_;rintro e_ w10 ⟨rfl,v10,qb10,ho10,hne10,hb10,hs10,hk10⟩;dsimp only;have hbl10:=hbl9.trans hb10;clear hk10
   refine wL ?_;intros;go_roundg (n - (k+1))
   case measure=>exact wc HGK
   case rel =>
    refine⟨k+1,v10,rfl,by go_num,wu,qb10,.inl ?_,hne10,hbl10⟩;rw [HSN.o,<-List.append_assoc,HXE.o];have e:X++kR ⟨pn,pd,psz⟩=X++txt pn++(kr pd).1++num psz:=by simp [kR]
    rw [e];exact ho10
  ·obtain rfl:k=n:=by omega
   have hle:l.take k=l:=List.take_of_length_le (wc HL);have hfin: [65,77,49]++num k++(l.take k).flatMap kR=enc l:=by rw [hle,enc,HL.o]
   have hfl:=yP l HZ.o.2;rw [hfin]at hx;have hel:(enc l).length<=500:=by simp only [enc,List.length_append,List.length_cons,List.length_nil,HL.o];have:=HL.o;omega
   have hrd:∃A1 c1,v= aA A1 (enc l).length c1/\(enc l).length<=c1/\Rd wr 1 A1 (enc l).length (bys (enc l)):=by
    rcases hx with h | ⟨g,rfl,h⟩
    ·obtain⟨A1,c1,rfl,h1,h2⟩:=Rd.of_own' h;exact⟨A1,c1,rfl,h1,h2⟩
    ·exact⟨_,_,rfl,Nat.le_refl _,h⟩
   obtain⟨A1,cc1,rfl,hcc1,hrd1⟩:=hrd;have d0:=qb.c0;clear hfin hle hx;generalize hY:enc l=Y at *
   have HY:=sqH hY;clear hY
   refine wL ?_;intros;refine(kv A1 _ cc1 Y _ rfl hcc1 wu hrd1).mono ?_;rintro e_ w5 ⟨v5,rfl,ho5,hb5⟩;dsimp only;have hb6:=wm hbel hb5;obtain⟨A6,c6,rfl,ho6⟩:=OwnB.of rfl ho5
   refine wL ?_;intros;go_ret2;rw [HY.o];exact⟨A6,c6,rfl,ho6.lower hbel.size,hb6⟩
theorem Ye {q:Option (ai)} {r:List PartP} (h1:k6 p.name=0) (h2:∀n,q=aG n->leS p.name n=false) (h3:hexC p.dig=0) (h4:p.size<=300):yv q (p::r)=yv (aG p.name) r:=by
 rw [k5,if_neg (fun e=>e h1)];cases q with
 | none=>simp only [];rw [if_neg aa,if_neg (fun e=>e h3),if_neg wu]
 | some n=>simp only [h2 n rfl];rw [if_neg aa,if_neg (fun e=>e h3),if_neg wu]
theorem XD (l:List PartP) (h:l.length<=8):enc l= [65,77,49,UInt8.ofNat l.length]++l.flatMap kR:=by
 rw [enc,qh wu];simp
theorem xT (l:List PartP) (h:l.length<=8):(enc l).length=4+(l.flatMap kR).length:=by rw [XD l h];simp;omega
def keyS (k:Nat):ai:=shaS [107,UInt8.ofNat k]
theorem JA (n:Int) (w:World) (h0: -9223372036854775808<=n) (h1:n<=9223372036854775807) :
  Calls zZZ 15 #[aB aC n] w fun e w'=>e= .returned (aD ⟨(keyS (pk n 7)).toArray⟩)/\Below w.heap.size w w':=by
 have HP:=sqH (fun w'=>qf n 7 7 rfl w' h0 h1 wu wu);have hk:=yo n (m:=7) wu;generalize pk n 7=k at *
 obtain⟨b,hb⟩:=wY (UInt8.ofNat k)
 have hw:IntKind.u8.wrap (k:Int)=(b.toNat:Int):=by rw [hb,IntKind.wrap_u8,UInt8.toNat_ofNat'];omega
 have HK:=sqH (show keyS k=shaS [107,b] from by rw [keyS,hb]);have hr:Rd (w.alloc (aE #[aB .u8 107,aB .u8 (b.toNat:Int)] 5)) 1 (aG ⟨w.heap.size,0,aF⟩) 2 (bys [107,b]):=Rd.newN (w:=w) (e:=5) (size:=1) (m:=2) (bys [107,b]) rfl;have hb1:=ws w (aE #[aB .u8 107,aB .u8 (b.toNat:Int)] 5);have HD:=sqH (yA (aG ⟨w.heap.size,0,aF⟩) 2 2 [107,b] _ rfl wu wu hr);clear hb hr;go_enter func15,ntmps15;go_wp2_with fail;refine(HP.o _).mono ?_;rintro e_ _ ⟨rfl,rfl⟩;dsimp only;go_wp2_with fail;refine wZ HD.o fun w2 hb2=>?_;dsimp only;go_wp2_with fail;go_ret;rw [HK.o];exact⟨rfl,wm hb1 hb2⟩
structure FlP where
 key:ai
 lead:Int
 wait:List Int
def qP (p:FlP) (A:aj) (c:Nat):ak:= [aD ⟨p.key.toArray⟩,aB aC p.lead,aA A p.wait.length c]
def ins (l:List Int):ak:=l.map (aB aC ·)
def Fls (w:World) (A:aj) (fs:List FlP):Prop :=
 ∃(As:List (aj×Nat)),As.length=fs.length/\Rd w 3 A fs.length ((fs.zip As).flatMap fun x=>qP x.1 x.2.1 x.2.2) /\
  ∀(k:Nat) (p:FlP) (a:aj×Nat),fs[k]?=aG p->As[k]?=aG a->Rd w 1 a.1 p.wait.length (ins p.wait)/\p.wait.length<=a.2/\a.2<=maxLen
theorem Fls.below {w':World} {fs:List FlP} (h:Fls w A fs) (hb:Below w.heap.size w w'):Fls w' A fs:=by
 obtain⟨As,h1,h2,h3⟩:=h;exact⟨As,h1,h2.below hb,fun k p a hp ha=>⟨(h3 k p a hp ha).1.below hb,(h3 k p a hp ha).2⟩⟩
theorem ui:∀(fs:List FlP) (As:List (aj×Nat)) (k j:Nat) (p:FlP) (a:aj×Nat),fs[k]?=aG p->As[k]?=aG a->j<3 ->
  ((fs.zip As).flatMap fun x=>qP x.1 x.2.1 x.2.2)[k*3+j]?=(qP p a.1 a.2)[j]?
 | f::fs,a'::As,0,j,p,a,hp,ha,hj=>by
  simp only [List.getElem?_cons_zero,Option.some.injEq]at hp ha
  subst hp ha
  rw [List.zip_cons_cons,List.flatMap_cons,Nat.zero_mul,Nat.zero_add,List.getElem?_append_left (by simpa [qP] using hj)]
 | f::fs,a'::As,k+1,j,p,a,hp,ha,hj=>by
  rw [List.zip_cons_cons,List.flatMap_cons,List.getElem?_append_right (by simp [qP];omega)]
  rw [show(k+1)*3+j - (qP f a'.1 a'.2).length=k*3+j by simp [qP];omega]
  exact ui fs As k j p a (by simpa using hp) (by simpa using ha) hj
theorem Fls.at_ {fs:List FlP} (h:Fls w A fs) (k:Nat) (hk:k<fs.length) :
  ∃b off B c,A=aG ⟨b,off,aF⟩/\b<w.heap.size/\w.cell? ⟨b,off+k*3,aF⟩=aG (aD ⟨fs[k].key.toArray⟩)/\w.cell? ⟨b,off+k*3+1,aF⟩=aG (aB aC fs[k].lead) /\
   w.cell? ⟨b,off+k*3+2,aF⟩=aG (aA B fs[k].wait.length c)/\Rd w 1 B fs[k].wait.length (ins fs[k].wait)/\fs[k].wait.length<=c/\c<=maxLen:=by
 obtain⟨As,h1,h2,h3⟩:=h;obtain⟨b,off,rfl,hb,hc⟩:=h2.2 wu;have hp:fs[k]?=aG fs[k]:=List.getElem?_eq_getElem hk;have hka:k<As.length:=wu;have ha:As[k]?=aG As[k]:=List.getElem?_eq_getElem hka;have hat:=fun j hj=>ui fs As k j fs[k] As[k] hp ha hj;obtain⟨h4,h5,h6⟩:=h3 k _ _ hp ha;have c0:=hc (k*3+0) _ ((hat 0 wu).trans rfl);have c1:=hc (k*3+1) _ ((hat 1 wu).trans rfl);have c2:=hc (k*3+2) _ ((hat 2 wu).trans rfl);refine⟨b,off,As[k].1,As[k].2,rfl,hb,c0,?_,?_,h4,h5,h6⟩
 ·rw [<-c1];congr 2
 ·rw [<-c2];congr 2
def va (l:List BlobP) (r:RawP) (i:Nat):PartP :=
 let b:=(l[pk (IntKind.i64.wrap (r.b+7*(i:Int))) l.length]?).getD ⟨[], [],0,false⟩
 ⟨[112,UInt8.ofNat (97+i)],b.dig,b.data.length⟩
def qx (l:List BlobP) (r:RawP):List PartP:=if l.length=0 then [] else (List.range (pk r.a 4)).map (va l r)
structure AccP where
 aI:List BlobP
 aJ:List EntP
 used:Nat
 aK:Nat
def jl (bl:List BlobP) (r:RawP):ai:=if pk r.kind 6=3 then enc (qx bl r) else z13 r 40
def z3z (bl:List BlobP) (r:RawP):BlobP:=⟨shaS (jl bl r),jl bl r,pk r.b 5 - 3,false⟩
def z5a (bl:List BlobP) (c:Nat) (r:RawP):EntP:=⟨keyS (pk r.a 7),qx bl r,pk r.b 5 - 3,c⟩
def JV (s:AccP) (r:RawP):AccP :=
 if pk r.kind 6<4 then
  if s.aI.any (fun b=>b.dig==shaS (jl s.aI r)) then s else { s with aI:=s.aI++ [z3z s.aI r],used:=s.used+(jl s.aI r).length }
 else
  if s.aJ.any (fun x=>x.key==keyS (pk r.a 7)) then { s with aK:=s.aK+pk r.b 3 } else { s with aK:=s.aK+pk r.b 3,aJ:=s.aJ++ [z5a s.aI (s.aK+pk r.b 3) r] }
def usd (l:List BlobP):Nat:=(l.map (·.data.length)).sum
theorem QN (l m:List BlobP):usd (l++m)=usd l+usd m:=by simp [usd]
theorem Jt (h:l.Perm m):usd l=usd m:=(h.map _).sum_nat
def Have (l:List BlobP) (ps:List PartP):Prop:=∀p∈ps,∃b∈l,b.dig=p.dig/\b.data.length=p.size
def GoodB1 (b:BlobP):Prop:=b.dig=shaS b.data/\b.data.length<=300/\b.aQ<=5
structure GoodB (l:List BlobP):Prop where
 len:l.length<=24
 one:∀b∈l,GoodB1 b
 ris:RisesBy (·.dig) l
def GoodE1 (x:EntP):Prop:=hexC x.key=0/\chk x.aP=0/\x.aQ<=5/\x.aO<=1099511627776
structure GoodE (l:List EntP):Prop where
 len:l.length<=10
 one:∀x∈l,GoodE1 x
 ris:RisesBy (·.key) l
structure GoodS (s:StoP):Prop where
 b:GoodB s.aI
 e:GoodE s.aJ
 aL:s.aL<=4000
 used:usd s.aI<=s.aL
 aK:s.aK<=1099511627776
 ent:∀x∈s.aJ,x.aO<=s.aK/\Have s.aI x.aP
theorem Have.mono {ps:List PartP} (h:Have l ps) (hm:∀b∈l,b∈m):Have m ps:=fun p hp=>by
 obtain⟨b,hb,h2⟩:=h p hp
 exact⟨b,hm b hb,h2⟩
theorem uw (l:List BlobP) (r:RawP):(qx l r).length<=3:=by
 have:=yo r.a (m:=4) wu;rw [qx];split
 ·simp
 ·simp;omega
theorem Vj {r:RawP} {i:Nat} (h:l.length≠0):∃b∈l,(va l r i).dig=b.dig/\(va l r i).size=b.data.length:=by
 have h1:=yo (IntKind.i64.wrap (r.b+7*(i:Int))) (m:=l.length) wu;refine⟨l[pk (IntKind.i64.wrap (r.b+7*(i:Int))) l.length],List.getElem_mem h1,?_⟩;simp only [va,List.getElem?_eq_getElem h1,Option.getD_some,and_self]
theorem Jh (l:List BlobP) (r:RawP):Have l (qx l r):=fun p hp=>by
 rw [qx]at hp
 split at hp
 ·cases hp
 ·rename_i h0
  obtain⟨i,_,rfl⟩:=List.mem_map.1 hp
  obtain⟨b,hb,h1,h2⟩:=Vj (r:=r) (i:=i) h0
  exact⟨b,hb,h1.symm,h2.symm⟩
theorem z58:∀i,i<3->k6 [112,UInt8.ofNat (97+i)]=0:=by decide
theorem ple:∀i j,i<3->j<i->leS [112,UInt8.ofNat (97+i)] [112,UInt8.ofNat (97+j)]=false:=by
 have key:∀i j:Fin 3,j.val<i.val->leS [112,UInt8.ofNat (97+i.val)] [112,UInt8.ofNat (97+j.val)]=false:=by decide +kernel
 exact fun i j h h'=>key ⟨i,h⟩ ⟨j,wu⟩ h'
theorem K5 (f:Nat->PartP) (hn:∀i,(f i).name= [112,UInt8.ofNat (97+i)]) (hf:∀i,hexC (f i).dig=0/\(f i).size<=300):∀(n i:Nat) (q:Option (ai)),i+n<=3->(q=aF\/∃j,j<i/\q=aG [112,UInt8.ofNat (97+j)])->yv q ((List.range' i n).map f)=0
 | 0,_,q,_,_=>by cases q<;>rfl
 | n+1,i,q,hi,hq=>by
  rw [List.range'_succ,List.map_cons,Ye (by rw [hn];exact z58 i wu) (fun m hm=> ?_) (hf i).1 (hf i).2]
  ·exact K5 f hn hf n (i+1) _ wu (.inr ⟨i,wu,by rw [hn]⟩)
  ·rcases hq with h | ⟨j,hj,h⟩
   ·rw [h]at hm;cases hm
   ·rw [h]at hm;cases hm;rw [hn];exact ple i j wu hj
theorem jK (h:∀b∈l,hexC b.dig=0/\b.data.length<=300) (r:RawP):chk (qx l r)=0:=by
 have h3:=uw l r;have h4:=yo r.a (m:=4) wu;rw [chk,if_neg wu,qx];split
 ·rfl
 ·rename_i h0;rw [List.range_eq_range'];refine K5 _ (fun i=>rfl) (fun i=> ?_) _ 0 aF wu (.inl rfl);obtain⟨b,hb,e1,e2⟩:=Vj (l:=l) (r:=r) (i:=i) h0;rw [e1,e2];exact h b hb
structure AccOk (k:Nat) (s:AccP):Prop where
 blen:s.aI.length<=k
 bnd:(s.aI.map (·.dig)).Nodup
 bone:∀b∈s.aI,b.dig=shaS b.data/\b.data.length<=148/\b.aQ<=1/\b.mark=false
 used:s.used=usd s.aI
 usedk:s.used<=148*k
 elen:s.aJ.length<=k
 end_:(s.aJ.map (·.key)).Nodup
 eone:∀x∈s.aJ,(∃j,j<7/\x.key=keyS j)/\chk x.aP=0/\x.aP.length<=3/\x.aQ<=1/\x.aO<=s.aK/\Have s.aI x.aP
 aK:s.aK<=2*k
theorem AccOk.hex {s:AccP} (h:AccOk k s):∀b∈s.aI,hexC b.dig=0/\b.data.length<=300:=fun b hb=>by
 obtain⟨h1,h2,_⟩:=h.bone b hb
 exact⟨by rw [h1];exact zE _,wu⟩
theorem Yu {s:AccP} (h:AccOk k s) (r:RawP):(jl s.aI r).length<=148:=by
 rw [jl];split
 ·have h3:=uw s.aI r;have hz:=zi (jK h.hex r);rw [xT _ hz.1];have:=yP _ hz.2;omega
 ·have:=K8 r 40;omega
theorem V9 {l:List α} {x:ai} (h:¬(l.any fun b=>f b==x)=true):∀b∈l,f b≠x:=fun b hb e=>h (List.any_eq_true.2 ⟨b,hb,by simp [e]⟩)
theorem j8 {l:List α} {x:α} (h:(l.map f).Nodup) (hx:∀b∈l,f b≠f x):((l++ [x]).map f).Nodup:=by
 rw [List.map_append,List.nodup_append];refine⟨h,ab,fun a ha b hb=> ?_⟩;obtain⟨y,hy,rfl⟩:=List.mem_map.1 ha;simp only [List.map_cons,List.map_nil,List.mem_singleton]at hb;subst hb;exact hx y hy
theorem AccOk.step {s:AccP} (h:AccOk k s) (r:RawP):AccOk (k+1) (JV s r):=by
 have hb5:=yo r.b (m:=5) wu;have hb3:=yo r.b (m:=3) wu;have hl:=Yu h r;rw [JV];split
 ·split
  ·exact⟨by have:=h.blen;omega,h.bnd,h.bone,h.used,by have:=h.usedk;omega,by have:=h.elen;omega,h.end_,h.eone,by have:=h.aK;omega⟩
  ·rename_i hn;refine⟨by rw [List.length_append];have:=h.blen;simp;omega,j8 h.bnd (V9 hn),fun b hb=> ?_,?_,?_,by have:=h.elen;show s.aJ.length<=k+1;omega,h.end_,fun x hx=> ?_,by have:=h.aK;show s.aK<=_;omega⟩
   ·rcases List.mem_append.1 hb with h1 | h1
    ·exact h.bone b h1
    ·have:=List.mem_singleton.1 h1;subst this;exact⟨rfl,hl,by show pk r.b 5 - 3<=1;omega,rfl⟩
   ·rw [QN];show s.used+_=_;rw [h.used];rfl
   ·show s.used+_<=_;have:=h.usedk;omega
   ·obtain⟨h1,h2,h3,h4,h5,h6⟩:=h.eone x hx;exact⟨h1,h2,h3,h4,h5,h6.mono fun b hb=>List.mem_append_left _ hb⟩
 ·split
  ·refine⟨by have:=h.blen;show s.aI.length<=_;omega,h.bnd,h.bone,h.used,by have:=h.usedk;show s.used<=_;omega,by have:=h.elen;show s.aJ.length<=_;omega,h.end_,fun x hx=> ?_,by have:=h.aK;show s.aK+pk r.b 3<=_;omega⟩;obtain⟨h1,h2,h3,h4,h5,h6⟩:=h.eone x hx;exact⟨h1,h2,h3,h4,by show x.aO<=s.aK+pk r.b 3;omega,h6⟩
  ·rename_i hn;refine⟨by have:=h.blen;show s.aI.length<=_;omega,h.bnd,h.bone,h.used,by have:=h.usedk;show s.used<=_;omega,by rw [List.length_append];have:=h.elen;simp;omega,j8 h.end_ (V9 hn),fun x hx=> ?_,by have:=h.aK;show s.aK+pk r.b 3<=_;omega⟩;rcases List.mem_append.1 hx with h1 | h1
   ·obtain⟨h1,h2,h3,h4,h5,h6⟩:=h.eone x h1;exact⟨h1,h2,h3,h4,by show x.aO<=s.aK+pk r.b 3;omega,h6⟩
   ·have:=List.mem_singleton.1 h1;subst this;exact⟨⟨_,yo _ wu,rfl⟩,jK h.hex r,uw _ _,by show pk r.b 5 - 3<=1;omega,Nat.le_refl _,Jh _ _⟩
theorem AccOk.nil_:AccOk 0 ⟨[], [],0,0⟩:=⟨ab,ab,ab,rfl,ab,ab,ab,ab,ab⟩
theorem AccOk.mono {m:Nat} {s:AccP} (h:AccOk k s) (hk:k<=m):AccOk m s:=⟨by have:=h.blen;omega,h.bnd,h.bone,h.used,by have:=h.usedk;omega,by have:=h.elen;omega,h.end_,h.eone,by have:=h.aK;omega⟩
theorem ZN {α:Type} [DecidableEq α]:∀(l m:List α),l.Nodup->(∀x∈l,x∈m)->l.length<=m.length
 | [],m,_,_=>by simp
 | x::l,m,h,hm=>by
  have h1:=List.nodup_cons.1 h
  have hx:=hm x ab
  have:=ZN l (m.erase x) h1.2 fun y hy=>(List.mem_erase_of_ne (by rintro rfl;exact h1.1 hy)).2 (hm y (by simp [hy]))
  rw [List.length_erase_of_mem hx]at this
  have h0:0<m.length:=List.length_pos_of_mem hx
  rw [List.length_cons];omega
theorem Yj {ks:List ai} (h:ks.Nodup) (hk:∀k∈ks,∃j,j<7/\k=keyS j):ks.length<=7:=by
 have:=ZN ks ((List.range 7).map keyS) h fun k hk'=>by
  obtain⟨j,hj,rfl⟩:=hk k hk';exact List.mem_map.2 ⟨j,List.mem_range.2 hj,rfl⟩
 simpa using this
theorem Jv (l:List BlobP) (j:Nat) (hj:j<l.length):usd (l.take (j+1))=usd (l.take j)+l[j].data.length:=by
 rw [List.take_succ_eq_append_getElem hj,QN];simp [usd]
theorem Jw (l:List BlobP) (j:Nat):usd (l.take j)<=usd l:=by
 have h:usd l=usd (l.take j)+usd (l.drop j):=by rw [<-QN,List.take_append_drop]
 omega
theorem z0v (A:aj) (c:Nat) (l:List BlobP) (w:World) (hl:l.length<=1000000) (hu:usd l<=1000000000) (hA:Rw BlobS w A l) :
  Calls zZZ 164 #[aA A l.length c] w fun e w'=>e= .returned (aB aC (usd l:Int))/\Below w.heap.size w w':=by
 generalize hR:usd l=R;have HR:=sqH hR;clear hR;go_enter func164,ntmps164;go_wp2_with fail;go_loopg [3,8] l.length (fun gn u i wr=>∃j:Nat,gn=l.length - j/\i= aB aC j/\j<=l.length/\u= aB aC ((usd (l.take j):Nat):Int)/\Below w.heap.size w wr)
 case atStart=>exact⟨0,rfl,rfl,wu,rfl,Below.refl _ _⟩
 case round =>
  obtain⟨j,hgk,rfl,hj,rfl,hbl⟩:=hrel;have HGK:=sqH hgk;clear hgk;by_cases hlt:j<l.length
  ·have hcc:decide (j<l.length)=true:=decide_eq_true hlt;obtain⟨b,off,B,cb,rfl,hbb,c0,c1,c2,c3,hs⟩:=(hA.below hbl).blob_at j hlt;have hj0:=we j
   have hj1:(j:Int)<(l.length:Int):=wu;have hst:=Jv l j hlt;have hle:=Jw l (j+1);have hle2:usd (l.take j)+l[j].data.length<=1000000000:=wu;have HST:=sqH hst;clear hst hle hs;have hb1:=ws wr (aE #[aD ⟨l[j].dig.toArray⟩,aA B l[j].data.length cb,aB aC (l[j].aQ:Int),.bool l[j].mark] 55);have hb2:=wm hbl hb1;generalize l[j].data.length=d at *
   generalize usd (l.take j)=u at *
   generalize l[j]=x at *
   clear hb1;go_wp2_with fail;go_roundg (l.length - (j+1))
   case measure=>exact wc HGK
   case rel=>exact⟨j+1,rfl,by go_num,wu,by rw [HST.o];go_num,hb2⟩
  ·obtain rfl:j=l.length:=by omega
   have hcc:decide (l.length<l.length)=false:=ab;rw [List.take_length,HR.o];go_wp2_with fail;go_ret;exact⟨rfl,hbl⟩
theorem vD (A:aj) (c:Nat) (l:List BlobP) (rm more:Nat) (w:World) (hl:l.length<=1000000) (hu:usd l<=1000000000) (hrm:rm<=4000) (hmo:more<=4000) (hA:Rw BlobS w A l) :
  Calls zZZ 134 #[aA A l.length c,aB aC rm,aB aC more] w fun e w'=>e= .returned (.tuple #[aB aC ((usd l+more - rm:Nat):Int),aB aC 0])/\Below w.heap.size w w':=by
 have HU:=sqH (z0v A c l w hl hu hA);have g1:decide ((rm:Int)<0)=false:=decide_eq_false wu;have g2:decide ((rm:Int)>4000)=false:=decide_eq_false wu;have g3:decide ((4000:Int)<(rm:Int))=false:=decide_eq_false wu;have g4:decide ((more:Int)<0)=false:=decide_eq_false wu;have g5:decide ((more:Int)>4000)=false:=decide_eq_false wu;have g6:decide ((4000:Int)<(more:Int))=false:=decide_eq_false wu;clear hA;generalize hR:usd l=R at *
 have hmx:max (0:Int) ((R:Int)+(more:Int) - (rm:Int))=((R+more - rm:Nat):Int):=wu;have HMX:=sqH hmx;clear hR hmx;go_enter func134,ntmps134;go_wp2_with fail;refine wZ HU.o fun w1 hb1=>?_;dsimp only;go_wp2_with fail;go_ret2;rw [<-HMX.o];exact⟨rfl,hb1⟩
theorem Qc (A:aj) (c:Nat) (l:List BlobP) (rm more:Nat) (w:World) (hl:l.length<=1000000) (hu:usd l<=1000000000) (hrm:rm<=4000) (hmo:more<=4000) (hA:Rw BlobS w A l) :
  Calls zZZ 115 #[aA A l.length c,aB aC rm,aB aC more] w fun e w'=>e= .returned (aB aC (if usd l+more<=rm then 0 else 7))/\Below w.heap.size w w':=by
 have HU:=sqH (vD A c l rm more w hl hu hrm hmo hA);clear hA;generalize hR:usd l=R at *
 by_cases h:R+more<=rm
 ·have HI:=sqH (show(if R+more<=rm then (0:Int) else 7)=0 from if_pos h);have hz:R+more - rm=0:=wu
  rw [hz]at HU;clear hR hz h;go_enter func115,ntmps115;go_wp2_with fail;refine wZ HU.o fun w1 hb1=>?_;dsimp only
  refine wL ?_;intros;go_ret;rw [HI.o];exact⟨rfl,hb1⟩
 ·have HI:=sqH (show(if R+more<=rm then (0:Int) else 7)=7 from if_neg h);obtain⟨z,hz⟩:=wY (R+more - rm)
  have hz0:0<z:=wu;have g1:decide ((z:Int)>0)=true:=decide_eq_true wu;have g2:decide ((0:Int)<(z:Int))=true:=decide_eq_true wu;have g3:decide (0<z)=true:=decide_eq_true hz0;rw [<-hz]at HU;clear hR hz h;go_enter func115,ntmps115;go_wp2_with fail;refine wZ HU.o fun w1 hb1=>?_;dsimp only
  refine wL ?_;intros;go_ret;rw [HI.o];exact⟨rfl,hb1⟩
theorem Un (A:aj) (c:Nat) (l:List BlobP) (r:RawP) (w:World) (hl:l.length<=1000000) (hc:l.length<=c) (hm:c<=maxLen) (hd:∀b∈l,b.data.length<=1000000) (hA:Rw BlobS w A l) (hr:RawOk r) :
  Calls zZZ 14 #[aA A l.length c,.agg #[aB aC r.kind,aB aC r.a,aB aC r.b,aD r.text]] w fun e w'=>∃v,e= .returned v/\w'.ownsRow w.heap.size 85 3 v (qx l r).length (pcs (qx l r))/\Below w.heap.size w w':=by
 obtain⟨HR,HD,HC,HPA⟩:=sqJ4 hr hd (aH hc hm) (fun w'=>qf r.a 4 4 rfl w' hr.a0 hr.a1 wu wu);have hp4:=yo r.a (m:=4) wu;generalize hPT:qx l r=PT;have HPT:=sqH (show PT=if l.length=0 then [] else (List.range (pk r.a 4)).map (va l r) from hPT.symm);obtain⟨m,hmm⟩:=wY (pk r.a 4)
 rw [<-hmm]at hp4 HPA HPT;obtain⟨rk,ra,rb,rt⟩:=r;have hX:=Arr.new w 51 [aB aC rk,aB aC ra,aB aC rb,aD rt];have hb1:=ws w (aE #[aB aC rk,aB aC ra,aB aC rb,aD rt] 51);have hX':Arr (w.alloc (aE #[aB aC rk,aB aC ra,aB aC rb,aD rt] 51)) w.heap.size 51 [aB aC rk,aB aC ra,aB aC rb,aD rt]:=hX;have x1:=hX'.c1;clear hX hd hr hc hm hmm hPT;go_enter func14,ntmps14;go_wp2_with fail;have hs1:(w.alloc (aE #[aB aC rk,aB aC ra,aB aC rb,aD rt] 51)).heap.size=w.heap.size+1:=World.size_alloc _ _;generalize w.alloc (aE #[aB aC rk,aB aC ra,aB aC rb,aD rt] 51)=w1 at *
 have HS1:=sqH hs1;clear x1 hs1;refine wZ (HPA.o _) fun w2 hw2=>?_;dsimp only;subst hw2;go_wp2_with fail;rcases Nat.eq_zero_or_pos l.length with h0 | h0
 ·have HZ:=sqH (show PT= [] by rw [HPT.o,if_pos h0]);have h0b:decide (((l.length:Nat):Int)>0)=false:=decide_eq_false wu;have h0c:decide ((0:Int)<((l.length:Nat):Int))=false:=decide_eq_false wu;have h0d:decide (0<l.length)=false:=decide_eq_false wu;go_loopg [5,11] m (fun gn v i wr=>∃k:Nat,gn=m - k/\i= aB aC k/\k<=m/\v= aA aF 0 0/\wr=w1)
  case atStart=>exact⟨0,rfl,rfl,wu,rfl,rfl⟩
  case round =>
   obtain⟨k,hgk,rfl,hk,rfl,rfl⟩:=hrel;have HGK:=sqH hgk;clear hgk;by_cases hlt:k<m
   ·have hcc:decide (k<m)=true:=decide_eq_true hlt;go_wp2_with fail;go_roundg (m - (k+1))
    case measure=>exact wc HGK
    case rel=>exact⟨k+1,rfl,by go_num,wu,rfl,rfl⟩
   ·obtain rfl:k=m:=by omega
    have hcc:decide (k<k)=false:=ab;go_wp2_with fail;go_ret;rw [HZ.o];exact⟨_,rfl,World.ownsRow_nil _ _ _ _,hb1⟩
 ·obtain⟨HZ,HX,HA⟩:=sqJ3 (show PT=(List.range m).map (va l ⟨rk,ra,rb,rt⟩) by rw [HPT.o,if_neg wu]) hX' hA;clear hX' hA HPT;go_loopg [5,11] m (fun gn v i wr=>∃k:Nat,gn=m - k/\i= aB aC k/\k<=m/\wr.ownsRow w1.heap.size 85 3 v k (pcs ((List.range k).map (va l ⟨rk,ra,rb,rt⟩)))/\Below w1.heap.size w1 wr)
  case atStart=>exact⟨0,rfl,rfl,wu,World.ownsRow_nil _ _ _ _,Below.refl _ _⟩
  case round =>
   obtain⟨k,hgk,rfl,hk,hown,hbel⟩:=hrel;have HGK:=sqH hgk;clear hgk;by_cases hlt:k<m
   ·have hcc:decide (k<m)=true:=decide_eq_true hlt;have h0b:decide (((l.length:Nat):Int)>0)=true:=decide_eq_true wu;have h0c:decide ((0:Int)<((l.length:Nat):Int))=true:=decide_eq_true wu;have h0d:decide (0<l.length)=true:=decide_eq_true h0;have x2:=(HX.o.below hbel).c2;have hw7:IntKind.i64.wrap (7*(k:Int))=7*(k:Int):=IntWalk.i64_in _ wu;have hwi:∀z, -9223372036854775808<=IntKind.i64.wrap z/\IntKind.i64.wrap z<=9223372036854775807:=fun z=>by rw [IntKind.wrap_i64];omega
    have hP:=qf (IntKind.i64.wrap (rb+7*(k:Int))) l.length l.length rfl wr (hwi _).1 (hwi _).2 h0 wu;rw [IntWalk.i64_left]at hP;have HP:=sqH hP;have hpl:=yo (IntKind.i64.wrap (rb+7*(k:Int))) (m:=l.length) h0;clear hP;obtain⟨q,hq⟩:=wY (pk (IntKind.i64.wrap (rb+7*(k:Int))) l.length)
    rw [<-hq]at hpl;rw [<-IntWalk.i64_left,<-hq]at HP;rw [IntWalk.i64_left]at HP;have hprt:va l ⟨rk,ra,rb,rt⟩ k=⟨[112,UInt8.ofNat (97+k)],l[q].dig,l[q].data.length⟩:=by
     simp only [va,<-hq,List.getElem?_eq_getElem hpl,Option.getD_some]
    have HPR:=sqH hprt;have hrng:(List.range (k+1)).map (va l ⟨rk,ra,rb,rt⟩)=(List.range k).map (va l ⟨rk,ra,rb,rt⟩)++ [va l ⟨rk,ra,rb,rt⟩ k]:=by rw [List.range_succ,List.map_append];rfl
    have HRN:=sqH hrng;have hdl:=HD.o _ (List.getElem_mem hpl);obtain⟨b,off,B,cb,rfl,hbb,c0,c1,c2,c3,_⟩:=(HA.o.below (wm hb1 hbel)).blob_at q hpl;generalize l[q]=bl at *
    obtain⟨dg,dt,pn,mk⟩:=bl;dsimp only at c0 c1 c2 c3 hdl;generalize hs:(⟨dg.toArray⟩:ByteArray)=s at *
    have HS:=sqH hs;have i0:=we q
    have i1:(q:Int)<(l.length:Int):=wu;have hcv:=fun (w':World) (g:Nat) (h:w'.cell? ⟨g,0,aF⟩=aG (aB .u8 (97+(k:Int))))=>UI (97+(k:Int)) w' g h wu wu;have hw1:IntKind.i64.wrap (97+(k:Int))=97+(k:Int):=IntWalk.i64_in _ wu;have hw2:IntKind.u8.wrap (97+(k:Int))=97+(k:Int):=by rw [IntKind.wrap_u8];omega
    clear hprt hrng hq hs;go_wp2_with fail;refine wZ HP.o fun w3 hw3=>?_;dsimp only;subst hw3
    refine wL ?_;intros;have hnm:(({ data:=#[112] }:ByteArray)++({ data:=#[97+UInt8.ofNat k] }:ByteArray))=⟨#[112,UInt8.ofNat (97+k)]⟩:=by rw [UInt8.ofNat_add];rfl
    rw [hnm];have hbb1:=ws wr (aE #[aD s,aA B dt.length cb,aB aC pn,.bool mk] 55);have hbb2:=hbb1.alloc hbb1.size (aE #[aB .u8 (97+(k:Int))] 5);have hown2:=zc hown hbb2;have hs4:((wr.alloc (aE #[aD s,aA B dt.length cb,aB aC pn,.bool mk] 55)).alloc (aE #[aB .u8 (97+(k:Int))] 5)).heap.size=wr.heap.size+1+1:=by rw [World.size_alloc,World.size_alloc]
    generalize (wr.alloc (aE #[aD s,aA B dt.length cb,aB aC pn,.bool mk] 55)).alloc (aE #[aB .u8 (97+(k:Int))] 5)=w4 at *
    have hbel4:=wm hbel hbb2;rw [<-hs4];refine zj rfl (.tmp 28) (.tmp 41) rfl Xz ac hown2 (us:= [aD ⟨#[112,UInt8.ofNat (97+k)]⟩,aD s,aB aC dt.length]) (m:=1) ac rfl (by intro u hu;simp only [List.mem_cons,List.not_mem_nil,or_false]at hu;rcases hu with rfl | rfl | rfl<;>rfl) wu hbel4.size ?_;intro v7 w7 ho7 hg7 _;have hb7:=zh hbel4 hown2 ag hg7;have ho8:w7.ownsRow w1.heap.size 85 3 v7 (k+1) (pcs ((List.range (k+1)).map (va l ⟨rk,ra,rb,rt⟩))):=by
     rw [HRN.o,HPR.o,Vh];have e1:pcs [⟨[112,UInt8.ofNat (97+k)],dg,dt.length⟩]= [aD ⟨#[112,UInt8.ofNat (97+k)]⟩,aD s,aB aC dt.length]:=by rw [<-HS.o];rfl
     rw [e1];exact ho7
    clear hown hown2 ho7 hg7 hbb1 hbb2;go_wp2_with fail;go_roundg (m - (k+1))
    case measure=>exact wc HGK
    case rel=>exact⟨k+1,rfl,by go_num,wu,ho8,hb7⟩
   ·obtain rfl:k=m:=by omega
    have hcc:decide (k<k)=false:=ab;go_wp2_with fail;go_ret;rw [HZ.o];refine⟨_,rfl,?_,wm hb1 hbel⟩;rw [List.length_map,List.length_range];exact zb hown hb1.size
theorem Q9 (A B:aj) (n c d:Nat) (x:List PartP) (w:World) (hl:x.length=n) (hn:n<=140737488351232) (hr:Rd w 3 A n (pcs x)) (hs:Rd w 3 B n (pcs x)) :
  Calls zZZ 56 #[aA A n c,aA B n d] w fun e w'=>e= .returned (.bool true)/\Below w.heap.size w w':=by
 have hnn:((n:Int) != (n:Int))=false:=ab;have HL:=sqH hl;clear hl;go_enter func56,ntmps56;go_wp2_with fail;go_loopg [5,13] n (fun gn u i wr=>∃k:Nat,gn=n - k/\i= aB aC k/\k<=n/\Below w.heap.size w wr)
 case atStart=>exact⟨0,rfl,rfl,wu,Below.refl _ _⟩
 case round =>
  obtain⟨k,hgk,rfl,hk,hbel⟩:=hrel;have HGK:=sqH hgk;clear hgk;by_cases hlt:k<n
  ·have hkl:k<x.length:=by have:=HL.o;omega
   obtain⟨b,off,rfl,_,hcell⟩:=(hr.below hbel).2 wu;obtain⟨b',off',rfl,_,hcell'⟩:=(hs.below hbel).2 wu;have hat:=fun j (hj:j<3)=>yu x k j hkl hj;generalize x[k]=p at *
   have c0:=hcell (k*3+0) _ (hat 0 wu);have c1:=hcell (k*3+1) _ (hat 1 wu);have c2:=hcell (k*3+2) _ (hat 2 wu);have d0:=hcell' (k*3+0) _ (hat 0 wu);have d1:=hcell' (k*3+1) _ (hat 1 wu);have d2:=hcell' (k*3+2) _ (hat 2 wu);rw [Nat.add_zero]at c0 d0;rw [show off+(k*3+1)=off+k*3+1 by omega]at c1;rw [show off+(k*3+2)=off+k*3+2 by omega]at c2;rw [show off'+(k*3+1)=off'+k*3+1 by omega]at d1;rw [show off'+(k*3+2)=off'+k*3+2 by omega]at d2;obtain⟨pn,pd,psz⟩:=p;dsimp only [yn,List.getElem?_cons_zero,List.getElem?_cons_succ]at c0 c1 c2 d0 d1 d2;generalize (⟨pn.toArray⟩:ByteArray)=s at *
   generalize (⟨pd.toArray⟩:ByteArray)=t at *
   clear hat hcell hcell';have hk0:=we k
   have hk1:(k:Int)<(n:Int):=wu;go_wp2_with fail;go_quiet (fail);go_wp2_with fail;go_roundg (n - (k+1))
   case measure=>exact wc HGK
   case rel=>exact⟨k+1,rfl,by go_num,wu,zO hbel _⟩
  ·go_wp2_with fail;go_ret;exact⟨rfl,hbel⟩
theorem K4 {s t:ByteArray} (h:¬s=t):(s.toList==t.toList)=false:=by
 rw [beq_eq_false_iff_ne,ByteArray.toList_eq,ByteArray.toList_eq];intro e;apply h;cases s;cases t;simp only [ByteArray.mk.injEq];exact Array.toList_inj.1 e
theorem Q8 (A B:aj) (n m c d:Nat) (x y:List PartP) (w:World) (hl:x.length=n) (hl':y.length=m) (hn:n<=140737488351232) (hm:m<=140737488351232) (hr:Rd w 3 A n (pcs x)) (hs:Rd w 3 B m (pcs y)) (hne:x≠y) :
  Calls zZZ 56 #[aA A n c,aA B m d] w fun e w'=>e= .returned (.bool false)/\Below w.heap.size w w':=by
 obtain⟨HL,HL',HNE⟩:=sqJ3 hl hl' hne;clear hl hl' hne;by_cases hnm:n=m
 ·subst hnm;have hnn:((n:Int) != (n:Int))=false:=ab
  go_enter func56,ntmps56;go_wp2_with fail;go_loopg [5,13] n (fun gn u i wr=>∃k:Nat,gn=n - k/\i= aB aC k/\k<=n/\x.take k=y.take k/\Below w.heap.size w wr)
  case atStart=>exact⟨0,rfl,rfl,wu,rfl,Below.refl _ _⟩
  case round =>
   obtain⟨k,hgk,rfl,hk,htk,hbel⟩:=hrel;have HGK:=sqH hgk;have HTK:=sqH htk;clear hgk htk;by_cases hlt:k<n
   ·have hkl:k<x.length:=by have:=HL.o;omega
    have hkl':k<y.length:=by have:=HL'.o;omega
    obtain⟨b,off,rfl,_,hcell⟩:=(hr.below hbel).2 wu;obtain⟨b',off',rfl,_,hcell'⟩:=(hs.below hbel).2 wu;have hat:=fun j (hj:j<3)=>yu x k j hkl hj;have hat':=fun j (hj:j<3)=>yu y k j hkl' hj;have HS:=sqH (fun (h:x[k]=y[k])=>(by rw [List.take_succ_eq_append_getElem hkl,List.take_succ_eq_append_getElem hkl',HTK.o,h]:x.take (k+1)=y.take (k+1)));generalize x[k]=p at *
    generalize y[k]=q at *
    have c0:=hcell (k*3+0) _ (hat 0 wu);have c1:=hcell (k*3+1) _ (hat 1 wu);have c2:=hcell (k*3+2) _ (hat 2 wu);have d0:=hcell' (k*3+0) _ (hat' 0 wu);have d1:=hcell' (k*3+1) _ (hat' 1 wu);have d2:=hcell' (k*3+2) _ (hat' 2 wu);rw [Nat.add_zero]at c0 d0;rw [show off+(k*3+1)=off+k*3+1 by omega]at c1;rw [show off+(k*3+2)=off+k*3+2 by omega]at c2;rw [show off'+(k*3+1)=off'+k*3+1 by omega]at d1;rw [show off'+(k*3+2)=off'+k*3+2 by omega]at d2;obtain⟨pn,pd,psz⟩:=p;obtain⟨qn,qd,qsz⟩:=q;dsimp only [yn,List.getElem?_cons_zero,List.getElem?_cons_succ]at c0 c1 c2 d0 d1 d2;obtain⟨s,hs⟩:=wY (⟨pn.toArray⟩:ByteArray)
    obtain⟨t,ht⟩:=wY (⟨pd.toArray⟩:ByteArray)
    obtain⟨s',hs'⟩:=wY (⟨qn.toArray⟩:ByteArray)
    obtain⟨t',ht'⟩:=wY (⟨qd.toArray⟩:ByteArray)
    rw [<-hs]at c0;rw [<-ht]at c1;rw [<-hs']at d0;rw [<-ht']at d1;have H4:=sqH (aH hs (aH ht (aH hs' ht')));clear hat hcell hcell' hat' hs ht hs' ht';have hk0:=we k
    have hk1:(k:Int)<(n:Int):=wu;by_cases hss:s=s'
    ·subst hss;by_cases htt:t=t'
     ·subst htt;by_cases hzz:psz=qsz
      ·subst hzz;have HS2:=sqH (HS.o (by
        have h1:pn=qn:=by have:=H4.o.1.symm.trans H4.o.2.2.1;simpa using this
        have h2:pd=qd:=by have:=H4.o.2.1.symm.trans H4.o.2.2.2;simpa using this
        rw [h1,h2]))
       go_wp2_with fail;go_quiet (fail);go_wp2_with fail;go_roundg (n - (k+1))
       case measure=>exact wc HGK
       case rel=>exact⟨k+1,rfl,by go_num,wu,HS2.o,zO hbel _⟩
      ·have e1:((psz:Int)==(qsz:Int))=false:=by rw [beq_eq_false_iff_ne];omega
       have e2:¬((psz:Int)=(qsz:Int)):=wu;have e3:(psz==qsz)=false:=by rw [beq_eq_false_iff_ne];exact hzz
       go_wp2_with fail;go_quiet (fail);go_wp2_with fail;go_ret;exact⟨rfl,zO hbel _⟩
     ·have e1:(t.toList==t'.toList)=false:=K4 htt;go_wp2_with fail;go_quiet (fail);go_wp2_with fail;go_ret;exact⟨rfl,zO hbel _⟩
    ·have e1:(s.toList==s'.toList)=false:=K4 hss;go_wp2_with fail;go_quiet (fail);go_wp2_with fail;go_ret;exact⟨rfl,zO hbel _⟩
   ·exfalso;apply HNE.o;have h1:=HTK.o
    rwa [List.take_of_length_le (wc HL),List.take_of_length_le (by have:=HL'.o;omega)]at h1
 ·have hnn:((n:Int) != (m:Int))=true:=by rw [bne_iff_ne];omega
  go_enter func56,ntmps56;go_wp2_with fail;go_ret;exact⟨rfl,Below.refl _ _⟩
end Go.Proofs.YtcjmjaefcjcomaaGreat
