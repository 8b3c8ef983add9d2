/- Lemmas, as stated. -/
import Derived.Laws.IdiomStrings
import Derived.Deep.DrawnRows
import Derived.BigGuardPart
import Derived.Test.YtaboknhfiijipaaGreatQO04
set_option linter.unusedVariables false
set_option linter.unusedSimpArgs false
set_option maxRecDepth 20000
open Go.Proofs.Tryz
open Go.Value renaming int->aB,string->aD
open Go.IntKind renaming i64->aC
open Go.Obj renaming cells->aE
open Option renaming none->aF,some->aG
namespace Go.Proofs.YtaboknhfiijipaaGreat
open Go.RowKit
variable {K:Act->World->Prop} {listed:Array Bool} {ops:Array Oper} {fuel:Nat} {P:Program} {S:World->Prop} {Q:al}
attribute [local go_sem ↓] Go.wp_at_zero Go.wp_at_succ
theorem VR {W w1:World} (hb:Below W.heap.size W w1):(∀b o,b<W.heap.size->w1.cell? ⟨b,o,none⟩=W.cell? ⟨b,o,none⟩)/\(∀b o,b<W.heap.size->w1.frozen? ⟨b,o,none⟩=W.frozen? ⟨b,o,none⟩) :=
 ⟨fun b o h=>hb.cell (p:=⟨b,o,none⟩) h,fun b o h=>hb.frozen (p:=⟨b,o,none⟩) h⟩
theorem VX (x:Int) (w:World) (g:Nat) (h:w.cell? ⟨g,0,none⟩=some (.int .u8 x)) (h0:0<=x) (h1:x<256) :
  (convert 26 9 (.slice (some ⟨g,0,none⟩) 1 1)).run Tryz.prog w= .ok (.string ⟨#[UInt8.ofNat x.toNat]⟩) w :=
 run_convert_bytes_back w 26 9 5 ⟨g,0,none⟩ 1 [UInt8.ofNat x.toNat] Tryz.underlying26 Tryz.underlying5 Tryz.underlying9 (fun j hj=>by
  have:j=0:=by simpa using hj
  subst this
  simp only [List.getElem_cons_zero]
  have e:((UInt8.ofNat x.toNat).toNat:Int)=x:=by rw [UInt8.toNat_ofNat'];omega
  rw [e]
  exact h)
theorem k5 {md:Region.Mode} 
  (hK:Shut (∀a w,S w->(S w->wpAnyH P md ops Q S fuel listed a w)->K a w)) {a:Act} {w:World} (hS:S w) (A B:World->Prop) (ha:A w) (hb:B w) (h:∀W,S W->A W->B W->wpAnyH P md ops Q S fuel listed a W):K a w :=
 hK.o _ _ hS (fun h'=>h w h' ha hb)
theorem wF {md:Region.Mode} 
  (hK:Shut (∀a w,S w->(S w->wpAnyH P md ops Q S fuel listed a w)->K a w)) {a:Act} {w:World} (hS:S w) (A:World->Prop) (ha:A w) (h:∀W,S W->A W->wpAnyH P md ops Q S fuel listed a W):K a w:=k5 hK hS A (fun _=>True) ha trivial fun W s a _=>h W s a
theorem Rd.drewR {w:World} {size n:Nat} {A:aj} {xs:ak} (h:Rd w size A n xs):Rd w.drew size A n xs:=h
def Ve (c:UInt8):Bool:=decide (33<=c.toNat/\c.toNat<=126)
def qY (l:ai):Nat:=if l.length<1\/12<l.length then 1 else if l.all Ve then 0 else 3
theorem JB (s:ByteArray) (w:World) (hs:s.size<=140737488351232) :
  Calls Tryz.prog 142 #[aD s] w fun e w'=>e= .returned (aB aC (qY s.data.toList))/\w'=w:=by
 have hsz:s.data.toList.length=s.size:=by rw [Array.length_toList];rfl
 by_cases hbad:s.size<1\/12<s.size
 ·have hfin:qY s.data.toList=1:=by rw [qY,if_pos wu]
  have HF:=sqH hfin;clear hfin hsz;have hb:s.size<1\/¬s.size<1/\12<s.size:=wu;clear hbad;rcases hb with h1 | ⟨h1,h2⟩
  all_goals
   go_enter func142,ntmps142;go_wp2_with fail;go_ret;rw [HF.o];exact⟨rfl,rfl⟩
 ·have hfin:qY s.data.toList=if s.data.toList.all Ve then 0 else 3:=by rw [qY,if_neg wu]
  have HF:=sqH hfin;have HZ:=sqH hsz;have h1:¬s.size<1:=wu;have h2:¬12<s.size:=wu;have h3:s.size<=12:=wu;have hb12:decide (12<(s.size:Int))=false:=by simp;omega
  clear hfin hsz hbad;go_enter func142,ntmps142;go_wp2_with fail;go_loopg [14] s.size (fun gn i wr=>∃k:Nat,gn=s.size - k/\i= aB aC k/\k<=s.size/\(s.data.toList.take k).all Ve=true/\wr=w)
  case atStart=>exact⟨0,rfl,rfl,wu,rfl,rfl⟩
  case round =>
   obtain⟨k,hgk,rfl,hk,hall,rfl⟩:=hrel;have HGK:=sqH hgk;have HA:=sqH hall;clear hgk hall;by_cases hlt:k<s.size
   ·have hta:(s.data.toList.take (k+1)).all Ve=(Ve s[k]):=by
     have e:s.data.toList.take (k+1)=s.data.toList.take k++ [s[k]]:=by
      rw [List.take_succ_eq_append_getElem (wc HZ)];rfl
     rw [e,List.all_append,HA.o];simp
    have hno:Ve s[k]=false->qY s.data.toList=3:=fun h=>by
     rw [HF.o,if_neg];intro ha;have hm:s[k]∈s.data.toList:=by
      have:s.data.toList[k]'(wc HZ)=s[k]:=rfl;rw [<-this];exact List.getElem_mem _
     have:=List.all_eq_true.1 ha _ hm;rw [h]at this;cases this
    have HTA:=sqH hta;have HNO:=sqH hno;clear hta hno;have hc:=s[k].toNat_lt;have hi0:=we k
    have hi1:(k:Int)<(s.size:Int):=wu;by_cases hlo:s[k].toNat<=32
    ·have hf:=HNO.o (by simp [Ve];omega);have HFF:=sqH hf;have hlo':(s[k].toNat:Int)<=32:=wu
     clear hf;go_wp2_with fail;go_ret;rw [HFF.o];exact⟨rfl,rfl⟩
    ·by_cases hhi:126<s[k].toNat
     ·have hf:=HNO.o (by simp [Ve];omega);have HFF:=sqH hf;have hlo':¬(s[k].toNat:Int)<=32:=wu
      have hhi':126<(s[k].toNat:Int):=wu;have hbh:decide (126<(s[k].toNat:Int))=true:=by simpa using hhi'
      clear hf;go_wp2_with fail;go_ret;rw [HFF.o];exact⟨rfl,rfl⟩
     ·have hok:Ve s[k]=true:=by simp [Ve];omega
      have HOK:=sqH hok;have hlo':¬(s[k].toNat:Int)<=32:=wu;have hhi':¬126<(s[k].toNat:Int):=wu;have hbh:decide (126<(s[k].toNat:Int))=false:=by simpa using hhi'
      clear hok;go_wp2_with fail;go_roundg (s.size - (k+1))
      case measure=>exact wc HGK
      case rel=>exact⟨k+1,rfl,by go_num,wu,by rw [HTA.o,HOK.o],rfl⟩
   ·obtain rfl:k=s.size:=by omega
    go_wp2_with fail;go_ret;rw [HF.o,if_pos (by have:=HA.o;rw [List.take_of_length_le (wc HZ)]at this;exact this)];exact⟨rfl,rfl⟩
def leS (a b:ai):Bool:=Op.bytesLess a b||a==b
def yn:Option (ai)->List PartP->Nat
 | _, []=>0
 | q,p::r=>if qY p.name≠0 then qY p.name else if (match q with | some q=>leS p.name q | none=>false) then 6 else if hexC p.dig≠0 then hexC p.dig else if 300<p.size then 4 else yn (aG p.name) r
theorem qX (q:Option (ai)) (p:PartP) (r:List PartP):yn q (p::r)=if qY p.name≠0 then qY p.name else if (match q with | some q=>leS p.name q | none=>false) then 6 else if hexC p.dig≠0 then hexC p.dig else if 300<p.size then 4 else yn (aG p.name) r:=rfl
def chk (l:List PartP):Nat:=if 8<l.length then 1 else yn aF l
def ZV (l:List PartP):Prop:=∀p∈l,p.name.length<=140737488351232/\p.dig.length<=140737488351232/\(p.size:Int)<=9223372036854775807
def Qc (l:List PartP) (k:Nat):Option (ai):=match k with | 0=>aF | m+1=>(l[m]?).map (·.name)
theorem xf (A:aj) (n c:Nat) (l:List PartP) (w:World) (hl:l.length=n) (hc:n<=c) (hm:n<=9223372036854775807) (hok:ZV l) (hr:Rd w 3 A n (pcs l)) :
  Calls Tryz.prog 101 #[.slice A n c] w fun e w'=>e= .returned (aB aC (chk l))/\Below w.heap.size w w':=by
 have HOK:=sqH hok;have HL:=sqH hl;by_cases hbig:8<n
 ·have hfin:chk l=1:=by rw [chk,if_pos wu]
  have HF:=sqH hfin;clear hfin hok hl;go_enter func101,ntmps101;go_wp2_with fail;go_ret;rw [HF.o];exact⟨rfl,Below.refl _ _⟩
 have hfin:chk l=yn aF l:=by rw [chk,if_neg wu]
 have HF:=sqH hfin;clear hfin hok hl;go_enter func101,ntmps101;go_wp2_with fail;go_loopg [12] n (fun gn i wr=>∃k:Nat,gn=n - k/\i= aB aC k/\k<=n/\chk l=yn (Qc l k) (l.drop k)/\Below w.heap.size w wr)
 case atStart=>exact⟨0,rfl,rfl,wu,HF.o,Below.refl _ _⟩
 case round =>
  clear HF;obtain⟨k,hgk,rfl,hk,hch,hbel⟩:=hrel;have HGK:=sqH hgk;clear hgk;by_cases hlt:k<n
  ·have hkl:k<l.length:=by have:=HL.o;omega
   have hstep:chk l=yn (Qc l k) (l[k]::l.drop (k+1)):=by rw [hch,List.drop_eq_getElem_cons hkl]
   have hpn:Qc l (k+1)=aG l[k].name:=by simp [Qc,hkl]
   obtain⟨b,off,rfl,hbw,hcell⟩:=(hr.below hbel).2 wu;have hat:=fun j (hj:j<3)=>vf l k j hkl hj;have hpok:=HOK.o l[k] (List.getElem_mem hkl);have hprev:0<k->∃q:ai,Qc l k=aG q/\wr.cell? ⟨b,off+(k - 1)*3,aF⟩=aG (aD ⟨q.toArray⟩):=fun h0=>by
    obtain⟨m,rfl⟩:∃m,k=m+1:=⟨k - 1,wu⟩
    refine⟨l[m].name,by simp [Qc,show m<l.length by omega],?_⟩;have:=vf l m 0 wu wu;exact hcell (m*3+0) _ this
   generalize l[k]=p at *
   have c0:=hcell (k*3+0) _ (hat 0 wu);have c1:=hcell (k*3+1) _ (hat 1 wu);have c2:=hcell (k*3+2) _ (hat 2 wu);rw [Nat.add_zero]at c0;rw [show off+(k*3+1)=off+k*3+1 by omega]at c1;rw [show off+(k*3+2)=off+k*3+2 by omega]at c2;obtain⟨pn,pd,psz⟩:=p;dsimp only [yL,List.getElem?_cons_zero,List.getElem?_cons_succ]at c0 c1 c2;obtain⟨HST,HPN,HPK⟩:=sqJ3 hstep hpn hpok;have hsz:=hbel.size;obtain⟨s,hs⟩:=wY (⟨pn.toArray⟩:ByteArray)
   obtain⟨t,ht⟩:=wY (⟨pd.toArray⟩:ByteArray)
   have hsd:s.data.toList=pn:=by rw [hs]
   have htd:t.data.toList=pd:=by rw [ht]
   rw [<-hs]at c0;rw [<-ht]at c1;have hssz:s.size<=140737488351232:=by have:=HPK.o.1;rw [hs];exact this
   have htsz:t.size<=140737488351232:=by have:=HPK.o.2.1;rw [ht];exact this
   have hp0:=HPK.o.2.2;obtain⟨HN,HC,HSD,HTD⟩:=sqJ4 (fun w'=>JB s w' hssz) (fun w'=>kA t w' htsz) hsd htd;dsimp only at hp0;have hi0:=we psz
   clear hstep hpn hat hcell hpok hch hs ht hsd htd hr;by_cases hn0:qY s.data.toList=0
   ·have hnb:((qY s.data.toList:Int) != 0)=false:=by rw [bne_eq_false_iff_eq];omega
    have hn1:qY pn=0:=by rw [<-HSD.o];exact hn0
    generalize qY s.data.toList=nc at *
    have HNC:=sqH hn0;have HN1:=sqH hn1;clear hn0 hn1;by_cases hk0:0<k
    ·obtain⟨q,hq1,hq2⟩:=hprev hk0;have hkb:decide (0<(k:Int))=true:=by simp;omega
     have hm1:IntKind.i64.wrap ((k:Int) - 1)=(k:Int) - 1:=IntWalk.i64_in _ wu;have hm2:((k:Int) - 1).toNat=k - 1:=wu;have hm3:(0:Int)<=(k:Int) - 1:=wu;have hm4:(k:Int) - 1<(n:Int):=wu;have hm5:(1:Int)<=(k:Int):=wu;have hls:leS pn q=(Op.bytesLess s.toList q||s.toList==q):=by rw [leS,<-HSD.o,ByteArray.toList_eq]
     have HQ1:=sqH hq1;have HLS:=sqH hls;clear hprev hq1 hls;go_wp2_with fail;refine(HN.o _).mono ?_;rintro e_ _ ⟨rfl,rfl⟩;dsimp only;go_wp2_with fail;have d1:(wr.alloc (aE #[aD s,aD t,aB aC psz] 85)).cell? ⟨wr.heap.size,1,aF⟩=aG (aD t):=ab;have d0:(wr.alloc (aE #[aD s,aD t,aB aC psz] 85)).cell? ⟨wr.heap.size,0,aF⟩=aG (aD s):=ab;have d2:(wr.alloc (aE #[aD s,aD t,aB aC psz] 85)).cell? ⟨wr.heap.size,2,aF⟩=aG (aB aC psz):=ab;have hbl:=hbel.alloc hsz (aE #[aD s,aD t,aB aC psz] 85);have hlt2:wr.heap.size<(wr.alloc (aE #[aD s,aD t,aB aC psz] 85)).heap.size:=ab;have d3:=(World.cell?_alloc_lt wr (aE #[aD s,aD t,aB aC psz] 85) ⟨b,off+(k - 1)*3,aF⟩ hbw).trans hq2;generalize wr.alloc (aE #[aD s,aD t,aB aC psz] 85)=wa at *
     generalize wr.heap.size=gr at *
     clear c0 c1 c2 hbel;clear hq2;go_quiet (fail);generalize (Op.bytesLess s.toList q||s.toList==q)=lb at *
     cases lb
     rotate_left
     ·have hfin:chk l=6:=by rw [HST.o,qX,if_neg (by simpa using HN1.o),HQ1.o];simp only [];rw [if_pos HLS.o]
      have HFIN:=sqH hfin;clear hfin;go_wp2_with fail;go_ret;rw [HFIN.o];exact⟨rfl,zY hbl _⟩
     ·have hnx:chk l=if hexC pd≠0 then hexC pd else if 300<psz then 4 else yn (aG pn) (l.drop (k+1)):=by
       rw [HST.o,qX,if_neg (by simpa using HN1.o),HQ1.o];simp only [];rw [if_neg (by rw [HLS.o];simp)]
      go_wp2_with fail;have HNX:=sqH hnx;clear hnx;have e2:(wa.drewN nq).cell? ⟨gr,2,aF⟩=_:=d2;have hbq:=zY hbl nq;have hlq:gr<(wa.drewN nq).heap.size:=hlt2;by_cases hh0:hexC t.data.toList=0
      ·have hhb:((hexC t.data.toList:Int) != 0)=false:=by rw [bne_eq_false_iff_eq];omega
       have hh1:hexC pd=0:=by rw [<-HTD.o];exact hh0
       have HH1:=sqH hh1;clear hh1;by_cases hbigs:300<psz
       ·have hfin:chk l=4:=by rw [HNX.o,if_neg (by simpa using HH1.o),if_pos hbigs]
        have HFIN:=sqH hfin;have hbi:(300:Int)<(psz:Int):=wu;have hbb:decide ((300:Int)<(psz:Int))=true:=by simpa using hbi
        clear hfin;go_wp2_with fail;refine wZ (HC.o _) fun w5 hb5=>?_;dsimp only;have f2:=(hb5.cell (p:=⟨gr,2,aF⟩) hlq).trans e2;have hb6:=wm hbq hb5;go_wp2_with fail;go_ret;rw [HFIN.o];exact⟨rfl,hb6⟩
       ·have hfin:chk l=yn (aG pn) (l.drop (k+1)):=by rw [HNX.o,if_neg (by simpa using HH1.o),if_neg hbigs]
        have HFIN:=sqH hfin;have hbi:¬(300:Int)<(psz:Int):=wu;have hbb:decide ((300:Int)<(psz:Int))=false:=by simpa using hbi
        clear hfin;go_wp2_with fail;refine wZ (HC.o _) fun w5 hb5=>?_;dsimp only;have f2:=(hb5.cell (p:=⟨gr,2,aF⟩) hlq).trans e2;have hb6:=wm hbq hb5;go_wp2_with fail;go_roundg (n - (k+1))
        case measure=>exact wc HGK
        case rel=>exact⟨k+1,rfl,by go_num,wu,by rw [HPN.o];exact HFIN.o,hb6⟩
      ·have hhb:((hexC t.data.toList:Int) != 0)=true:=by rw [bne_iff_ne];omega
       have hfin:chk l=hexC t.data.toList:=by rw [HNX.o,HTD.o,if_pos (by rw [<-HTD.o];exact hh0)]
       have HFIN:=sqH hfin;clear hfin;go_wp2_with fail;refine wZ (HC.o _) fun w5 hb5=>?_;dsimp only;have hb6:=wm hbq hb5;go_wp2_with fail;go_ret;rw [HFIN.o];exact⟨rfl,hb6⟩
    ·have hkb:decide (0<(k:Int))=false:=by simp;omega
     have hk00:k=0:=wu;have hpv:Qc l k=aF:=by rw [hk00];rfl
     have HPV:=sqH hpv;clear hprev hk00 hpv;go_wp2_with fail;refine(HN.o _).mono ?_;rintro e_ _ ⟨rfl,rfl⟩;dsimp only;go_wp2_with fail;have d1:(wr.alloc (aE #[aD s,aD t,aB aC psz] 85)).cell? ⟨wr.heap.size,1,aF⟩=aG (aD t):=ab;have d0:(wr.alloc (aE #[aD s,aD t,aB aC psz] 85)).cell? ⟨wr.heap.size,0,aF⟩=aG (aD s):=ab;have d2:(wr.alloc (aE #[aD s,aD t,aB aC psz] 85)).cell? ⟨wr.heap.size,2,aF⟩=aG (aB aC psz):=ab;have hbl:=hbel.alloc hsz (aE #[aD s,aD t,aB aC psz] 85);have hlt2:wr.heap.size<(wr.alloc (aE #[aD s,aD t,aB aC psz] 85)).heap.size:=ab;generalize wr.alloc (aE #[aD s,aD t,aB aC psz] 85)=wa at *
     generalize wr.heap.size=gr at *
     clear c0 c1 c2 hbel;go_quiet (fail);go_wp2_with fail;have hnx:chk l=if hexC pd≠0 then hexC pd else if 300<psz then 4 else yn (aG pn) (l.drop (k+1)):=by
      rw [HST.o,qX,if_neg (by simpa using HN1.o),HPV.o];simp only [];rw [if_neg ab]
     have HNX:=sqH hnx;clear hnx;have e2:(wa.drewN nq).cell? ⟨gr,2,aF⟩=_:=d2;have hbq:=zY hbl nq;have hlq:gr<(wa.drewN nq).heap.size:=hlt2;by_cases hh0:hexC t.data.toList=0
     ·have hhb:((hexC t.data.toList:Int) != 0)=false:=by rw [bne_eq_false_iff_eq];omega
      have hh1:hexC pd=0:=by rw [<-HTD.o];exact hh0
      have HH1:=sqH hh1;clear hh1;by_cases hbigs:300<psz
      ·have hfin:chk l=4:=by rw [HNX.o,if_neg (by simpa using HH1.o),if_pos hbigs]
       have HFIN:=sqH hfin;have hbi:(300:Int)<(psz:Int):=wu;have hbb:decide ((300:Int)<(psz:Int))=true:=by simpa using hbi
       clear hfin;go_wp2_with fail;refine wZ (HC.o _) fun w5 hb5=>?_;dsimp only;have f2:=(hb5.cell (p:=⟨gr,2,aF⟩) hlq).trans e2;have hb6:=wm hbq hb5;go_wp2_with fail;go_ret;rw [HFIN.o];exact⟨rfl,hb6⟩
      ·have hfin:chk l=yn (aG pn) (l.drop (k+1)):=by rw [HNX.o,if_neg (by simpa using HH1.o),if_neg hbigs]
       have HFIN:=sqH hfin;have hbi:¬(300:Int)<(psz:Int):=wu;have hbb:decide ((300:Int)<(psz:Int))=false:=by simpa using hbi
       clear hfin;go_wp2_with fail;refine wZ (HC.o _) fun w5 hb5=>?_;dsimp only;have f2:=(hb5.cell (p:=⟨gr,2,aF⟩) hlq).trans e2;have hb6:=wm hbq hb5;go_wp2_with fail;go_roundg (n - (k+1))
       case measure=>exact wc HGK
       case rel=>exact⟨k+1,rfl,by go_num,wu,by rw [HPN.o];exact HFIN.o,hb6⟩
     ·have hhb:((hexC t.data.toList:Int) != 0)=true:=by rw [bne_iff_ne];omega
      have hfin:chk l=hexC t.data.toList:=by rw [HNX.o,HTD.o,if_pos (by rw [<-HTD.o];exact hh0)]
      have HFIN:=sqH hfin;clear hfin;go_wp2_with fail;refine wZ (HC.o _) fun w5 hb5=>?_;dsimp only;have hb6:=wm hbq hb5;go_wp2_with fail;go_ret;rw [HFIN.o];exact⟨rfl,hb6⟩
   ·have hnb:((qY s.data.toList:Int) != 0)=true:=by rw [bne_iff_ne];omega
    have hfin:chk l=qY s.data.toList:=by rw [HST.o,qX,HSD.o,if_pos (by rw [<-HSD.o];exact hn0)]
    have HFIN:=sqH hfin;clear hfin hn0;go_wp2_with fail;refine(HN.o _).mono ?_;rintro e_ _ ⟨rfl,rfl⟩;dsimp only;go_wp2_with fail;go_ret;rw [HFIN.o];exact⟨rfl,hbel.alloc hsz _⟩
  ·obtain rfl:k=n:=by omega
   rw [List.drop_of_length_le (wc HL),yn]at hch;have HCH:=sqH hch;clear hch;go_wp2_with fail;go_ret;rw [HCH.o];exact⟨rfl,hbel⟩
end Go.Proofs.YtaboknhfiijipaaGreat
