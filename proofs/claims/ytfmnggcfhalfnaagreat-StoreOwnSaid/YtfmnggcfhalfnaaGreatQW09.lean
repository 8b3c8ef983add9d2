/- Lemmas of the proof. Conditions: as stated. -/
import Derived.Test.YtfmnggcfhalfnaaGreatQW08
import Derived.BigGuardPart
set_option linter.unusedVariables false
set_option linter.unusedSimpArgs false
set_option maxRecDepth 20000
namespace Go.Proofs.YtfmnggcfhalfnaaGreat
open Go.RowKit
def j7 (c:UInt8):Bool:=decide (33≤c.toNat∧c.toNat≤126)
def zF (l:List UInt8):Nat:=if l.length<1∨12<l.length then 1 else if l.all j7 then 0 else 3
theorem Z5 (s:ByteArray) (w:World) (hs:s.size≤140737488351232) :
  Calls Tryz.prog 62 #[.string s] w fun e w'=>e= .returned (.int .i64 (zF s.data.toList))∧w'=w:=by
 have hsz:s.data.toList.length=s.size:=by rw [Array.length_toList];rfl
 by_cases hbad:s.size<1∨12<s.size
 ·have hfin:zF s.data.toList=1:=by rw [zF,if_pos (by omega)]
  have HF:=sqH hfin;clear hfin hsz;have hb:s.size<1∨¬s.size<1∧12<s.size:=by omega
  clear hbad;rcases hb with h1 | ⟨h1,h2⟩
  all_goals
   go_enter Tryz.func62,Tryz.ntmps62;go_wp2_with fail;go_ret;rw [HF.out];exact⟨rfl,rfl⟩
 ·have hfin:zF s.data.toList=if s.data.toList.all j7 then 0 else 3:=by rw [zF,if_neg (by omega)]
  have HF:=sqH hfin;have HZ:=sqH hsz;have h1:¬s.size<1:=by omega
  have h2:¬12<s.size:=by omega
  have h3:s.size≤12:=by omega
  have hb12:decide (12<(s.size:Int))=false:=by simp;omega
  clear hfin hsz hbad;go_enter Tryz.func62,Tryz.ntmps62;go_wp2_with fail;go_loopg [14] s.size (fun gn i wr=>∃k:Nat,gn=s.size - k∧i= .int .i64 k∧k≤s.size∧(s.data.toList.take k).all j7=true∧wr=w)
  case atStart=>exact⟨0,rfl,rfl,by omega,rfl,rfl⟩
  case round =>
   obtain⟨k,hgk,rfl,hk,hall,rfl⟩:=hrel;have HGK:=sqH hgk;have HA:=sqH hall;clear hgk hall;by_cases hlt:k<s.size
   ·have hta:(s.data.toList.take (k+1)).all j7=(j7 s[k]):=by
     have e:s.data.toList.take (k+1)=s.data.toList.take k++ [s[k]]:=by
      rw [List.take_succ_eq_append_getElem (by have:=HZ.out;omega)];rfl
     rw [e,List.all_append,HA.out];simp
    have hno:j7 s[k]=false→zF s.data.toList=3:=fun h=>by
     rw [HF.out,if_neg];intro ha;have hm:s[k]∈s.data.toList:=by
      have:s.data.toList[k]'(by have:=HZ.out;omega)=s[k]:=rfl;rw [←this];exact List.getElem_mem _
     have:=List.all_eq_true.1 ha _ hm;rw [h]at this;cases this
    have HTA:=sqH hta;have HNO:=sqH hno;clear hta hno;have hc:=s[k].toNat_lt;have hi0:(0:Int)≤(k:Int):=by omega
    have hi1:(k:Int)<(s.size:Int):=by omega
    by_cases hlo:s[k].toNat≤32
    ·have hf:=HNO.out (by simp [j7];omega);have HFF:=sqH hf;have hlo':(s[k].toNat:Int)≤32:=by omega
     clear hf;go_wp2_with fail;go_ret;rw [HFF.out];exact⟨rfl,rfl⟩
    ·by_cases hhi:126<s[k].toNat
     ·have hf:=HNO.out (by simp [j7];omega);have HFF:=sqH hf;have hlo':¬(s[k].toNat:Int)≤32:=by omega
      have hhi':126<(s[k].toNat:Int):=by omega
      have hbh:decide (126<(s[k].toNat:Int))=true:=by simpa using hhi'
      clear hf;go_wp2_with fail;go_ret;rw [HFF.out];exact⟨rfl,rfl⟩
     ·have hok:j7 s[k]=true:=by simp [j7];omega
      have HOK:=sqH hok;have hlo':¬(s[k].toNat:Int)≤32:=by omega
      have hhi':¬126<(s[k].toNat:Int):=by omega
      have hbh:decide (126<(s[k].toNat:Int))=false:=by simpa using hhi'
      clear hok;go_wp2_with fail;go_roundg (s.size - (k+1))
      case measure=>have:=HGK.out;omega
      case rel=>exact⟨k+1,rfl,by go_num,by omega,by rw [HTA.out,HOK.out],rfl⟩
   ·obtain rfl:k=s.size:=by omega
    go_wp2_with fail;go_ret;rw [HF.out,if_pos (by have:=HA.out;rw [List.take_of_length_le (by have:=HZ.out;omega)]at this;exact this)];exact⟨rfl,rfl⟩
def leS (a b:List UInt8):Bool:=Op.bytesLess a b||a==b
def qe:Option (List UInt8)→List PartP→Nat
 | _, []=>0
 | q,p::r=>if zF p.name≠0 then zF p.name else if (match q with | some q=>leS p.name q | none=>false) then 6 else if zJ p.dig≠0 then zJ p.dig else if 300<p.size then 4 else qe (some p.name) r
theorem zM (q:Option (List UInt8)) (p:PartP) (r:List PartP):qe q (p::r)=if zF p.name≠0 then zF p.name else if (match q with | some q=>leS p.name q | none=>false) then 6 else if zJ p.dig≠0 then zJ p.dig else if 300<p.size then 4 else qe (some p.name) r:=rfl
def chk (l:List PartP):Nat:=if 8<l.length then 1 else qe none l
def vU (l:List PartP):Prop:=∀p∈l,p.name.length≤140737488351232∧p.dig.length≤140737488351232∧(p.size:Int)≤9223372036854775807
def xr (l:List PartP) (k:Nat):Option (List UInt8):=match k with | 0=>none | m+1=>(l[m]?).map (·.name)
theorem xA (A:Option Addr) (n c:Nat) (l:List PartP) (w:World) (hl:l.length=n) (hc:n≤c) (hm:n≤9223372036854775807) (hok:vU l) (hr:Rd w 3 A n (pcs l)) :
  Calls Tryz.prog 30 #[.slice A n c] w fun e w'=>e= .returned (.int .i64 (chk l))∧Below w.heap.size w w':=by
 have HOK:=sqH hok;have HL:=sqH hl;by_cases hbig:8<n
 ·have hfin:chk l=1:=by rw [chk,if_pos (by omega)]
  have HF:=sqH hfin;clear hfin hok hl;go_enter Tryz.func30,Tryz.ntmps30;go_wp2_with fail;go_ret;rw [HF.out];exact⟨rfl,Below.refl _ _⟩
 have hfin:chk l=qe none l:=by rw [chk,if_neg (by omega)]
 have HF:=sqH hfin;clear hfin hok hl;go_enter Tryz.func30,Tryz.ntmps30;go_wp2_with fail;go_loopg [12] n (fun gn i wr=>∃k:Nat,gn=n - k∧i= .int .i64 k∧k≤n∧chk l=qe (xr l k) (l.drop k)∧Below w.heap.size w wr)
 case atStart=>exact⟨0,rfl,rfl,by omega,HF.out,Below.refl _ _⟩
 case round =>
  clear HF;obtain⟨k,hgk,rfl,hk,hch,hbel⟩:=hrel;have HGK:=sqH hgk;clear hgk;by_cases hlt:k<n
  ·have hkl:k<l.length:=by have:=HL.out;omega
   have hstep:chk l=qe (xr l k) (l[k]::l.drop (k+1)):=by rw [hch,List.drop_eq_getElem_cons hkl]
   have hpn:xr l (k+1)=some l[k].name:=by simp [xr,hkl]
   obtain⟨b,off,rfl,hbw,hcell⟩:=(hr.below hbel).2 (by omega);have hat:=fun j (hj:j<3)=>qL l k j hkl hj;have hpok:=HOK.out l[k] (List.getElem_mem hkl);have hprev:0<k→∃q:List UInt8,xr l k=some q∧wr.cell? ⟨b,off+(k - 1)*3,none⟩=some (.string ⟨q.toArray⟩):=fun h0=>by
    obtain⟨m,rfl⟩:∃m,k=m+1:=⟨k - 1,by omega⟩
    refine⟨l[m].name,by simp [xr,show m<l.length by omega],?_⟩;have:=qL l m 0 (by omega) (by omega);exact hcell (m*3+0) _ this
   generalize l[k]=p at *
   have c0:=hcell (k*3+0) _ (hat 0 (by omega));have c1:=hcell (k*3+1) _ (hat 1 (by omega));have c2:=hcell (k*3+2) _ (hat 2 (by omega));rw [Nat.add_zero]at c0;rw [show off+(k*3+1)=off+k*3+1 by omega]at c1;rw [show off+(k*3+2)=off+k*3+2 by omega]at c2;obtain⟨pn,pd,psz⟩:=p;dsimp only [qx,List.getElem?_cons_zero,List.getElem?_cons_succ]at c0 c1 c2;have HST:=sqH hstep;have HPN:=sqH hpn;have HPK:=sqH hpok;have hsz:=hbel.size;obtain⟨s,hs⟩:∃s:ByteArray,s=⟨pn.toArray⟩:=⟨_,rfl⟩
   obtain⟨t,ht⟩:∃t:ByteArray,t=⟨pd.toArray⟩:=⟨_,rfl⟩
   have hsd:s.data.toList=pn:=by rw [hs]
   have htd:t.data.toList=pd:=by rw [ht]
   rw [←hs]at c0;rw [←ht]at c1;have hssz:s.size≤140737488351232:=by have:=HPK.out.1;rw [hs];exact this
   have htsz:t.size≤140737488351232:=by have:=HPK.out.2.1;rw [ht];exact this
   have hp0:=HPK.out.2.2;have HN:=sqH (fun w'=>Z5 s w' hssz);have HC:=sqH (fun w'=>qG t w' htsz);have HSD:=sqH hsd;have HTD:=sqH htd;dsimp only at hp0;have hi0:(0:Int)≤(psz:Int):=by omega
   clear hstep hpn hat hcell hpok hch hs ht hsd htd hr;by_cases hn0:zF s.data.toList=0
   ·have hnb:((zF s.data.toList:Int) != 0)=false:=by rw [bne_eq_false_iff_eq];omega
    have hn1:zF pn=0:=by rw [←HSD.out];exact hn0
    generalize zF s.data.toList=nc at *
    have HNC:=sqH hn0;have HN1:=sqH hn1;clear hn0 hn1;by_cases hk0:0<k
    ·obtain⟨q,hq1,hq2⟩:=hprev hk0;have hkb:decide (0<(k:Int))=true:=by simp;omega
     have hm1:IntKind.i64.wrap ((k:Int) - 1)=(k:Int) - 1:=IntWalk.i64_in _ (by omega);have hm2:((k:Int) - 1).toNat=k - 1:=by omega
     have hm3:(0:Int)≤(k:Int) - 1:=by omega
     have hm4:(k:Int) - 1<(n:Int):=by omega
     have hm5:(1:Int)≤(k:Int):=by omega
     have hls:leS pn q=(Op.bytesLess s.toList q||s.toList==q):=by rw [leS,←HSD.out,ByteArray.toList_eq]
     have HQ1:=sqH hq1;have HLS:=sqH hls;clear hprev hq1 hls;go_wp2_with fail;refine(HN.out _).mono ?_;rintro e_ _ ⟨rfl,rfl⟩;dsimp only;go_wp2_with fail;have d1:(wr.alloc (.cells #[.string s,.string t,.int .i64 psz] 37)).cell? ⟨wr.heap.size,1,none⟩=some (.string t):=by simp
     have d0:(wr.alloc (.cells #[.string s,.string t,.int .i64 psz] 37)).cell? ⟨wr.heap.size,0,none⟩=some (.string s):=by simp
     have d2:(wr.alloc (.cells #[.string s,.string t,.int .i64 psz] 37)).cell? ⟨wr.heap.size,2,none⟩=some (.int .i64 psz):=by simp
     have hbl:=hbel.alloc hsz (.cells #[.string s,.string t,.int .i64 psz] 37);have hlt2:wr.heap.size<(wr.alloc (.cells #[.string s,.string t,.int .i64 psz] 37)).heap.size:=by simp
     have d3:=(World.cell?_alloc_lt wr (.cells #[.string s,.string t,.int .i64 psz] 37) ⟨b,off+(k - 1)*3,none⟩ hbw).trans hq2;generalize wr.alloc (.cells #[.string s,.string t,.int .i64 psz] 37)=wa at *
     generalize wr.heap.size=gr at *
     clear c0 c1 c2 hbel;clear hq2;go_quiet (fail);generalize (Op.bytesLess s.toList q||s.toList==q)=lb at *
     cases lb
     rotate_left
     ·have hfin:chk l=6:=by rw [HST.out,zM,if_neg (by simpa using HN1.out),HQ1.out];simp only [];rw [if_pos HLS.out]
      have HFIN:=sqH hfin;clear hfin;go_wp2_with fail;go_ret;rw [HFIN.out];exact⟨rfl,zk hbl _⟩
     ·have hnx:chk l=if zJ pd≠0 then zJ pd else if 300<psz then 4 else qe (some pn) (l.drop (k+1)):=by
       rw [HST.out,zM,if_neg (by simpa using HN1.out),HQ1.out];simp only [];rw [if_neg (by rw [HLS.out];simp)]
      go_wp2_with fail;have HNX:=sqH hnx;clear hnx;have e2:(wa.drewN nq).cell? ⟨gr,2,none⟩=_:=d2;have hbq:=zk hbl nq;have hlq:gr<(wa.drewN nq).heap.size:=hlt2;by_cases hh0:zJ t.data.toList=0
      ·have hhb:((zJ t.data.toList:Int) != 0)=false:=by rw [bne_eq_false_iff_eq];omega
       have hh1:zJ pd=0:=by rw [←HTD.out];exact hh0
       have HH1:=sqH hh1;clear hh1;by_cases hbigs:300<psz
       ·have hfin:chk l=4:=by rw [HNX.out,if_neg (by simpa using HH1.out),if_pos hbigs]
        have HFIN:=sqH hfin;have hbi:(300:Int)<(psz:Int):=by omega
        have hbb:decide ((300:Int)<(psz:Int))=true:=by simpa using hbi
        clear hfin;go_wp2_with fail;refine(HC.out _).mono ?_;rintro e_ w5 ⟨rfl,hb5⟩;dsimp only;have f2:=(hb5.cell (p:=⟨gr,2,none⟩) hlq).trans e2;have hb6:=hbq.trans (hb5.mono hbq.size);go_wp2_with fail;go_ret;rw [HFIN.out];exact⟨rfl,hb6⟩
       ·have hfin:chk l=qe (some pn) (l.drop (k+1)):=by rw [HNX.out,if_neg (by simpa using HH1.out),if_neg hbigs]
        have HFIN:=sqH hfin;have hbi:¬(300:Int)<(psz:Int):=by omega
        have hbb:decide ((300:Int)<(psz:Int))=false:=by simpa using hbi
        clear hfin;go_wp2_with fail;refine(HC.out _).mono ?_;rintro e_ w5 ⟨rfl,hb5⟩;dsimp only;have f2:=(hb5.cell (p:=⟨gr,2,none⟩) hlq).trans e2;have hb6:=hbq.trans (hb5.mono hbq.size);go_wp2_with fail;go_roundg (n - (k+1))
        case measure=>have:=HGK.out;omega
        case rel=>exact⟨k+1,rfl,by go_num,by omega,by rw [HPN.out];exact HFIN.out,hb6⟩
      ·have hhb:((zJ t.data.toList:Int) != 0)=true:=by rw [bne_iff_ne];omega
       have hfin:chk l=zJ t.data.toList:=by rw [HNX.out,HTD.out,if_pos (by rw [←HTD.out];exact hh0)]
       have HFIN:=sqH hfin;clear hfin;go_wp2_with fail;refine(HC.out _).mono ?_;rintro e_ w5 ⟨rfl,hb5⟩;dsimp only;have hb6:=hbq.trans (hb5.mono hbq.size);go_wp2_with fail;go_ret;rw [HFIN.out];exact⟨rfl,hb6⟩
    ·have hkb:decide (0<(k:Int))=false:=by simp;omega
     have hk00:k=0:=by omega
     have hpv:xr l k=none:=by rw [hk00];rfl
     have HPV:=sqH hpv;clear hprev hk00 hpv;go_wp2_with fail;refine(HN.out _).mono ?_;rintro e_ _ ⟨rfl,rfl⟩;dsimp only;go_wp2_with fail;have d1:(wr.alloc (.cells #[.string s,.string t,.int .i64 psz] 37)).cell? ⟨wr.heap.size,1,none⟩=some (.string t):=by simp
     have d0:(wr.alloc (.cells #[.string s,.string t,.int .i64 psz] 37)).cell? ⟨wr.heap.size,0,none⟩=some (.string s):=by simp
     have d2:(wr.alloc (.cells #[.string s,.string t,.int .i64 psz] 37)).cell? ⟨wr.heap.size,2,none⟩=some (.int .i64 psz):=by simp
     have hbl:=hbel.alloc hsz (.cells #[.string s,.string t,.int .i64 psz] 37);have hlt2:wr.heap.size<(wr.alloc (.cells #[.string s,.string t,.int .i64 psz] 37)).heap.size:=by simp
     generalize wr.alloc (.cells #[.string s,.string t,.int .i64 psz] 37)=wa at *
     generalize wr.heap.size=gr at *
     clear c0 c1 c2 hbel;go_quiet (fail);go_wp2_with fail;have hnx:chk l=if zJ pd≠0 then zJ pd else if 300<psz then 4 else qe (some pn) (l.drop (k+1)):=by
      rw [HST.out,zM,if_neg (by simpa using HN1.out),HPV.out];simp only [];rw [if_neg (by simp)]
     have HNX:=sqH hnx;clear hnx;have e2:(wa.drewN nq).cell? ⟨gr,2,none⟩=_:=d2;have hbq:=zk hbl nq;have hlq:gr<(wa.drewN nq).heap.size:=hlt2;by_cases hh0:zJ t.data.toList=0
     ·have hhb:((zJ t.data.toList:Int) != 0)=false:=by rw [bne_eq_false_iff_eq];omega
      have hh1:zJ pd=0:=by rw [←HTD.out];exact hh0
      have HH1:=sqH hh1;clear hh1;by_cases hbigs:300<psz
      ·have hfin:chk l=4:=by rw [HNX.out,if_neg (by simpa using HH1.out),if_pos hbigs]
       have HFIN:=sqH hfin;have hbi:(300:Int)<(psz:Int):=by omega
       have hbb:decide ((300:Int)<(psz:Int))=true:=by simpa using hbi
       clear hfin;go_wp2_with fail;refine(HC.out _).mono ?_;rintro e_ w5 ⟨rfl,hb5⟩;dsimp only;have f2:=(hb5.cell (p:=⟨gr,2,none⟩) hlq).trans e2;have hb6:=hbq.trans (hb5.mono hbq.size);go_wp2_with fail;go_ret;rw [HFIN.out];exact⟨rfl,hb6⟩
      ·have hfin:chk l=qe (some pn) (l.drop (k+1)):=by rw [HNX.out,if_neg (by simpa using HH1.out),if_neg hbigs]
       have HFIN:=sqH hfin;have hbi:¬(300:Int)<(psz:Int):=by omega
       have hbb:decide ((300:Int)<(psz:Int))=false:=by simpa using hbi
       clear hfin;go_wp2_with fail;refine(HC.out _).mono ?_;rintro e_ w5 ⟨rfl,hb5⟩;dsimp only;have f2:=(hb5.cell (p:=⟨gr,2,none⟩) hlq).trans e2;have hb6:=hbq.trans (hb5.mono hbq.size);go_wp2_with fail;go_roundg (n - (k+1))
       case measure=>have:=HGK.out;omega
       case rel=>exact⟨k+1,rfl,by go_num,by omega,by rw [HPN.out];exact HFIN.out,hb6⟩
     ·have hhb:((zJ t.data.toList:Int) != 0)=true:=by rw [bne_iff_ne];omega
      have hfin:chk l=zJ t.data.toList:=by rw [HNX.out,HTD.out,if_pos (by rw [←HTD.out];exact hh0)]
      have HFIN:=sqH hfin;clear hfin;go_wp2_with fail;refine(HC.out _).mono ?_;rintro e_ w5 ⟨rfl,hb5⟩;dsimp only;have hb6:=hbq.trans (hb5.mono hbq.size);go_wp2_with fail;go_ret;rw [HFIN.out];exact⟨rfl,hb6⟩
   ·have hnb:((zF s.data.toList:Int) != 0)=true:=by rw [bne_iff_ne];omega
    have hfin:chk l=zF s.data.toList:=by rw [HST.out,zM,HSD.out,if_pos (by rw [←HSD.out];exact hn0)]
    have HFIN:=sqH hfin;clear hfin hn0;go_wp2_with fail;refine(HN.out _).mono ?_;rintro e_ _ ⟨rfl,rfl⟩;dsimp only;go_wp2_with fail;go_ret;rw [HFIN.out];exact⟨rfl,hbel.alloc hsz _⟩
  ·obtain rfl:k=n:=by omega
   rw [List.drop_of_length_le (by have:=HL.out;omega),qe]at hch;have HCH:=sqH hch;clear hch;go_wp2_with fail;go_ret;rw [HCH.out];exact⟨rfl,hbel⟩
end Go.Proofs.YtfmnggcfhalfnaaGreat
