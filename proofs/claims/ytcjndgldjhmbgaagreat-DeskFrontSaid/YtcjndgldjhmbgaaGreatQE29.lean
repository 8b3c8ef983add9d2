/- Lemmas, as stated. -/
import Derived.Test.YtcjndgldjhmbgaaGreatQE28
import Derived.Test.YtcjndgldjhmbgaaGreatQE27
set_option linter.unusedVariables false
set_option linter.unusedSimpArgs false
set_option maxRecDepth 100000
open Go.Proofs.Tryz renaming prog->zZZ
open Go.Value renaming slice->aw,int->ax,string->az
namespace Go.Proofs.YtcjndgldjhmbgaaGreat
open Go.RowKit Go.Maps
variable {up:Bool} {c:ColP} {g:List ac} {l:LoP} {base i m more n:Nat} {o:OrdP} {s t:StoP} {w:World} {k:ac}
structure RepP where
 err:Nat
 dig:ac
 data:ac
 parts:List PartP
 n:Nat
 who:List Int
abbrev Yi (e:Nat):RepP:=⟨e, [], [], [],0, []⟩
open Classical in
noncomputable def pbP (s:StoP) (c:ColP) (D:ac):StoP×ColP×ac×Nat :=
 if Fits s D then ((zG (zH s D) c [shaS D]).1,(zG (zH s D) c [shaS D]).2,shaS D,0) else (stZ,coZ, [],7)
def atB (s:StoP) (k:ac):Option (Nat×BlobP):=(s.aE.findIdx? (fun b=>b.dig==k)).bind fun i=>(s.aE[i]?).map fun b=>(i,b)
def atE (s:StoP) (k:ac):Option (Nat×EntP):=(s.aF.findIdx? (fun x=>x.key==k)).bind fun i=>(s.aF[i]?).map fun x=>(i,x)
def gbP (s:StoP) (k:ac):ac×Nat:=match atB s k with | some (_,b)=>(b.data,0) | none=>([],5)
def mvB (n:Nat) (up:Bool):Bool:=if up then decide (n<5) else decide (0<n)
noncomputable def hbP (s:StoP) (c:ColP) (k:ac) (up:Bool):StoP×ColP×Nat:=match atB s k with
 | some (i,b)=>if mvB b.pins up then ((zG (kf s i b (mvN b.pins up)) c [k]).1,(zG (kf s i b (mvN b.pins up)) c [k]).2,0) else (stZ,coZ,noE up)
 | none=>(stZ,coZ,5)
def gtP (s:StoP) (k:ac):StoP×List PartP×Nat:=match atE s k with | some (i,x)=>(kz s i x,x.parts,0) | none=>(stZ, [],5)
def heP (s:StoP) (k:ac) (up:Bool):StoP×Nat:=match atE s k with
 | some (i,x)=>if mvB x.pins up then (ZJ s i x (mvN x.pins up),0) else (stZ,noE up)
 | none=>(stZ,5)
noncomputable def evP (s:StoP) (n:Nat):StoP×Nat×Nat:=match yc n s with | some (t,g)=>(t,g.length,0) | none=>(stZ,0,10)
def ticks:Nat->StoP->ColP->Nat->StoP×ColP×Nat
 | 0,s,c,g=>(s,c,g)
 | n+1,s,c,g=>if c.aJ=0 then (s,c,g) else ticks n (q6 s c).1 (q6 s c).2.1 (g+if (q6 s c).2.2= [] then 0 else 1)
def zK (l:LoP) (s:StoP) (c:ColP) (e:Nat):LoP:=if e=0 then ⟨s,c,l.fs⟩ else l
def vm (l m:LoP) (e:Nat):LoP:=if e=0 then m else l
noncomputable def blobD (l:LoP) (o:OrdP):LoP×RepP :=
 if o.kind=1 then (zK l (pbP l.st l.co o.data).1 (pbP l.st l.co o.data).2.1 (pbP l.st l.co o.data).2.2.2,⟨(pbP l.st l.co o.data).2.2.2,(pbP l.st l.co o.data).2.2.1, [], [],0, []⟩)
 else if o.kind=2 then (l,⟨(gbP l.st o.dig).2, [],(gbP l.st o.dig).1, [],0, []⟩)
 else (zK l (hbP l.st l.co o.dig (decide (o.kind=3))).1 (hbP l.st l.co o.dig (decide (o.kind=3))).2.1 (hbP l.st l.co o.dig (decide (o.kind=3))).2.2,Yi (hbP l.st l.co o.dig (decide (o.kind=3))).2.2)
noncomputable def entD (l:LoP) (o:OrdP):LoP×RepP :=
 if o.kind=5 then (vm l (Vb l o.dig o.parts).1 (Vb l o.dig o.parts).2,Yi (Vb l o.dig o.parts).2)
 else if o.kind=6 then (zK l (gtP l.st o.dig).1 l.co (gtP l.st o.dig).2.2,⟨(gtP l.st o.dig).2.2, [], [],(gtP l.st o.dig).2.1,0, []⟩)
 else (zK l (heP l.st o.dig (decide (o.kind=7))).1 l.co (heP l.st o.dig (decide (o.kind=7))).2,Yi (heP l.st o.dig (decide (o.kind=7))).2)
noncomputable def roomD (l:LoP) (o:OrdP):LoP×RepP :=
 if o.kind=9 then (zK l (evP l.st o.n).1 l.co (evP l.st o.n).2.2,⟨(evP l.st o.n).2.2, [], [], [],(evP l.st o.n).2.1, []⟩)
 else if o.kind=10 then if l.co.aJ=0 then (⟨Xf l.st,Ur l.st,l.fs⟩,Yi 0) else (l,Yi 6)
 else if l.co.aJ=0 then (l,Yi 11)
 else (⟨(ticks o.n l.st l.co 0).1,(ticks o.n l.st l.co 0).2.1,l.fs⟩,⟨0, [], [], [],(ticks o.n l.st l.co 0).2.2, []⟩)
def xF (fs:List FlP) (k:ac):Bool:=fs.any fun f=>f.key==k
noncomputable def fliD (l:LoP) (o:OrdP):LoP×RepP :=
 if o.kind=12 then (vm l (Zc l o.dig o.n).1 (Zc l o.dig o.n).2.2.2,⟨(Zc l o.dig o.n).2.2.2, [], [],(Zc l o.dig o.n).2.1,if (Zc l o.dig o.n).2.2.2≠0 then 0 else if (Zc l o.dig o.n).2.2.1 then 1 else if xF (Zc l o.dig o.n).1.fs o.dig then 2 else 0, []⟩)
 else if o.kind=13 then (vm l (xj l o.dig o.parts).1 (xj l o.dig o.parts).2.2,⟨(xj l o.dig o.parts).2.2, [], [], [],0,(xj l o.dig o.parts).2.1⟩)
 else (vm l (xl l o.dig).1 (xl l o.dig).2.2,⟨(xl l o.dig).2.2, [], [], [],0,(xl l o.dig).2.1⟩)
noncomputable def qR (l:LoP) (o:OrdP):LoP×RepP :=
 if o.kind<=4 then blobD l o else if o.kind<=8 then entD l o else if o.kind<=11 then roomD l o else fliD l o
noncomputable def qP:LoP->List OrdP->LoP×List RepP
 | l, []=>(l, [])
 | l,o::os=>((qP (qR l o).1 os).1,(qR l o).2::(qP (qR l o).1 os).2)
theorem vL:∀(l:LoP) (a b:List OrdP),qP l (a++b)=((qP (qP l a).1 b).1,(qP l a).2++(qP (qP l a).1 b).2)
 | l, [],b=>rfl
 | l,o::a,b=>by
  show((qP (qR l o).1 (a++b)).1,(qR l o).2::(qP (qR l o).1 (a++b)).2)=_
  rw [vL (qR l o).1 a b]
  rfl
theorem ZY (l:LoP) (a:List OrdP) (o:OrdP):qP l (a++ [o])=((qR (qP l a).1 o).1,(qP l a).2++ [(qR (qP l a).1 o).2]):=vL l a [o]
theorem yK:∀(l:LoP) (a:List OrdP),(qP l a).2.length=a.length
 | l, []=>rfl
 | l,o::a=>by show(qP (qR l o).1 a).2.length+1=_;rw [yK _ a];rfl
theorem jL {b:BlobP} (h:atB s k=some (i,b)):∃hi:i<s.aE.length,s.aE[i]=b/\b.dig=k/\s.aE.findIdx? (fun b=>b.dig==k)=some i:=by
 unfold atB at h;cases hf:s.aE.findIdx? (fun b=>b.dig==k) with
 | none=>rw [hf]at h;cases h
 | some j =>
  obtain⟨hj,h1,_⟩:=List.findIdx?_eq_some_iff_getElem.1 hf;rw [hf]at h;simp only [Option.bind_some,List.getElem?_eq_getElem hj,Option.map_some,Option.some.injEq,Prod.mk.injEq]at h;obtain⟨rfl,rfl⟩:=h;exact⟨hj,rfl,by simpa using h1,rfl⟩
theorem QX (h:atB s k=none):∀b∈s.aE,b.dig≠k:=by
 unfold atB at h;cases hf:s.aE.findIdx? (fun b=>b.dig==k) with
 | none=>rw [List.findIdx?_eq_none_iff]at hf;exact fun b hb=>by simpa using hf b hb
 | some j =>
  obtain⟨hj,h1,_⟩:=List.findIdx?_eq_some_iff_getElem.1 hf;rw [hf]at h;simp [List.getElem?_eq_getElem hj]at h
theorem vC {x:EntP} (h:atE s k=some (i,x)):∃hi:i<s.aF.length,s.aF[i]=x/\x.key=k/\s.aF.findIdx? (fun x=>x.key==k)=some i:=by
 unfold atE at h;cases hf:s.aF.findIdx? (fun x=>x.key==k) with
 | none=>rw [hf]at h;cases h
 | some j =>
  obtain⟨hj,h1,_⟩:=List.findIdx?_eq_some_iff_getElem.1 hf;rw [hf]at h;simp only [Option.bind_some,List.getElem?_eq_getElem hj,Option.map_some,Option.some.injEq,Prod.mk.injEq]at h;obtain⟨rfl,rfl⟩:=h;exact⟨hj,rfl,by simpa using h1,rfl⟩
theorem QY (h:atE s k=none):∀x∈s.aF,x.key≠k:=by
 unfold atE at h;cases hf:s.aF.findIdx? (fun x=>x.key==k) with
 | none=>rw [List.findIdx?_eq_none_iff]at hf;exact fun b hb=>by simpa using hf b hb
 | some j =>
  obtain⟨hj,h1,_⟩:=List.findIdx?_eq_some_iff_getElem.1 hf;rw [hf]at h;simp [List.getElem?_eq_getElem hj]at h
theorem XG (hs:RisesBy (·.dig) s.aE) (ht:RisesBy (·.dig) t.aE) (h:GoodC s c) (hb:∀b∈t.aE,b∈s.aE) (hr:∀x∈rts t,x∈rts s):GoodC t c:=by
 have hm:∀x,InB t.aE x->x∈mkd s.aE->x∈mkd t.aE:=fun x ⟨b,hb1,hx⟩ hx2=>by
  obtain⟨a,ha,hm,e⟩:=qA.1 hx2;have:a=b:=hs.inj ha (hb b hb1) (e.trans hx.symm);subst this;exact qA.2 ⟨a,hb1,hm,e⟩
 refine⟨h.ph,h.gh,h.ris,h.ah,h.g0,h.a0,fun h1 x hx hi=> ?_,fun h1 b hb1 hm1 x hx hi=> ?_,fun h1 x hx=> ?_⟩
 ·exact(h.mr h1 x (hr x hx) (hi.sub hb)).imp (hm x hi) id
 ·rw [vG hs ht hb ⟨b,hb1,rfl⟩]at hx;exact(h.mb h1 b (hb b hb1) hm1 x hx (hi.sub hb)).imp (hm x hi) id
 ·exact hm x hx.inB (h.sw h1 x (hx.sub hs ht hb hr))
theorem z1j (hb:∀b∈t.aE,b∈s.aE) (he:∀x∈t.aF,x∈s.aF):∀x∈rts t,x∈rts s:=fun x hx=>by
 rcases List.mem_append.1 hx with h1 | h1
 ·obtain⟨y,hy,h2⟩:=List.mem_flatMap.1 h1
  exact List.mem_append_left _ (List.mem_flatMap.2 ⟨y,he y hy,h2⟩)
 ·obtain⟨b,hb1,rfl⟩:=List.mem_map.1 h1
  obtain⟨h2,h3⟩:=List.mem_filter.1 hb1
  exact List.mem_append_right _ (List.mem_map.2 ⟨b,List.mem_filter.2 ⟨hb b h2,h3⟩,rfl⟩)
theorem Kb:∀(n:Nat) (s t:StoP) (g g':List ac),uM more n s g=some (t,g')->t.aE.Sublist s.aE/\t.aF.Sublist s.aF
 | 0,s,t,g,g',h=>by unfold uM at h;cases h
 | n+1,s,t,g,g',h=>by
  unfold uM at h
  split at h
  ·cases h;exact⟨.refl _,.refl _⟩
  ·split at h
   ·cases h
   ·split at h
    ·cases h
    ·rename_i i _ x _
     obtain⟨a,b⟩:=Kb n _ t _ g' h
     exact⟨a.trans (List.filter_sublist),b.trans (List.eraseIdx_sublist ..)⟩
theorem Xz (h:yc more s=some (t,g)):t.aE.Sublist s.aE/\t.aF.Sublist s.aF:=by
 unfold yc at h;split at h
 ·cases h;exact⟨.refl _,.refl _⟩
 ·obtain⟨a,b⟩:=Kb _ _ _ _ _ h;exact⟨a.trans List.filter_sublist,b⟩
theorem Xx:∀(n:Nat) (s t:StoP) (g g':List ac),uM more n s g=some (t,g')->t.aH=s.aH/\t.aG=s.aG
 | 0,s,t,g,g',h=>by unfold uM at h;cases h
 | n+1,s,t,g,g',h=>by
  unfold uM at h
  split at h
  ·cases h;exact⟨rfl,rfl⟩
  ·split at h
   ·cases h
   ·split at h
    ·cases h
    ·obtain⟨a,b⟩:=Xx n _ t _ g' h
     exact⟨a,b⟩
theorem UC (h:yc more s=some (t,g)):t.aH=s.aH/\t.aG=s.aG:=by
 unfold yc at h;split at h
 ·cases h;exact⟨rfl,rfl⟩
 ·obtain⟨a,b⟩:=Xx _ _ _ _ _ h;exact⟨a,b⟩
theorem Bsy.of (h:Bsy m s c) (hg:GoodS t) (hc:GoodC t c) (hu:unm t.aE<=unm s.aE) (hk:∀x∈t.aF,∃y∈s.aF,y.key=x.key) (hck:t.aG<=s.aG):Bsy m t c :=
 ⟨hg,hc,by have:=h.gr;omega,fun x hx=>by obtain⟨y,hy,e⟩:=hk x hx;rw [<-e];exact h.k7 y hy,by have:=h.ck;omega⟩
theorem LInv.keep (h:LInv m l) (hb:Bsy m s c) (hk:∀x∈s.aF,∃y∈l.st.aF,y.key=x.key):LInv m ⟨s,c,l.fs⟩ :=
 ⟨hb,h.f,fun p hp x hx=>by obtain⟨y,hy,e⟩:=hk x hx;rw [<-e];exact h.ap p hp y hy,h.k7⟩
theorem Bsy.ticks:∀(n:Nat) (s:StoP) (c:ColP) (g:Nat),Bsy m s c->Bsy m (ticks n s c g).1 (ticks n s c g).2.1/\(ticks n s c g).1.aF=s.aF
 | 0,s,c,g,h=>⟨h,rfl⟩
 | n+1,s,c,g,h=>by
  unfold Go.Proofs.YtcjndgldjhmbgaaGreat.ticks
  by_cases hp:c.aJ=0
  ·rw [if_pos hp];exact⟨h,rfl⟩
  ·rw [if_neg hp]
   have hp2:c.aJ=1\/c.aJ=2:=by have:=h.gc.ph;omega
   obtain⟨h1,h2,_,h4,h5,h6⟩:=Q1 h.g h.gc hp2
   have h7:=Q2 s c
   obtain⟨a,b⟩:=Bsy.ticks n (q6 s c).1 (q6 s c).2.1 (g+if (q6 s c).2.2= [] then 0 else 1) ⟨h1,h2,by have:=h.gr;omega,by rw [h4];exact h.k7,by rw [h6];exact h.ck⟩
   exact⟨a,b.trans h4⟩
theorem Jx (s:StoP) (c:ColP) (ds:List ac):(zG s c ds).1.aF=s.aF:=by rw [kD]
theorem Y9 (hi:i<s.aF.length):rts (ZJ s i s.aF[i] n)=rts s:=by
 show uz (s.aF.set i { s.aF[i] with pins:=n })++uI s.aE=uz s.aF++uI s.aE;rw [Kr (x:= { s.aF[i] with pins:=n }) hi rfl]
theorem XX (h:mvB n up=true) (h5:n<=5):mvN n up<=5:=by
 unfold mvB at h;unfold mvN;cases up<;>simp at h ⊢ <;> omega
theorem Jz (up:Bool):noE up≠0:=by cases up<;>decide
theorem z0z {D:ac} (hg:GoodS s) (hd:D.length<=300) (h:¬Fits s D):QU s D:=(z10 hg hd).resolve_left h
theorem LInv.blobD (h:LInv m l) (ho:GoodD o):LInv (m+1) (blobD l o).1:=by
 have hu:=h.up (Nat.le_succ m);unfold Go.Proofs.YtcjndgldjhmbgaaGreat.blobD;by_cases h1:o.kind=1
 ·rw [if_pos h1];show LInv _ (zK _ _ _ _);unfold pbP zK;by_cases hf:Fits l.st o.data
  ·rw [if_pos hf,if_pos rfl];exact hu.keep (h.b.put hf) fun x hx=>⟨x,by rwa [Jx]at hx,rfl⟩
  ·rw [if_neg hf,if_neg ws];exact hu
 ·rw [if_neg h1];by_cases h2:o.kind=2
  ·rw [if_pos h2];exact hu
  ·rw [if_neg h2];show LInv _ (zK _ _ _ _);unfold hbP;cases hat:atB l.st o.dig with
   | none =>
    show LInv _ (zK l stZ coZ 5);unfold zK;rw [if_neg wo];exact hu
   | some ib =>
    obtain⟨i,b⟩:=ib;obtain⟨hi,rfl,hk,_⟩:=jL hat
    dsimp only;by_cases hmv:mvB l.st.aE[i].pins (decide (o.kind=3))=true
    ·rw [if_pos hmv];show LInv _ (zK l _ _ 0);unfold zK;rw [if_pos rfl,<-hk];exact hu.keep (h.b.hold hi (XX hmv ((h.b.g.b.one _ (List.getElem_mem hi)).2.2))) fun x hx=>⟨x,by rwa [Jx]at hx,rfl⟩
    ·rw [if_neg hmv];show LInv _ (zK l stZ coZ (noE _));unfold zK;rw [if_neg (Jz _)];exact hu
theorem LInv.entD (h:LInv m l) (hm:m<=78) (ho:GoodD o) (h58:5<=o.kind/\o.kind<=8):LInv (m+1) (entD l o).1:=by
 have hu:=h.up (Nat.le_succ m);unfold Go.Proofs.YtcjndgldjhmbgaaGreat.entD;by_cases h1:o.kind=5
 ·rw [if_pos h1];show LInv _ (vm _ _ _);unfold vm;split
  ·rename_i h0;exact h.put hm (ho.k7 (.inl h58)) ho.g.p1 h0
  ·exact hu
 ·rw [if_neg h1];by_cases h2:o.kind=6
  ·rw [if_pos h2];show LInv _ (zK _ _ _ _);unfold gtP;cases hat:atE l.st o.dig with
   | none =>
    show LInv _ (zK l stZ l.co 5);unfold zK;rw [if_neg wo];exact hu
   | some ix =>
    obtain⟨i,x⟩:=ix;obtain⟨hi,rfl,hk,_⟩:=vC hat
    show LInv _ (zK l _ l.co 0);unfold zK;rw [if_pos rfl];exact h.get wj hi
  ·rw [if_neg h2];show LInv _ (zK _ _ _ _);unfold heP;cases hat:atE l.st o.dig with
   | none =>
    show LInv _ (zK l stZ l.co 5);unfold zK;rw [if_neg wo];exact hu
   | some ix =>
    obtain⟨i,x⟩:=ix;obtain⟨hi,rfl,hk,_⟩:=vC hat
    dsimp only;by_cases hmv:mvB l.st.aF[i].pins (decide (o.kind=7))=true
    ·rw [if_pos hmv];show LInv _ (zK l _ _ 0);unfold zK;rw [if_pos rfl];have hkx:∀x∈(ZJ l.st i l.st.aF[i] (mvN l.st.aF[i].pins (decide (o.kind=7)))).aF,∃y∈l.st.aF,y.key=x.key:=fun x hx=>yW (x:= { l.st.aF[i] with pins:=mvN l.st.aF[i].pins (decide (o.kind=7)) }) hi rfl hx;exact hu.keep (hu.b.of (Qs h.b.g hi (XX hmv ((h.b.g.e.one _ (List.getElem_mem hi)).2.2.1))) (xO h.b.gc rfl fun x hx=>by rwa [Y9 hi]at hx) ab hkx ab) hkx
    ·rw [if_neg hmv];show LInv _ (zK l stZ _ (noE _));unfold zK;rw [if_neg (Jz _)];exact hu
theorem LInv.roomD (h:LInv m l):LInv m (roomD l o).1:=by
 unfold Go.Proofs.YtcjndgldjhmbgaaGreat.roomD;by_cases h1:o.kind=9
 ·rw [if_pos h1];show LInv _ (zK _ _ _ _);unfold evP;cases he:yc o.n l.st with
  | none =>
   show LInv m (zK l stZ l.co 10);unfold zK;rw [if_neg wo];exact h
  | some tg =>
   obtain⟨t,g⟩:=tg;show LInv m (zK l t l.co 0);unfold zK;rw [if_pos rfl];obtain⟨a1,_,_,_,a5⟩:=j9 h.b.g he;obtain⟨b1,b2⟩:=Xz he;exact h.keep (h.b.of a1 (XG h.b.g.b.ris a1.b.ris h.b.gc (fun b hb=>b1.subset hb) (z1j (fun b hb=>b1.subset hb) fun x hx=>b2.subset hx)) ((b1.filter _).length_le) (fun x hx=>⟨x,b2.subset hx,rfl⟩) (by rw [a5];exact Nat.le_refl _)) fun x hx=>⟨x,b2.subset hx,rfl⟩
 ·rw [if_neg h1];by_cases h2:o.kind=10
  ·rw [if_pos h2];split
   ·exact h.keep h.b.begin fun x hx=>⟨x,hx,rfl⟩
   ·exact h
  ·rw [if_neg h2];split
   ·exact h
   ·obtain⟨a,b⟩:=Bsy.ticks o.n l.st l.co 0 h.b;exact h.keep a fun x hx=>⟨x,by rwa [b]at hx,rfl⟩
theorem LInv.fliD (h:LInv m l) (hm:m<=78) (ho:GoodD o) (h12:12<=o.kind):LInv (m+1) (fliD l o).1:=by
 have hu:=h.up (Nat.le_succ m);unfold Go.Proofs.YtcjndgldjhmbgaaGreat.fliD;by_cases h1:o.kind=12
 ·rw [if_pos h1];show LInv _ (vm _ _ _);unfold vm;split
  ·rename_i h0;exact h.ask hm (ho.k7 (.inr h12)) (by have:=(ho.ask h1).1;omega) (by have:=(ho.ask h1).2;omega) h0
  ·exact hu
 ·rw [if_neg h1];by_cases h2:o.kind=13
  ·rw [if_pos h2];show LInv _ (vm _ _ _);unfold vm;split
   ·rename_i h0;exact h.done hm (ho.k7 (.inr h12)) ho.g.p1 h0
   ·exact hu
  ·rw [if_neg h2];show LInv _ (vm _ _ _);unfold vm;split
   ·rename_i h0;exact h.fail h0
   ·exact hu
theorem LInv.step (h:LInv m l) (hm:m<=78) (ho:GoodD o):LInv (m+1) (qR l o).1:=by
 unfold qR;split
 ·exact h.blobD ho
 ·split
  ·exact h.entD hm ho wj
  ·split
   ·exact h.roomD.up (Nat.le_succ m)
   ·exact h.fliD hm ho wj
theorem LInv.run:∀ {m:Nat} {l:LoP} {os:List OrdP},LInv m l->m+os.length<=79->(∀o∈os,GoodD o)->LInv (m+os.length) (qP l os).1
 | m,l, [],h,_,_=>h
 | m,l,o::os,h,hm,ho=>by
  simp only [List.length_cons]at hm ⊢
  have:=(h.step wj (ho o (List.mem_cons_self ..))).run (os:=os) wj fun x hx=>ho x (List.mem_cons_of_mem _ hx)
  rw [show m+(os.length+1)=m+1+os.length by omega]
  exact this
abbrev lo0 (aH:Nat):LoP:=⟨⟨[], [],aH,0⟩,⟨0, [], []⟩, []⟩
theorem LInv.zero {aH:Nat} (h:aH<=4000):LInv 0 (lo0 aH):=by
 have hg:GoodS ⟨[], [],aH,0⟩:=⟨⟨ws,(fun b hb=>by cases hb),List.Pairwise.nil⟩,⟨ws,(fun b hb=>by cases hb),List.Pairwise.nil⟩,h,by simp [usd],ws,(fun x hx=>by cases hx)⟩
 have hc:GoodC ⟨[], [],aH,0⟩ ⟨0, [], []⟩:=⟨ws,(fun d hd=>by cases hd),List.Pairwise.nil,.inl rfl,fun _=>rfl,fun _=>rfl,(fun h=>by cases h),(fun h=>by cases h),(fun h=>by cases h)⟩
 exact⟨⟨hg,hc,by simp [unm],(fun x hx=>by cases hx),ws⟩,GoodF.nil_,(fun p hp=>by cases hp),(fun p hp=>by cases hp)⟩
abbrev z1p (A:ae) (c:Nat) (B:ae) (d:Nat) (s:StoP):Value:= .agg #[aw A s.aE.length c,aw B s.aF.length d,ax .i64 s.aH,ax .i64 s.aG]
structure OwSC (w:World) (base:Nat) (v1 v2 v3:Value) (s:StoP) (c:ColP):Prop where
 s:OwSt w base v1 v2 s (fun b=>b<base)
 c:w.ownsRow base 9 1 v3 c.aI.length (strs c.aI)
theorem OwSt.z_ {N:ai}:OwSt w base (aw none 0 0) (aw none 0 0) stZ N:=OwLo.nil_.s
theorem OwSC.z_:OwSC w base (aw none 0 0) (aw none 0 0) (aw none 0 0) stZ coZ:=⟨.z_,World.ownsRow_nil _ _ _ _⟩
theorem Vu {v1 v2:Value} (h:t.aH=s.aH/\t.aG=s.aG):stV v1 v2 t=stV v1 v2 s:=by
 show Value.agg _=_;rw [h.1,h.2]
section
variable (A:ae) (c:Nat) (B:ae) (d:Nat) (s:StoP) (Ag:ae) (ng:Nat) (cp:ColP) (w:World)
theorem VN (D:ac) (DA:ae) (dc:Nat) (hg:GoodS s) (hr:RdSt w A c B d s) (hgl:cp.aI.length<=1000) (hgc:GoodC s cp) (hc:RdC w Ag ng cp) (hd:D.length<=300) (hD:Sl w 1 DA D.length dc (bys D)) :
  Calls zZZ 122 #[z1p A c B d s,coV (aw Ag cp.aI.length ng) cp,aw DA D.length dc] w fun e w' =>
   ∃v1 v2 v3,e= .returned (.tuple #[stV v1 v2 (pbP s cp D).1,coV v3 (pbP s cp D).2.1,az ⟨(pbP s cp D).2.2.1.toArray⟩,ax .i64 ((pbP s cp D).2.2.2:Int)])/\OwSC w' w.heap.size v1 v2 v3 (pbP s cp D).1 (pbP s cp D).2.1/\Below w.heap.size w w':=by
 unfold pbP;by_cases hf:Fits s D
 ·rw [if_pos hf];refine(Q6 A c B d s Ag ng cp D DA dc w hg hr hgl hgc hc hf hD).mono ?_;rintro e w' ⟨v1,v2,v3,rfl,h1,h2,h3⟩;exact⟨v1,v2,v3,by rw [Vu (jX (zH s D) cp [shaS D])];rfl,⟨h1,h2⟩,h3⟩
 ·rw [if_neg hf];refine(jD A c B d s Ag ng cp D DA dc w hg hr hgl hgc hc hd (z0z hg hd hf) hD).mono ?_;rintro e w' ⟨rfl,h3⟩;exact⟨_,_,_,rfl,.z_,h3⟩
theorem VM (k:ac) (hg:GoodS s) (hr:RdSt w A c B d s) :
  Calls zZZ 124 #[z1p A c B d s,az ⟨k.toArray⟩] w fun e w' =>
   ∃v,e= .returned (.tuple #[v,ax .i64 ((gbP s k).2:Int)])/\w'.ownsRow w.heap.size 5 1 v (gbP s k).1.length (bys (gbP s k).1)/\Below w.heap.size w w':=by
 unfold gbP;cases hat:atB s k with
 | none =>
  refine(Zi A c B d s k w hg hr (QX hat)).mono ?_;rintro e w' ⟨rfl,h3⟩;exact⟨_,rfl,World.ownsRow_nil _ _ _ _,h3⟩
 | some ib =>
  obtain⟨i,b⟩:=ib;obtain⟨hi,rfl,hk,_⟩:=jL hat
  refine(KL A c B d s k i w hg hr hi hk).mono ?_;rintro e w' ⟨v,rfl,h2,h3⟩;exact⟨v,rfl,h2,h3⟩
theorem UV (h5:n<=5):(mvB n up=true->if up then n<5 else 0<n/\n<=5)/\(¬mvB n up=true->if up then n=5 else n=0):=by
 unfold mvB;cases up<;>simp<;>omega
theorem YB (k:ac) (up:Bool) (hg:GoodS s) (hr:RdSt w A c B d s) (hgl:cp.aI.length<=1000) (hgc:GoodC s cp) (hc:RdC w Ag ng cp) :
  Calls zZZ 125 #[z1p A c B d s,coV (aw Ag cp.aI.length ng) cp,az ⟨k.toArray⟩,.bool up] w fun e w' =>
   ∃v1 v2 v3,e= .returned (.tuple #[stV v1 v2 (hbP s cp k up).1,coV v3 (hbP s cp k up).2.1,ax .i64 ((hbP s cp k up).2.2:Int)])/\OwSC w' w.heap.size v1 v2 v3 (hbP s cp k up).1 (hbP s cp k up).2.1/\Below w.heap.size w w':=by
 unfold hbP;cases hat:atB s k with
 | none =>
  refine(QO A c B d s Ag ng cp k up 5 w hg hr hgl hgc hc wo fun W h=>KM A c B d s k up W hg h (QX hat)).mono ?_;rintro e w' ⟨rfl,h3⟩;exact⟨_,_,_,rfl,.z_,h3⟩
 | some ib =>
  obtain⟨i,b⟩:=ib;obtain⟨hi,rfl,hk,_⟩:=jL hat
  dsimp only;have h5:=(hg.b.one _ (List.getElem_mem hi)).2.2;by_cases hmv:mvB s.aE[i].pins up=true
  ·rw [if_pos hmv];refine(VI A c B d s Ag ng cp k up i w hg hr hgl hgc hc hi hk ((UV h5).1 hmv) _ rfl (ur hg hi (XX hmv h5))).mono ?_;rintro e w' ⟨v1,v2,v3,rfl,h1,h2,h3⟩;exact⟨v1,v2,v3,by rw [Vu (jX _ cp [k])];rfl,⟨h1,h2⟩,h3⟩
  ·rw [if_neg hmv];refine(QO A c B d s Ag ng cp k up (noE up:Int) w hg hr hgl hgc hc (bne_iff_ne.1 (XZ up)) fun W h=>U2 A c B d s k up i W hg h hi hk ((UV h5).2 hmv)).mono ?_;rintro e w' ⟨rfl,h3⟩;exact⟨_,_,_,rfl,.z_,h3⟩
theorem z4q (k:ac) (hg:GoodS s) (hr:RdSt w A c B d s) (hck:s.aG<1099511627776) :
  Calls zZZ 128 #[z1p A c B d s,az ⟨k.toArray⟩] w fun e w' =>
   ∃v1 v2 vp,e= .returned (.tuple #[stV v1 v2 (gtP s k).1,vp,ax .i64 ((gtP s k).2.2:Int)])/\OwSt w' w.heap.size v1 v2 (gtP s k).1 (fun b=>b<w.heap.size)/\w'.ownsRow w.heap.size 51 3 vp (gtP s k).2.1.length (pcs (gtP s k).2.1)/\Below w.heap.size w w':=by
 unfold gtP;cases hat:atE s k with
 | none =>
  refine(YH A c B d s k w hg hr (QY hat)).mono ?_;rintro e w' ⟨rfl,h3⟩;exact⟨_,_,_,rfl,.z_,World.ownsRow_nil _ _ _ _,h3⟩
 | some ib =>
  obtain⟨i,b⟩:=ib;obtain⟨hi,rfl,hk,_⟩:=vC hat
  refine(U0 A c B d s (kz s i s.aF[i]) k s.aF[i].parts i w hg hr hi hk rfl hck rfl).mono ?_;rintro e w' ⟨A',c',B',d',A5,c5,rfl,h1,h2,h3⟩;exact⟨_,_,_,rfl,h1,h2,h3⟩
theorem z40 (k:ac) (up:Bool) (hg:GoodS s) (hr:RdSt w A c B d s) :
  Calls zZZ 129 #[z1p A c B d s,az ⟨k.toArray⟩,.bool up] w fun e w' =>
   ∃v1 v2,e= .returned (.tuple #[stV v1 v2 (heP s k up).1,ax .i64 ((heP s k up).2:Int)])/\OwSt w' w.heap.size v1 v2 (heP s k up).1 (fun b=>b<w.heap.size)/\Below w.heap.size w w':=by
 unfold heP;cases hat:atE s k with
 | none =>
  refine(KN A c B d s k up w hg hr (QY hat)).mono ?_;rintro e w' ⟨rfl,h3⟩;exact⟨_,_,rfl,.z_,h3⟩
 | some ib =>
  obtain⟨i,b⟩:=ib;obtain⟨hi,rfl,hk,_⟩:=vC hat
  dsimp only;have h5:=(hg.e.one _ (List.getElem_mem hi)).2.2.1;by_cases hmv:mvB s.aF[i].pins up=true
  ·rw [if_pos hmv];refine(U5 A c B d s k up i w hg hr hi hk ((UV h5).1 hmv)).mono ?_;rintro e w' ⟨v1,v2,rfl,h1,h3⟩;exact⟨v1,v2,rfl,h1,h3⟩
  ·rw [if_neg hmv];refine(U4 A c B d s k up i w hg hr hi hk ((UV h5).2 hmv)).mono ?_;rintro e w' ⟨rfl,h3⟩;exact⟨_,_,rfl,.z_,h3⟩
end
end Go.Proofs.YtcjndgldjhmbgaaGreat
