/- Lemmas, as stated. -/
import Derived.Test.YtaboknhfiijipaaGreatQT22
import Derived.Test.YtaboknhfiijipaaGreatQT23
import Derived.Test.YtaboknhfiijipaaGreatQT24
set_option linter.unusedVariables false
set_option linter.unusedSimpArgs false
open Option renaming some->aD
namespace Go.Proofs.YtaboknhfiijipaaGreat
open Go.RowKit Go.Maps
variable {c:ColP} {fs:List FlP} {g:List ae} {l:LoP} {i j m more n:Nat} {o:OrdP} {s t:StoP} {k:ae}
structure RepP where
 err:Nat
 dig:ae
 data:ae
 aM:List PartP
 n:Nat
 who:List Int
abbrev KJ (e:Nat):RepP:=⟨e, [], [], [],0, []⟩
open Classical in
noncomputable def pbP (s:StoP) (c:ColP) (D:ae):StoP×ColP×ae×Nat :=
 if Fits s D then ((zG (zI s D) c [shaS D]).1,(zG (zI s D) c [shaS D]).2,shaS D,0) else (stZ,coZ, [],7)
def atB (s:StoP) (k:ae):Option (Nat×BlobP):=(s.aF.findIdx? (fun b=>b.dig==k)).bind fun i=>(s.aF[i]?).map fun b=>(i,b)
def atE (s:StoP) (k:ae):Option (Nat×EntP):=(s.aG.findIdx? (fun x=>x.key==k)).bind fun i=>(s.aG[i]?).map fun x=>(i,x)
def gbP (s:StoP) (k:ae):ae×Nat:=match atB s k with | some (_,b)=>(b.data,0) | none=>([],5)
def mvB (n:Nat) (up:Bool):Bool:=if up then decide (n<5) else decide (0<n)
noncomputable def hbP (s:StoP) (c:ColP) (k:ae) (up:Bool):StoP×ColP×Nat:=match atB s k with
 | some (i,b)=>if mvB b.aN up then ((zG (ka s i b (mvN b.aN up)) c [k]).1,(zG (ka s i b (mvN b.aN up)) c [k]).2,0) else (stZ,coZ,noE up)
 | none=>(stZ,coZ,5)
def gtP (s:StoP) (k:ae):StoP×List PartP×Nat:=match atE s k with | some (i,x)=>(kr s i x,x.aM,0) | none=>(stZ, [],5)
def heP (s:StoP) (k:ae) (up:Bool):StoP×Nat:=match atE s k with
 | some (i,x)=>if mvB x.aN up then (Zl s i x (mvN x.aN up),0) else (stZ,noE up)
 | none=>(stZ,5)
noncomputable def evP (s:StoP) (n:Nat):StoP×Nat×Nat:=match ya n s with | some (t,g)=>(t,g.length,0) | none=>(stZ,0,10)
def ticks:Nat->StoP->ColP->Nat->StoP×ColP×Nat
 | 0,s,c,g=>(s,c,g)
 | n+1,s,c,g=>if c.aK=0 then (s,c,g) else ticks n (qD s c).1 (qD s c).2.1 (g+if (qD s c).2.2= [] then 0 else 1)
def zH (l:LoP) (s:StoP) (c:ColP) (e:Nat):LoP:=if e=0 then ⟨s,c,l.fs⟩ else l
def xE (l m:LoP) (e:Nat):LoP:=if e=0 then m else l
noncomputable def blobD (l:LoP) (o:OrdP):LoP×RepP :=
 if o.kind=1 then (zH l (pbP l.st l.co o.data).1 (pbP l.st l.co o.data).2.1 (pbP l.st l.co o.data).2.2.2,⟨(pbP l.st l.co o.data).2.2.2,(pbP l.st l.co o.data).2.2.1, [], [],0, []⟩)
 else if o.kind=2 then (l,⟨(gbP l.st o.dig).2, [],(gbP l.st o.dig).1, [],0, []⟩)
 else (zH l (hbP l.st l.co o.dig (decide (o.kind=3))).1 (hbP l.st l.co o.dig (decide (o.kind=3))).2.1 (hbP l.st l.co o.dig (decide (o.kind=3))).2.2,KJ (hbP l.st l.co o.dig (decide (o.kind=3))).2.2)
noncomputable def entD (l:LoP) (o:OrdP):LoP×RepP :=
 if o.kind=5 then (xE l (KY l o.dig o.aM).1 (KY l o.dig o.aM).2,KJ (KY l o.dig o.aM).2)
 else if o.kind=6 then (zH l (gtP l.st o.dig).1 l.co (gtP l.st o.dig).2.2,⟨(gtP l.st o.dig).2.2, [], [],(gtP l.st o.dig).2.1,0, []⟩)
 else (zH l (heP l.st o.dig (decide (o.kind=7))).1 l.co (heP l.st o.dig (decide (o.kind=7))).2,KJ (heP l.st o.dig (decide (o.kind=7))).2)
noncomputable def roomD (l:LoP) (o:OrdP):LoP×RepP :=
 if o.kind=9 then (zH l (evP l.st o.n).1 l.co (evP l.st o.n).2.2,⟨(evP l.st o.n).2.2, [], [], [],(evP l.st o.n).2.1, []⟩)
 else if o.kind=10 then if l.co.aK=0 then (⟨YE l.st,VN l.st,l.fs⟩,KJ 0) else (l,KJ 6)
 else if l.co.aK=0 then (l,KJ 11)
 else (⟨(ticks o.n l.st l.co 0).1,(ticks o.n l.st l.co 0).2.1,l.fs⟩,⟨0, [], [], [],(ticks o.n l.st l.co 0).2.2, []⟩)
def kB (fs:List FlP) (k:ae):Bool:=fs.any fun f=>f.key==k
noncomputable def fliD (l:LoP) (o:OrdP):LoP×RepP :=
 if o.kind=12 then (xE l (uu l o.dig o.n).1 (uu l o.dig o.n).2.2.2,⟨(uu l o.dig o.n).2.2.2, [], [],(uu l o.dig o.n).2.1,if (uu l o.dig o.n).2.2.2≠0 then 0 else if (uu l o.dig o.n).2.2.1 then 1 else if kB (uu l o.dig o.n).1.fs o.dig then 2 else 0, []⟩)
 else if o.kind=13 then (xE l (kC l o.dig o.aM).1 (kC l o.dig o.aM).2.2,⟨(kC l o.dig o.aM).2.2, [], [], [],0,(kC l o.dig o.aM).2.1⟩)
 else (xE l (yG l o.dig).1 (yG l o.dig).2.2,⟨(yG l o.dig).2.2, [], [], [],0,(yG l o.dig).2.1⟩)
noncomputable def qQ (l:LoP) (o:OrdP):LoP×RepP :=
 if o.kind<=4 then blobD l o else if o.kind<=8 then entD l o else if o.kind<=11 then roomD l o else fliD l o
noncomputable def kg:LoP->List OrdP->LoP×List RepP
 | l, []=>(l, [])
 | l,o::os=>((kg (qQ l o).1 os).1,(qQ l o).2::(kg (qQ l o).1 os).2)
theorem jH:∀(l:LoP) (a b:List OrdP),kg l (a++b)=((kg (kg l a).1 b).1,(kg l a).2++(kg (kg l a).1 b).2)
 | l, [],b=>rfl
 | l,o::a,b=>by
  show((kg (qQ l o).1 (a++b)).1,(qQ l o).2::(kg (qQ l o).1 (a++b)).2)=_
  rw [jH (qQ l o).1 a b]
  rfl
theorem ZA (l:LoP) (a:List OrdP) (o:OrdP):kg l (a++ [o])=((qQ (kg l a).1 o).1,(kg l a).2++ [(qQ (kg l a).1 o).2]):=jH l a [o]
theorem vB:∀(l:LoP) (a:List OrdP),(kg l a).2.length=a.length
 | l, []=>rfl
 | l,o::a=>by show(kg (qQ l o).1 a).2.length+1=_;rw [vB _ a];rfl
theorem jq {b:BlobP} (h:atB s k=aD (i,b)):∃hi:i<s.aF.length,s.aF[i]=b/\b.dig=k/\s.aF.findIdx? (fun b=>b.dig==k)=aD i:=by
 unfold atB at h;cases hf:s.aF.findIdx? (fun b=>b.dig==k) with
 | none=>rw [hf]at h;cases h
 | some j =>
  obtain⟨hj,h1,_⟩:=List.findIdx?_eq_some_iff_getElem.1 hf;rw [hf]at h;simp only [Option.bind_some,List.getElem?_eq_getElem hj,Option.map_some,Option.some.injEq,Prod.mk.injEq]at h;obtain⟨rfl,rfl⟩:=h;exact⟨hj,rfl,by simpa using h1,rfl⟩
theorem Qv (h:atB s k=none):∀b∈s.aF,b.dig≠k:=by
 unfold atB at h;cases hf:s.aF.findIdx? (fun b=>b.dig==k) with
 | none=>rw [List.findIdx?_eq_none_iff]at hf;exact fun b hb=>by simpa using hf b hb
 | some j =>
  obtain⟨hj,h1,_⟩:=List.findIdx?_eq_some_iff_getElem.1 hf;rw [hf]at h;simp [List.getElem?_eq_getElem hj]at h
theorem vq {x:EntP} (h:atE s k=aD (i,x)):∃hi:i<s.aG.length,s.aG[i]=x/\x.key=k/\s.aG.findIdx? (fun x=>x.key==k)=aD i:=by
 unfold atE at h;cases hf:s.aG.findIdx? (fun x=>x.key==k) with
 | none=>rw [hf]at h;cases h
 | some j =>
  obtain⟨hj,h1,_⟩:=List.findIdx?_eq_some_iff_getElem.1 hf;rw [hf]at h;simp only [Option.bind_some,List.getElem?_eq_getElem hj,Option.map_some,Option.some.injEq,Prod.mk.injEq]at h;obtain⟨rfl,rfl⟩:=h;exact⟨hj,rfl,by simpa using h1,rfl⟩
theorem Qw (h:atE s k=none):∀x∈s.aG,x.key≠k:=by
 unfold atE at h;cases hf:s.aG.findIdx? (fun x=>x.key==k) with
 | none=>rw [List.findIdx?_eq_none_iff]at hf;exact fun b hb=>by simpa using hf b hb
 | some j =>
  obtain⟨hj,h1,_⟩:=List.findIdx?_eq_some_iff_getElem.1 hf;rw [hf]at h;simp [List.getElem?_eq_getElem hj]at h
theorem X8 (hs:RisesBy (·.dig) s.aF) (ht:RisesBy (·.dig) t.aF) (h:GoodC s c) (hb:∀b∈t.aF,b∈s.aF) (hr:∀x∈rts t,x∈rts s):GoodC t c:=by
 have hm:∀x,InB t.aF x->x∈mkd s.aF->x∈mkd t.aF:=fun x ⟨b,hb1,hx⟩ hx2=>by
  obtain⟨a,ha,hm,e⟩:=qB.1 hx2;have:a=b:=hs.inj ha (hb b hb1) (e.trans hx.symm);subst this;exact qB.2 ⟨a,hb1,hm,e⟩
 refine⟨h.ph,h.gh,h.ris,h.ah,h.g0,h.a0,fun h1 x hx hi=> ?_,fun h1 b hb1 hm1 x hx hi=> ?_,fun h1 x hx=> ?_⟩
 ·exact(h.mr h1 x (hr x hx) (hi.sub hb)).imp (hm x hi) id
 ·rw [vw hs ht hb ⟨b,hb1,rfl⟩]at hx;exact(h.mb h1 b (hb b hb1) hm1 x hx (hi.sub hb)).imp (hm x hi) id
 ·exact hm x hx.inB (h.sw h1 x (hx.sub hs ht hb hr))
theorem z0b (hb:∀b∈t.aF,b∈s.aF) (he:∀x∈t.aG,x∈s.aG):∀x∈rts t,x∈rts s:=fun x hx=>by
 rcases List.mem_append.1 hx with h1 | h1
 ·obtain⟨y,hy,h2⟩:=List.mem_flatMap.1 h1
  exact List.mem_append_left _ (List.mem_flatMap.2 ⟨y,he y hy,h2⟩)
 ·obtain⟨b,hb1,rfl⟩:=List.mem_map.1 h1
  obtain⟨h2,h3⟩:=List.mem_filter.1 hb1
  exact List.mem_append_right _ (List.mem_map.2 ⟨b,List.mem_filter.2 ⟨hb b h2,h3⟩,rfl⟩)
theorem QI {more:Nat}:∀(n:Nat) (s t:StoP) (g g':List ae),uw more n s g=aD (t,g')->t.aF.Sublist s.aF/\t.aG.Sublist s.aG
 | 0,s,t,g,g',h=>by unfold uw at h;cases h
 | n+1,s,t,g,g',h=>by
  unfold uw at h
  split at h
  ·cases h;exact⟨.refl _,.refl _⟩
  ·split at h
   ·cases h
   ·split at h
    ·cases h
    ·rename_i i _ x _
     obtain⟨a,b⟩:=QI n _ t _ g' h
     exact⟨a.trans (List.filter_sublist),b.trans (List.eraseIdx_sublist ..)⟩
theorem YY (h:ya more s=aD (t,g)):t.aF.Sublist s.aF/\t.aG.Sublist s.aG:=by
 unfold ya at h;split at h
 ·cases h;exact⟨.refl _,.refl _⟩
 ·obtain⟨a,b⟩:=QI _ _ _ _ _ h;exact⟨a.trans List.filter_sublist,b⟩
theorem YW {more:Nat}:∀(n:Nat) (s t:StoP) (g g':List ae),uw more n s g=aD (t,g')->t.aI=s.aI/\t.aH=s.aH
 | 0,s,t,g,g',h=>by unfold uw at h;cases h
 | n+1,s,t,g,g',h=>by
  unfold uw at h
  split at h
  ·cases h;exact⟨rfl,rfl⟩
  ·split at h
   ·cases h
   ·split at h
    ·cases h
    ·obtain⟨a,b⟩:=YW n _ t _ g' h
     exact⟨a,b⟩
theorem VZ (h:ya more s=aD (t,g)):t.aI=s.aI/\t.aH=s.aH:=by
 unfold ya at h;split at h
 ·cases h;exact⟨rfl,rfl⟩
 ·obtain⟨a,b⟩:=YW _ _ _ _ _ h;exact⟨a,b⟩
theorem Bsy.of (h:Bsy m s c) (hg:GoodS t) (hc:GoodC t c) (hu:unm t.aF<=unm s.aF) (hk:∀x∈t.aG,∃y∈s.aG,y.key=x.key) (hck:t.aH<=s.aH):Bsy m t c :=
 ⟨hg,hc,by have:=h.gr;omega,fun x hx=>by obtain⟨y,hy,e⟩:=hk x hx;rw [<-e];exact h.k7 y hy,by have:=h.ck;omega⟩
theorem LInv.keep (h:LInv m l) (hb:Bsy m s c) (hk:∀x∈s.aG,∃y∈l.st.aG,y.key=x.key):LInv m ⟨s,c,l.fs⟩ :=
 ⟨hb,h.f,fun p hp x hx=>by obtain⟨y,hy,e⟩:=hk x hx;rw [<-e];exact h.ap p hp y hy,h.k7⟩
theorem Bsy.ticks {m:Nat}:∀(n:Nat) (s:StoP) (c:ColP) (g:Nat),Bsy m s c->Bsy m (ticks n s c g).1 (ticks n s c g).2.1/\(ticks n s c g).1.aG=s.aG
 | 0,s,c,g,h=>⟨h,rfl⟩
 | n+1,s,c,g,h=>by
  unfold Go.Proofs.YtaboknhfiijipaaGreat.ticks
  by_cases hp:c.aK=0
  ·rw [if_pos hp];exact⟨h,rfl⟩
  ·rw [if_neg hp]
   have hp2:c.aK=1\/c.aK=2:=by have:=h.gc.ph;omega
   obtain⟨h1,h2,_,h4,h5,h6⟩:=ZD h.g h.gc hp2
   have h7:=ZE s c
   obtain⟨a,b⟩:=Bsy.ticks (m:=m) n (qD s c).1 (qD s c).2.1 (g+if (qD s c).2.2= [] then 0 else 1) ⟨h1,h2,by have:=h.gr;omega,by rw [h4];exact h.k7,by rw [h6];exact h.ck⟩
   exact⟨a,b.trans h4⟩
theorem UP (s:StoP) (c:ColP) (ds:List ae):(zG s c ds).1.aG=s.aG:=by rw [kz]
theorem KA (hi:i<s.aG.length):rts (Zl s i s.aG[i] n)=rts s:=by
 show uj (s.aG.set i { s.aG[i] with aN:=n })++ut s.aF=uj s.aG++ut s.aF;rw [QY (x:= { s.aG[i] with aN:=n }) hi rfl]
theorem Xq {up:Bool} (h:mvB n up=true) (h5:n<=5):mvN n up<=5:=by
 unfold mvB at h;unfold mvN;cases up<;>simp at h ⊢ <;> omega
theorem UR (up:Bool):noE up≠0:=by cases up<;>decide
theorem JS {D:ae} (hg:GoodS s) (hd:D.length<=300) (h:¬Fits s D):Qr s D:=(JT hg hd).resolve_left h
theorem LInv.blobD (h:LInv m l) (ho:GoodD o):LInv (m+1) (blobD l o).1:=by
 have hu:=h.up (Nat.le_succ m);unfold Go.Proofs.YtaboknhfiijipaaGreat.blobD;by_cases h1:o.kind=1
 ·rw [if_pos h1];show LInv _ (zH _ _ _ _);unfold pbP zH;by_cases hf:Fits l.st o.data
  ·rw [if_pos hf,if_pos rfl];exact hu.keep (h.b.put hf) fun x hx=>⟨x,by rwa [UP]at hx,rfl⟩
  ·rw [if_neg hf,if_neg wu];exact hu
 ·rw [if_neg h1];by_cases h2:o.kind=2
  ·rw [if_pos h2];exact hu
  ·rw [if_neg h2];show LInv _ (zH _ _ _ _);unfold hbP;cases hat:atB l.st o.dig with
   | none =>
    show LInv _ (zH l stZ coZ 5);unfold zH;rw [if_neg ws];exact hu
   | some ib =>
    obtain⟨i,b⟩:=ib;obtain⟨hi,rfl,hk,_⟩:=jq hat
    dsimp only;by_cases hmv:mvB l.st.aF[i].aN (decide (o.kind=3))=true
    ·rw [if_pos hmv];show LInv _ (zH l _ _ 0);unfold zH;rw [if_pos rfl,<-hk];exact hu.keep (h.b.hold hi (Xq hmv ((h.b.g.b.one _ (List.getElem_mem hi)).2.2))) fun x hx=>⟨x,by rwa [UP]at hx,rfl⟩
    ·rw [if_neg hmv];show LInv _ (zH l stZ coZ (noE _));unfold zH;rw [if_neg (UR _)];exact hu
theorem LInv.entD (h:LInv m l) (hm:m<=78) (ho:GoodD o) (h58:5<=o.kind/\o.kind<=8):LInv (m+1) (entD l o).1:=by
 have hu:=h.up (Nat.le_succ m);unfold Go.Proofs.YtaboknhfiijipaaGreat.entD;by_cases h1:o.kind=5
 ·rw [if_pos h1];show LInv _ (xE _ _ _);unfold xE;split
  ·rename_i h0;exact h.put hm (ho.k7 (.inl h58)) ho.g.p1 h0
  ·exact hu
 ·rw [if_neg h1];by_cases h2:o.kind=6
  ·rw [if_pos h2];show LInv _ (zH _ _ _ _);unfold gtP;cases hat:atE l.st o.dig with
   | none =>
    show LInv _ (zH l stZ l.co 5);unfold zH;rw [if_neg ws];exact hu
   | some ix =>
    obtain⟨i,x⟩:=ix;obtain⟨hi,rfl,hk,_⟩:=vq hat
    show LInv _ (zH l _ l.co 0);unfold zH;rw [if_pos rfl];exact h.get wm hi
  ·rw [if_neg h2];show LInv _ (zH _ _ _ _);unfold heP;cases hat:atE l.st o.dig with
   | none =>
    show LInv _ (zH l stZ l.co 5);unfold zH;rw [if_neg ws];exact hu
   | some ix =>
    obtain⟨i,x⟩:=ix;obtain⟨hi,rfl,hk,_⟩:=vq hat
    dsimp only;by_cases hmv:mvB l.st.aG[i].aN (decide (o.kind=7))=true
    ·rw [if_pos hmv];show LInv _ (zH l _ _ 0);unfold zH;rw [if_pos rfl];have hkx:∀x∈(Zl l.st i l.st.aG[i] (mvN l.st.aG[i].aN (decide (o.kind=7)))).aG,∃y∈l.st.aG,y.key=x.key:=fun x hx=>yU (x:= { l.st.aG[i] with aN:=mvN l.st.aG[i].aN (decide (o.kind=7)) }) hi rfl hx;exact hu.keep (hu.b.of (Q4 h.b.g hi (Xq hmv ((h.b.g.e.one _ (List.getElem_mem hi)).2.2.1))) (xH h.b.gc rfl fun x hx=>by rwa [KA hi]at hx) ac hkx ac) hkx
    ·rw [if_neg hmv];show LInv _ (zH l stZ _ (noE _));unfold zH;rw [if_neg (UR _)];exact hu
theorem LInv.roomD (h:LInv m l):LInv m (roomD l o).1:=by
 unfold Go.Proofs.YtaboknhfiijipaaGreat.roomD;by_cases h1:o.kind=9
 ·rw [if_pos h1];show LInv _ (zH _ _ _ _);unfold evP;cases he:ya o.n l.st with
  | none =>
   show LInv m (zH l stZ l.co 10);unfold zH;rw [if_neg ws];exact h
  | some tg =>
   obtain⟨t,g⟩:=tg;show LInv m (zH l t l.co 0);unfold zH;rw [if_pos rfl];obtain⟨a1,_,_,_,a5⟩:=uR h.b.g he;obtain⟨b1,b2⟩:=YY he;exact h.keep (h.b.of a1 (X8 h.b.g.b.ris a1.b.ris h.b.gc (fun b hb=>b1.subset hb) (z0b (fun b hb=>b1.subset hb) fun x hx=>b2.subset hx)) ((b1.filter _).length_le) (fun x hx=>⟨x,b2.subset hx,rfl⟩) (by rw [a5];exact Nat.le_refl _)) fun x hx=>⟨x,b2.subset hx,rfl⟩
 ·rw [if_neg h1];by_cases h2:o.kind=10
  ·rw [if_pos h2];split
   ·exact h.keep h.b.begin fun x hx=>⟨x,hx,rfl⟩
   ·exact h
  ·rw [if_neg h2];split
   ·exact h
   ·obtain⟨a,b⟩:=Bsy.ticks o.n l.st l.co 0 h.b;exact h.keep a fun x hx=>⟨x,by rwa [b]at hx,rfl⟩
theorem LInv.fliD (h:LInv m l) (hm:m<=78) (ho:GoodD o) (h12:12<=o.kind):LInv (m+1) (fliD l o).1:=by
 have hu:=h.up (Nat.le_succ m);unfold Go.Proofs.YtaboknhfiijipaaGreat.fliD;by_cases h1:o.kind=12
 ·rw [if_pos h1];show LInv _ (xE _ _ _);unfold xE;split
  ·rename_i h0;exact h.ask hm (ho.k7 (.inr h12)) (by have:=(ho.ask h1).1;omega) (by have:=(ho.ask h1).2;omega) h0
  ·exact hu
 ·rw [if_neg h1];by_cases h2:o.kind=13
  ·rw [if_pos h2];show LInv _ (xE _ _ _);unfold xE;split
   ·rename_i h0;exact h.done hm (ho.k7 (.inr h12)) ho.g.p1 h0
   ·exact hu
  ·rw [if_neg h2];show LInv _ (xE _ _ _);unfold xE;split
   ·rename_i h0;exact h.fail h0
   ·exact hu
theorem LInv.step (h:LInv m l) (hm:m<=78) (ho:GoodD o):LInv (m+1) (qQ l o).1:=by
 unfold qQ;split
 ·exact h.blobD ho
 ·split
  ·exact h.entD hm ho wm
  ·split
   ·exact h.roomD.up (Nat.le_succ m)
   ·exact h.fliD hm ho wm
theorem LInv.run:∀ {m:Nat} {l:LoP} {os:List OrdP},LInv m l->m+os.length<=79->(∀o∈os,GoodD o)->LInv (m+os.length) (kg l os).1
 | m,l, [],h,_,_=>h
 | m,l,o::os,h,hm,ho=>by
  simp only [List.length_cons]at hm ⊢
  have:=(h.step wm (ho o (List.mem_cons_self ..))).run (os:=os) wm fun x hx=>ho x (List.mem_cons_of_mem _ hx)
  rw [show m+(os.length+1)=m+1+os.length by omega]
  exact this
abbrev lo0 (aI:Nat):LoP:=⟨⟨[], [],aI,0⟩,⟨0, [], []⟩, []⟩
theorem LInv.zero {aI:Nat} (h:aI<=4000):LInv 0 (lo0 aI):=by
 have hg:GoodS ⟨[], [],aI,0⟩:=⟨⟨wu,(fun b hb=>by cases hb),List.Pairwise.nil⟩,⟨wu,(fun b hb=>by cases hb),List.Pairwise.nil⟩,h,by simp [usd],wu,(fun x hx=>by cases hx)⟩
 have hc:GoodC ⟨[], [],aI,0⟩ ⟨0, [], []⟩:=⟨wu,(fun d hd=>by cases hd),List.Pairwise.nil,.inl rfl,fun _=>rfl,fun _=>rfl,(fun h=>by cases h),(fun h=>by cases h),(fun h=>by cases h)⟩
 exact⟨⟨hg,hc,by simp [unm],(fun x hx=>by cases hx),wu⟩,GoodF.nil_,(fun p hp=>by cases hp),(fun p hp=>by cases hp)⟩
def wts (fs:List FlP) (k:ae):List Int:=(y9 fs k).2.1
theorem vE (h:fnd 0 fs k=none):wts fs k= []:=by
 unfold wts y9;rw [h]
theorem xz (h:fnd 0 fs k=aD j) (hj:j<fs.length):wts fs k=fs[j].lead::fs[j].wait:=by
 unfold wts y9;rw [h];simp only [List.getElem?_eq_getElem hj]
theorem Ze (h:fnd 0 fs k=aD j):kB fs k=true:=by
 obtain⟨hj,hk⟩:=qp h;unfold kB;rw [List.any_eq_true];exact⟨_,List.getElem_mem hj,by simpa using hk⟩
theorem Xg (fs:List FlP) (k:ae) (n:Int) (hn:n∉wts fs k) :
  (kb fs k n).2.2=7\/((kb fs k n).2.2=0/\wts (kb fs k n).1 k=wts fs k++ [n]/\kB (kb fs k n).1 k=true):=by
 cases h:fnd 0 fs k with
 | none =>
  unfold kb;rw [h];dsimp only;by_cases h6:fs.length=6
  ·rw [if_pos h6];exact .inl rfl
  ·rw [if_neg h6];have hs:fnd 0 (fs++ [⟨k,n, []⟩]) k=aD fs.length:=by
    rw [yC,h];simp
   refine .inr ⟨rfl,?_,Ze hs⟩;show wts (fs++ [⟨k,n, []⟩]) k=_;rw [vE h,xz hs wu];simp
 | some j =>
  obtain⟨hj,hk⟩:=qp h;rw [xz h hj]at hn;unfold kb;rw [h];simp only [List.getElem?_eq_getElem hj];rw [if_neg (by simpa using hn)];by_cases h5:fs[j].wait.length=5
  ·rw [if_pos h5];exact .inl rfl
  ·rw [if_neg h5];have hkeys:(fs.set j ⟨fs[j].key,fs[j].lead,fs[j].wait++ [n]⟩).map (·.key)=fs.map (·.key):=by
    exact jJ (fun p:FlP=>p.key) hj rfl
   have hs:fnd 0 (fs.set j ⟨fs[j].key,fs[j].lead,fs[j].wait++ [n]⟩) k=aD j:=by rw [yb _ fs 0 k hkeys,h]
   refine .inr ⟨rfl,?_,Ze hs⟩;show wts (fs.set j ⟨fs[j].key,fs[j].lead,fs[j].wait++ [n]⟩) k=_;rw [xz h hj,xz hs (by simpa using hj)];simp
abbrev kG (k:ae) (n:Nat):OrdP:=⟨12,n,k, [], []⟩
theorem XY (l:LoP) (k:ae) (n:Nat):qQ l (kG k n)=fliD l (kG k n):=by
 unfold qQ;rw [if_neg (by show ¬12<=4;decide),if_neg (by show ¬12<=8;decide),if_neg (by show ¬12<=11;decide)]
theorem VL (hE:l.st.aG.findIdx? (fun x=>x.key==k)=none) (hn:(n:Int)∉wts l.fs k) :
  (qQ l (kG k n)).1.st=l.st/\(((qQ l (kG k n)).2.err=7/\(qQ l (kG k n)).1.fs=l.fs)\/((qQ l (kG k n)).2.err=0/\0<(qQ l (kG k n)).2.n/\wts (qQ l (kG k n)).1.fs k=wts l.fs k++ [(n:Int)])):=by
 rw [XY];unfold fliD;rw [if_pos rfl];dsimp only;unfold uu;rw [hE];dsimp only;rcases Xg l.fs k n hn with h | ⟨h,hw,hp⟩
 ·rw [if_neg (by rw [h];decide)];dsimp only;rw [h];exact⟨rfl,.inl ⟨rfl,rfl⟩⟩
 ·rw [if_pos h];dsimp only;refine⟨rfl,.inr ⟨rfl,?_,hw⟩⟩;rw [if_neg ws,hp];split<;>decide
theorem Z1 {k:ae}:∀(ns:List Nat) (l:LoP),l.st.aG.findIdx? (fun x=>x.key==k)=none->ns.Nodup->(∀n∈ns,(n:Int)∉wts l.fs k) ->
  (∃J:List Int,wts (kg l (ns.map (kG k))).1.fs k=wts l.fs k++J/\∀x∈J,∃n∈ns,x=(n:Int)) /\
  ∀(i:Nat) (h:i<ns.length),∃y,(kg l (ns.map (kG k))).2[i]?=aD y/\((y.err=7/\(ns[i]:Int)∉wts (kg l (ns.map (kG k))).1.fs k)\/(y.err=0/\0<y.n/\(ns[i]:Int)∈wts (kg l (ns.map (kG k))).1.fs k))
 | [],l,_,_,_=>⟨⟨[],by rw [List.append_nil];rfl,fun x h=>by cases h⟩,fun i h=>absurd h (Nat.not_lt_zero _)⟩
 | n::ns,l,hE,hnd,hf=>by
  obtain⟨hs,h1⟩:=VL hE (hf n (List.mem_cons_self ..))
  obtain⟨hnn,hnd2⟩:=List.nodup_cons.1 hnd
  have hw1:∃J1:List Int,wts (qQ l (kG k n)).1.fs k=wts l.fs k++J1/\(J1= []\/J1= [(n:Int)]):=by
   rcases h1 with ⟨_,h⟩ | ⟨_,_,h⟩
   ·exact⟨[],by rw [h,List.append_nil],.inl rfl⟩
   ·exact⟨_,h,.inr rfl⟩
  obtain⟨J1,hJ1,hJ1'⟩:=hw1;have hE1:(qQ l (kG k n)).1.st.aG.findIdx? (fun x=>x.key==k)=none:=by rw [hs];exact hE
  obtain⟨⟨J,hJ,hJm⟩,hr⟩:=Z1 ns (qQ l (kG k n)).1 hE1 hnd2 (fun x hx hm=>by
   rw [hJ1]at hm;rcases List.mem_append.1 hm with h | h
   ·exact hf x (List.mem_cons_of_mem _ hx) h
   ·rcases hJ1' with e | e
    ·rw [e]at h;cases h
    ·rw [e]at h;have:=List.mem_singleton.1 h;have:x=n:=by omega
     subst this;exact hnn hx)
  have hrun:kg l ((n::ns).map (kG k))=((kg (qQ l (kG k n)).1 (ns.map (kG k))).1,(qQ l (kG k n)).2::(kg (qQ l (kG k n)).1 (ns.map (kG k))).2):=rfl;rw [hrun];dsimp only;refine⟨⟨J1++J,by rw [hJ,hJ1,List.append_assoc],fun x hx=> ?_⟩,fun i h=> ?_⟩
  ·rcases List.mem_append.1 hx with h | h
   ·rcases hJ1' with e | e
    ·rw [e]at h;cases h
    ·rw [e]at h;exact⟨n,List.mem_cons_self ..,List.mem_singleton.1 h⟩
   ·obtain⟨y,hy,e⟩:=hJm x h;exact⟨y,List.mem_cons_of_mem _ hy,e⟩
  ·cases i with
   | succ i =>
    obtain⟨y,hy,h2⟩:=hr i (by simpa using h);exact⟨y,hy,h2⟩
   | zero =>
    refine⟨_,rfl,?_⟩;show(_/\(n:Int)∉_)\/(_/\_/\(n:Int)∈_)
    rcases h1 with ⟨h7,h8⟩ | ⟨h7,h8,h9⟩
    ·refine .inl ⟨h7,fun hm=> ?_⟩;rw [hJ,h8]at hm;rcases List.mem_append.1 hm with h | h
     ·exact hf n (List.mem_cons_self ..) h
     ·obtain⟨y,hy,e⟩:=hJm _ h;have:n=y:=by omega
      subst this;exact hnn hy
    ·refine .inr ⟨h7,h8,?_⟩;rw [hJ,h9];exact List.mem_append_left _ (List.mem_append_right _ (List.mem_singleton.2 rfl))
theorem YC (hE:l.st.aG.findIdx? (fun x=>x.key==k)=aD i) (hf:fnd 0 l.fs k=none) :
  (qQ l (kG k n)).1.fs=l.fs/\(qQ l (kG k n)).2.err=0/\(qQ l (kG k n)).2.n=0/\(qQ l (kG k n)).1.st.aG.findIdx? (fun x=>x.key==k)=aD i:=by
 obtain⟨hi,hk⟩:=xh hE;have hw:kB l.fs k=false:=by
  unfold kB;rw [List.any_eq_false];intro p hp;simpa using (q5 l.fs 0 k).1 hf p hp
 rw [XY];unfold fliD;rw [if_pos rfl];dsimp only;unfold uu;rw [hE];simp only [List.getElem?_eq_getElem hi];refine⟨by first | rfl | trivial,by first | rfl | trivial,?_,?_⟩
 ·show(if (0:Nat)≠0 then 0 else if false=true then 1 else if kB l.fs k=true then 2 else 0)=0;rw [hw];rfl
 ·show(l.st.aG.set i { l.st.aG[i] with aL:=l.st.aH+1 }).findIdx? _=aD i;rw [List.findIdx?_eq_some_iff_getElem]at hE ⊢
  obtain⟨_,h2,h3⟩:=hE;refine⟨by simpa using hi,by simpa using h2,fun j hj=> ?_⟩;rw [List.getElem_set_ne wm];exact h3 j hj
theorem uF {k:ae} {i:Nat}:∀(ns:List Nat) (l:LoP),l.st.aG.findIdx? (fun x=>x.key==k)=aD i->fnd 0 l.fs k=none ->
  (kg l (ns.map (kG k))).1.fs=l.fs/\∀(j:Nat) (h:j<ns.length),∃y,(kg l (ns.map (kG k))).2[j]?=aD y/\y.err=0/\y.n=0
 | [],l,_,_=>⟨rfl,fun i h=>absurd h (Nat.not_lt_zero _)⟩
 | n::ns,l,hE,hf=>by
  obtain⟨h1,h2,h3,h4⟩:=YC (n:=n) hE hf
  obtain⟨k1,k2⟩:=uF ns (qQ l (kG k n)).1 h4 (by rw [h1];exact hf)
  refine⟨k1.trans h1,fun j h=> ?_⟩
  cases j with
  | zero=>exact⟨_,rfl,h2,h3⟩
  | succ j=>exact k2 j (by simpa using h)
theorem VX (l:LoP) (k:ae) (e:Nat) (he:e=13\/e=14):(qQ l ⟨e,0,k, [], []⟩).2.who=wts l.fs k:=by
 have hb:(qy l.st l.co k []).2.2=0:=by unfold qy;rw [if_pos (show qA l.st.aF []=0 from rfl)]
 have hz:(y9 l.fs k).2.2≠0->wts l.fs k= []:=fun h=>by
  cases hf:fnd 0 l.fs k with
  | none=>exact vE hf
  | some j =>
   obtain⟨hj,_⟩:=qp hf;unfold y9 at h;rw [hf]at h;simp only [List.getElem?_eq_getElem hj]at h;exact absurd rfl h
 unfold qQ;rcases he with rfl | rfl
 ·rw [if_neg (by show ¬13<=4;decide),if_neg (by show ¬13<=8;decide),if_neg (by show ¬13<=11;decide)];unfold fliD;rw [if_neg (by show ¬13=12;decide),if_pos rfl];dsimp only;unfold kC;by_cases h:(y9 l.fs k).2.2=0
  ·rw [if_pos h,if_pos hb];rfl
  ·rw [if_neg h];exact(hz h).symm
 ·rw [if_neg (by show ¬14<=4;decide),if_neg (by show ¬14<=8;decide),if_neg (by show ¬14<=11;decide)];unfold fliD;rw [if_neg (by show ¬14=12;decide),if_neg (by show ¬14=13;decide)];dsimp only;unfold yG;by_cases h:(y9 l.fs k).2.2=0
  ·rw [if_pos h];rfl
  ·rw [if_neg h];exact(hz h).symm
def W9 (fs:List FlP):Prop:=∀p∈fs,p.lead<=900/\∀x∈p.wait,x<=900
theorem W9.nil_:W9 []:=fun p h=>by cases h
theorem W9.wts (h:W9 fs) (k:ae):∀x∈wts fs k,x<=900:=by
 intro x hx;cases hf:fnd 0 fs k with
 | none=>rw [vE hf]at hx;cases hx
 | some j =>
  obtain⟨hj,_⟩:=qp hf;rw [xz hf hj]at hx;obtain⟨h1,h2⟩:=h _ (List.getElem_mem hj);rcases List.mem_cons.1 hx with rfl | hx
  ·exact h1
  ·exact h2 x hx
theorem W9.join (h:W9 fs) (k:ae) {n:Int} (hn:n<=900):W9 (kb fs k n).1:=by
 unfold kb;cases hf:fnd 0 fs k with
 | none =>
  dsimp only;split
  ·exact .nil_
  ·intro p hp;rcases List.mem_append.1 hp with hp | hp
   ·exact h p hp
   ·rw [List.mem_singleton.1 hp];exact⟨hn,fun x hx=>by cases hx⟩
 | some j =>
  obtain⟨hj,_⟩:=qp hf;simp only [List.getElem?_eq_getElem hj];split
  ·exact .nil_
  ·split
   ·exact .nil_
   ·intro p hp;obtain⟨h1,h2⟩:=h _ (List.getElem_mem hj);rcases List.mem_or_eq_of_mem_set hp with hp | rfl
    ·exact h p hp
    ·refine⟨h1,fun x hx=> ?_⟩;rcases List.mem_append.1 hx with hx | hx
     ·exact h2 x hx
     ·rw [List.mem_singleton.1 hx];exact hn
theorem W9.end_ (h:W9 fs) (k:ae):W9 (y9 fs k).1:=by
 unfold y9;split
 ·exact .nil_
 ·split
  ·exact .nil_
  ·exact fun p hp=>h p (List.mem_of_mem_eraseIdx hp)
theorem xi (l:LoP) (s:StoP) (c:ColP) (e:Nat):(zH l s c e).fs=l.fs:=by unfold zH;split<;>rfl
theorem W9.bec {m:LoP} {e:Nat} (h:W9 l.fs) (h':W9 m.fs):W9 (xE l m e).fs:=by unfold xE;split;exact h';exact h
theorem W9.step (h:W9 l.fs) (ho:o.kind=12->o.n<=900):W9 (qQ l o).1.fs:=by
 unfold qQ;split
 ·unfold blobD;split
  ·show W9 (zH _ _ _ _).fs;rw [xi];exact h
  ·split
   ·exact h
   ·show W9 (zH _ _ _ _).fs;rw [xi];exact h
 ·split
  ·unfold entD;split
   ·refine h.bec ?_;unfold KY;split
    ·exact .nil_
    ·split
     ·exact h
     ·exact .nil_
   ·split
    ·show W9 (zH _ _ _ _).fs;rw [xi];exact h
    ·show W9 (zH _ _ _ _).fs;rw [xi];exact h
  ·split
   ·unfold roomD;split
    ·show W9 (zH _ _ _ _).fs;rw [xi];exact h
    ·split
     ·split<;>exact h
     ·split<;>exact h
   ·unfold fliD;split
    ·rename_i hk;refine h.bec ?_;unfold uu;split
     ·split
      ·exact .nil_
      ·exact h
     ·split
      ·exact h.join _ (by have:=ho hk;omega)
      ·exact .nil_
    ·split
     ·refine h.bec ?_;unfold kC;split
      ·split
       ·exact h.end_ _
       ·exact .nil_
      ·exact .nil_
     ·refine h.bec ?_;unfold yG;split
      ·exact h.end_ _
      ·exact .nil_
theorem W9.run:∀(os:List OrdP) (l:LoP),W9 l.fs->(∀o∈os,o.kind=12->o.n<=900)->W9 (kg l os).1.fs
 | [],l,h,_=>h
 | o::os,l,h,ho=>(h.step (ho o (List.mem_cons_self ..))).run os _ fun x hx=>ho x (List.mem_cons_of_mem _ hx)
theorem Ut (hi:LInv m l) (h9:W9 l.fs) (k:ae) (e:Nat) (he:e=13\/e=14) (ns:List Nat) (hnd:ns.Nodup) (hn:∀n∈ns,900<n) (i:Nat) (h:i<ns.length) :
  ∃y,(kg l (ns.map (kG k))).2[i]?=aD y/\((y.err=7/\(ns[i]:Int)∉(qQ (kg l (ns.map (kG k))).1 ⟨e,0,k, [], []⟩).2.who)\/(y.err=0/\(0<y.n↔(ns[i]:Int)∈(qQ (kg l (ns.map (kG k))).1 ⟨e,0,k, [], []⟩).2.who))):=by
 rw [VX _ k e he];cases hE:l.st.aG.findIdx? (fun x=>x.key==k) with
 | none =>
  obtain⟨_,h2⟩:=Z1 ns l hE hnd (fun n hn' hm=>by
   have:=h9.wts k _ hm;have:=hn n hn';omega)
  obtain⟨y,hy,h3 | ⟨h3,h4,h5⟩⟩:=h2 i h
  ·exact⟨y,hy,.inl h3⟩
  ·exact⟨y,hy,.inr ⟨h3,fun _=>h5,fun _=>h4⟩⟩
 | some j =>
  obtain⟨hj,hk⟩:=xh hE;have hf:fnd 0 l.fs k=none:=(q5 _ _ _).2 fun p hp e=>hi.ap p hp _ (List.getElem_mem hj) (hk.trans e.symm);obtain⟨h1,h2⟩:=uF ns l hE hf;obtain⟨y,hy,h3,h4⟩:=h2 i h;refine⟨y,hy,.inr ⟨h3,fun h=>wm,fun h=> ?_⟩⟩;rw [h1,vE hf]at h;cases h
abbrev kK (K:ae):List OrdP:=(List.range 4).map fun j=>kG K (901+j)
theorem K3 (os:List OrdP) (K:ae) (e:Nat) (he:e=13\/e=14) (hgo:∀o∈os,ZP o) (hl:os.length<=50) :
  (kg (lo0 2000) (os++kK K++ [⟨e,0,K, [], []⟩])).2.length=os.length+5/\∃re,(kg (lo0 2000) (os++kK K++ [⟨e,0,K, [], []⟩])).2[os.length+4]?=aD re /\
   ∀i,i<4->∃y,(kg (lo0 2000) (os++kK K++ [⟨e,0,K, [], []⟩])).2[os.length+i]?=aD y/\((y.err=7/\((901+i:Nat):Int)∉re.who)\/(y.err=0/\(0<y.n↔((901+i:Nat):Int)∈re.who))):=by
 have hi:=(LInv.zero (aI:=2000) wm).run (os:=os) wm (fun o ho=>(hgo o ho).1);have h9:=W9.run os (lo0 2000) W9.nil_ (fun o ho hk=>by have:=(hgo o ho).2 hk;omega);have hn:=vB (lo0 2000) os;have ha:=vB (kg (lo0 2000) os).1 (kK K);have ha4:(kK K).length=4:=wu;rw [ZA,jH];dsimp only;refine⟨by rw [List.length_append,List.length_append,hn,ha,ha4];simp,(qQ (kg (kg (lo0 2000) os).1 (kK K)).1 ⟨e,0,K, [], []⟩).2,by rw [List.getElem?_append_right (by rw [List.length_append,hn,ha,ha4];omega),List.length_append,hn,ha,ha4];simp,fun i hi4=> ?_⟩;obtain⟨y,hy,h⟩:=Ut hi h9 K e he ((List.range 4).map (901+ ·)) ws (fun n hn=>by
  obtain⟨j,_,rfl⟩:=List.mem_map.1 hn;omega) i (by simpa using hi4)
 have hm:((List.range 4).map (901+ ·)).map (kG K)=kK K:=by rw [List.map_map];rfl
 rw [hm]at hy h;refine⟨y,?_,by simpa using h⟩;rw [List.getElem?_append_left (by rw [List.length_append,hn,ha,ha4];omega),List.getElem?_append_right wm,hn,Nat.add_sub_cancel_left];exact hy
end Go.Proofs.YtaboknhfiijipaaGreat
