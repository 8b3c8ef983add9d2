/- Lemmas, as stated. -/
import Derived.Test.YtaboknhfiijipaaGreatQO24
import Derived.Test.YtaboknhfiijipaaGreatQO25
set_option linter.unusedVariables false
set_option linter.unusedSimpArgs false
set_option maxRecDepth 100000
open Go.Proofs.Tryz renaming prog->zZZ
open Go.Value renaming slice->aA,int->aB,string->aD
namespace Go.Proofs.YtaboknhfiijipaaGreat
open Go.RowKit Go.Maps
variable {up:Bool} {c:ColP} {g:List ai} {l:LoP} {base e i m more n:Nat} {o:OrdP} {s t:StoP} {w:World} {k:ai}
structure RepP where
 err:Nat
 dig:ai
 data:ai
 aP:List PartP
 n:Nat
 who:List Int
abbrev KL (e:Nat):RepP:=⟨e, [], [], [],0, []⟩
open Classical in
noncomputable def pbP (s:StoP) (c:ColP) (D:ai):StoP×ColP×ai×Nat :=
 if Fits s D then ((zG (zH s D) c [shaS D]).1,(zG (zH s D) c [shaS D]).2,shaS D,0) else (stZ,coZ, [],7)
def atB (s:StoP) (k:ai):Option (Nat×BlobP):=(s.aI.findIdx? (fun b=>b.dig==k)).bind fun i=>(s.aI[i]?).map fun b=>(i,b)
def atE (s:StoP) (k:ai):Option (Nat×EntP):=(s.aJ.findIdx? (fun x=>x.key==k)).bind fun i=>(s.aJ[i]?).map fun x=>(i,x)
def gbP (s:StoP) (k:ai):ai×Nat:=match atB s k with | some (_,b)=>(b.data,0) | none=>([],5)
def mvB (n:Nat) (up:Bool):Bool:=if up then decide (n<5) else decide (0<n)
noncomputable def hbP (s:StoP) (c:ColP) (k:ai) (up:Bool):StoP×ColP×Nat:=match atB s k with
 | some (i,b)=>if mvB b.aQ up then ((zG (ke s i b (mvN b.aQ up)) c [k]).1,(zG (ke s i b (mvN b.aQ up)) c [k]).2,0) else (stZ,coZ,noE up)
 | none=>(stZ,coZ,5)
def gtP (s:StoP) (k:ai):StoP×List PartP×Nat:=match atE s k with | some (i,x)=>(kv s i x,x.aP,0) | none=>(stZ, [],5)
def heP (s:StoP) (k:ai) (up:Bool):StoP×Nat:=match atE s k with
 | some (i,x)=>if mvB x.aQ up then (Zn s i x (mvN x.aQ up),0) else (stZ,noE up)
 | none=>(stZ,5)
noncomputable def evP (s:StoP) (n:Nat):StoP×Nat×Nat:=match yd n s with | some (t,g)=>(t,g.length,0) | none=>(stZ,0,10)
def ticks:Nat->StoP->ColP->Nat->StoP×ColP×Nat
 | 0,s,c,g=>(s,c,g)
 | n+1,s,c,g=>if c.aN=0 then (s,c,g) else ticks n (qF s c).1 (qF s c).2.1 (g+if (qF s c).2.2= [] then 0 else 1)
def zJ (l:LoP) (s:StoP) (c:ColP) (e:Nat):LoP:=if e=0 then ⟨s,c,l.fs⟩ else l
def xb (l m:LoP) (e:Nat):LoP:=if e=0 then m else l
noncomputable def blobD (l:LoP) (o:OrdP):LoP×RepP :=
 if o.kind=1 then (zJ l (pbP l.st l.co o.data).1 (pbP l.st l.co o.data).2.1 (pbP l.st l.co o.data).2.2.2,⟨(pbP l.st l.co o.data).2.2.2,(pbP l.st l.co o.data).2.2.1, [], [],0, []⟩)
 else if o.kind=2 then (l,⟨(gbP l.st o.dig).2, [],(gbP l.st o.dig).1, [],0, []⟩)
 else (zJ l (hbP l.st l.co o.dig (decide (o.kind=3))).1 (hbP l.st l.co o.dig (decide (o.kind=3))).2.1 (hbP l.st l.co o.dig (decide (o.kind=3))).2.2,KL (hbP l.st l.co o.dig (decide (o.kind=3))).2.2)
noncomputable def entD (l:LoP) (o:OrdP):LoP×RepP :=
 if o.kind=5 then (xb l (Y1 l o.dig o.aP).1 (Y1 l o.dig o.aP).2,KL (Y1 l o.dig o.aP).2)
 else if o.kind=6 then (zJ l (gtP l.st o.dig).1 l.co (gtP l.st o.dig).2.2,⟨(gtP l.st o.dig).2.2, [], [],(gtP l.st o.dig).2.1,0, []⟩)
 else (zJ l (heP l.st o.dig (decide (o.kind=7))).1 l.co (heP l.st o.dig (decide (o.kind=7))).2,KL (heP l.st o.dig (decide (o.kind=7))).2)
noncomputable def roomD (l:LoP) (o:OrdP):LoP×RepP :=
 if o.kind=9 then (zJ l (evP l.st o.n).1 l.co (evP l.st o.n).2.2,⟨(evP l.st o.n).2.2, [], [], [],(evP l.st o.n).2.1, []⟩)
 else if o.kind=10 then if l.co.aN=0 then (⟨YG l.st,VS l.st,l.fs⟩,KL 0) else (l,KL 6)
 else if l.co.aN=0 then (l,KL 11)
 else (⟨(ticks o.n l.st l.co 0).1,(ticks o.n l.st l.co 0).2.1,l.fs⟩,⟨0, [], [], [],(ticks o.n l.st l.co 0).2.2, []⟩)
def kD (fs:List FlP) (k:ai):Bool:=fs.any fun f=>f.key==k
noncomputable def fliD (l:LoP) (o:OrdP):LoP×RepP :=
 if o.kind=12 then (xb l (jv l o.dig o.n).1 (jv l o.dig o.n).2.2.2,⟨(jv l o.dig o.n).2.2.2, [], [],(jv l o.dig o.n).2.1,if (jv l o.dig o.n).2.2.2≠0 then 0 else if (jv l o.dig o.n).2.2.1 then 1 else if kD (jv l o.dig o.n).1.fs o.dig then 2 else 0, []⟩)
 else if o.kind=13 then (xb l (kH l o.dig o.aP).1 (kH l o.dig o.aP).2.2,⟨(kH l o.dig o.aP).2.2, [], [], [],0,(kH l o.dig o.aP).2.1⟩)
 else (xb l (yX l o.dig).1 (yX l o.dig).2.2,⟨(yX l o.dig).2.2, [], [], [],0,(yX l o.dig).2.1⟩)
noncomputable def kh (l:LoP) (o:OrdP):LoP×RepP :=
 if o.kind<=4 then blobD l o else if o.kind<=8 then entD l o else if o.kind<=11 then roomD l o else fliD l o
noncomputable def k6:LoP->List OrdP->LoP×List RepP
 | l, []=>(l, [])
 | l,o::os=>((k6 (kh l o).1 os).1,(kh l o).2::(k6 (kh l o).1 os).2)
theorem jM:∀(l:LoP) (a b:List OrdP),k6 l (a++b)=((k6 (k6 l a).1 b).1,(k6 l a).2++(k6 (k6 l a).1 b).2)
 | l, [],b=>rfl
 | l,o::a,b=>by
  show((k6 (kh l o).1 (a++b)).1,(kh l o).2::(k6 (kh l o).1 (a++b)).2)=_
  rw [jM (kh l o).1 a b]
  rfl
theorem ZC (l:LoP) (a:List OrdP) (o:OrdP):k6 l (a++ [o])=((kh (k6 l a).1 o).1,(k6 l a).2++ [(kh (k6 l a).1 o).2]):=jM l a [o]
theorem vG:∀(l:LoP) (a:List OrdP),(k6 l a).2.length=a.length
 | l, []=>rfl
 | l,o::a=>by show(k6 (kh l o).1 a).2.length+1=_;rw [vG _ a];rfl
theorem jw {b:BlobP} (h:atB s k=some (i,b)):∃hi:i<s.aI.length,s.aI[i]=b/\b.dig=k/\s.aI.findIdx? (fun b=>b.dig==k)=some i:=by
 unfold atB at h;cases hf:s.aI.findIdx? (fun b=>b.dig==k) with
 | none=>rw [hf]at h;cases h
 | some j =>
  obtain⟨hj,h1,_⟩:=List.findIdx?_eq_some_iff_getElem.1 hf;rw [hf]at h;simp only [Option.bind_some,List.getElem?_eq_getElem hj,Option.map_some,Option.some.injEq,Prod.mk.injEq]at h;obtain⟨rfl,rfl⟩:=h;exact⟨hj,rfl,by simpa using h1,rfl⟩
theorem Qv (h:atB s k=none):∀b∈s.aI,b.dig≠k:=by
 unfold atB at h;cases hf:s.aI.findIdx? (fun b=>b.dig==k) with
 | none=>rw [List.findIdx?_eq_none_iff]at hf;exact fun b hb=>by simpa using hf b hb
 | some j =>
  obtain⟨hj,h1,_⟩:=List.findIdx?_eq_some_iff_getElem.1 hf;rw [hf]at h;simp [List.getElem?_eq_getElem hj]at h
theorem vx {x:EntP} (h:atE s k=some (i,x)):∃hi:i<s.aJ.length,s.aJ[i]=x/\x.key=k/\s.aJ.findIdx? (fun x=>x.key==k)=some i:=by
 unfold atE at h;cases hf:s.aJ.findIdx? (fun x=>x.key==k) with
 | none=>rw [hf]at h;cases h
 | some j =>
  obtain⟨hj,h1,_⟩:=List.findIdx?_eq_some_iff_getElem.1 hf;rw [hf]at h;simp only [Option.bind_some,List.getElem?_eq_getElem hj,Option.map_some,Option.some.injEq,Prod.mk.injEq]at h;obtain⟨rfl,rfl⟩:=h;exact⟨hj,rfl,by simpa using h1,rfl⟩
theorem Qw (h:atE s k=none):∀x∈s.aJ,x.key≠k:=by
 unfold atE at h;cases hf:s.aJ.findIdx? (fun x=>x.key==k) with
 | none=>rw [List.findIdx?_eq_none_iff]at hf;exact fun b hb=>by simpa using hf b hb
 | some j =>
  obtain⟨hj,h1,_⟩:=List.findIdx?_eq_some_iff_getElem.1 hf;rw [hf]at h;simp [List.getElem?_eq_getElem hj]at h
theorem Xa (hs:RisesBy (·.dig) s.aI) (ht:RisesBy (·.dig) t.aI) (h:GoodC s c) (hb:∀b∈t.aI,b∈s.aI) (hr:∀x∈rts t,x∈rts s):GoodC t c:=by
 have hm:∀x,InB t.aI x->x∈mkd s.aI->x∈mkd t.aI:=fun x ⟨b,hb1,hx⟩ hx2=>by
  obtain⟨a,ha,hm,e⟩:=qD.1 hx2;have:a=b:=hs.inj ha (hb b hb1) (e.trans hx.symm);subst this;exact qD.2 ⟨a,hb1,hm,e⟩
 refine⟨h.ph,h.gh,h.ris,h.ah,h.g0,h.a0,fun h1 x hx hi=> ?_,fun h1 b hb1 hm1 x hx hi=> ?_,fun h1 x hx=> ?_⟩
 ·exact(h.mr h1 x (hr x hx) (hi.sub hb)).imp (hm x hi) id
 ·rw [vC hs ht hb ⟨b,hb1,rfl⟩]at hx;exact(h.mb h1 b (hb b hb1) hm1 x hx (hi.sub hb)).imp (hm x hi) id
 ·exact hm x hx.inB (h.sw h1 x (hx.sub hs ht hb hr))
theorem z0r (hb:∀b∈t.aI,b∈s.aI) (he:∀x∈t.aJ,x∈s.aJ):∀x∈rts t,x∈rts s:=fun x hx=>by
 rcases List.mem_append.1 hx with h1 | h1
 ·obtain⟨y,hy,h2⟩:=List.mem_flatMap.1 h1
  exact List.mem_append_left _ (List.mem_flatMap.2 ⟨y,he y hy,h2⟩)
 ·obtain⟨b,hb1,rfl⟩:=List.mem_map.1 h1
  obtain⟨h2,h3⟩:=List.mem_filter.1 hb1
  exact List.mem_append_right _ (List.mem_map.2 ⟨b,List.mem_filter.2 ⟨hb b h2,h3⟩,rfl⟩)
theorem QI {more:Nat}:∀(n:Nat) (s t:StoP) (g g':List ai),uD more n s g=some (t,g')->t.aI.Sublist s.aI/\t.aJ.Sublist s.aJ
 | 0,s,t,g,g',h=>by unfold uD at h;cases h
 | n+1,s,t,g,g',h=>by
  unfold uD at h
  split at h
  ·cases h;exact⟨.refl _,.refl _⟩
  ·split at h
   ·cases h
   ·split at h
    ·cases h
    ·rename_i i _ x _
     obtain⟨a,b⟩:=QI n _ t _ g' h
     exact⟨a.trans (List.filter_sublist),b.trans (List.eraseIdx_sublist ..)⟩
theorem X0 (h:yd more s=some (t,g)):t.aI.Sublist s.aI/\t.aJ.Sublist s.aJ:=by
 unfold yd at h;split at h
 ·cases h;exact⟨.refl _,.refl _⟩
 ·obtain⟨a,b⟩:=QI _ _ _ _ _ h;exact⟨a.trans List.filter_sublist,b⟩
theorem YY {more:Nat}:∀(n:Nat) (s t:StoP) (g g':List ai),uD more n s g=some (t,g')->t.aL=s.aL/\t.aK=s.aK
 | 0,s,t,g,g',h=>by unfold uD at h;cases h
 | n+1,s,t,g,g',h=>by
  unfold uD at h
  split at h
  ·cases h;exact⟨rfl,rfl⟩
  ·split at h
   ·cases h
   ·split at h
    ·cases h
    ·obtain⟨a,b⟩:=YY n _ t _ g' h
     exact⟨a,b⟩
theorem U4 (h:yd more s=some (t,g)):t.aL=s.aL/\t.aK=s.aK:=by
 unfold yd at h;split at h
 ·cases h;exact⟨rfl,rfl⟩
 ·obtain⟨a,b⟩:=YY _ _ _ _ _ h;exact⟨a,b⟩
theorem Bsy.of (h:Bsy m s c) (hg:GoodS t) (hc:GoodC t c) (hu:unm t.aI<=unm s.aI) (hk:∀x∈t.aJ,∃y∈s.aJ,y.key=x.key) (hck:t.aK<=s.aK):Bsy m t c :=
 ⟨hg,hc,by have:=h.gr;omega,fun x hx=>by obtain⟨y,hy,e⟩:=hk x hx;rw [<-e];exact h.k7 y hy,by have:=h.ck;omega⟩
theorem LInv.keep (h:LInv m l) (hb:Bsy m s c) (hk:∀x∈s.aJ,∃y∈l.st.aJ,y.key=x.key):LInv m ⟨s,c,l.fs⟩ :=
 ⟨hb,h.f,fun p hp x hx=>by obtain⟨y,hy,e⟩:=hk x hx;rw [<-e];exact h.ap p hp y hy,h.k7⟩
theorem Bsy.ticks {m:Nat}:∀(n:Nat) (s:StoP) (c:ColP) (g:Nat),Bsy m s c->Bsy m (ticks n s c g).1 (ticks n s c g).2.1/\(ticks n s c g).1.aJ=s.aJ
 | 0,s,c,g,h=>⟨h,rfl⟩
 | n+1,s,c,g,h=>by
  unfold Go.Proofs.YtaboknhfiijipaaGreat.ticks
  by_cases hp:c.aN=0
  ·rw [if_pos hp];exact⟨h,rfl⟩
  ·rw [if_neg hp]
   have hp2:c.aN=1\/c.aN=2:=by have:=h.gc.ph;omega
   obtain⟨h1,h2,_,h4,h5,h6⟩:=ZF h.g h.gc hp2
   have h7:=ZG s c
   obtain⟨a,b⟩:=Bsy.ticks (m:=m) n (qF s c).1 (qF s c).2.1 (g+if (qF s c).2.2= [] then 0 else 1) ⟨h1,h2,by have:=h.gr;omega,by rw [h4];exact h.k7,by rw [h6];exact h.ck⟩
   exact⟨a,b.trans h4⟩
theorem J5 (s:StoP) (c:ColP) (ds:List ai):(zG s c ds).1.aJ=s.aJ:=by rw [kB]
theorem KB (hi:i<s.aJ.length):rts (Zn s i s.aJ[i] n)=rts s:=by
 show ur (s.aJ.set i { s.aJ[i] with aQ:=n })++uB s.aI=ur s.aJ++uB s.aI;rw [QX (x:= { s.aJ[i] with aQ:=n }) hi rfl]
theorem Xu (h:mvB n up=true) (h5:n<=5):mvN n up<=5:=by
 unfold mvB at h;unfold mvN;cases up<;>simp at h ⊢ <;> omega
theorem J7 (up:Bool):noE up≠0:=by cases up<;>decide
theorem z05 {D:ai} (hg:GoodS s) (hd:D.length<=300) (h:¬Fits s D):Qs s D:=(z06 hg hd).resolve_left h
theorem LInv.blobD (h:LInv m l) (ho:GoodD o):LInv (m+1) (blobD l o).1:=by
 have hu:=h.up (Nat.le_succ m);unfold Go.Proofs.YtaboknhfiijipaaGreat.blobD;by_cases h1:o.kind=1
 ·rw [if_pos h1];show LInv _ (zJ _ _ _ _);unfold pbP zJ;by_cases hf:Fits l.st o.data
  ·rw [if_pos hf,if_pos rfl];exact hu.keep (h.b.put hf) fun x hx=>⟨x,by rwa [J5]at hx,rfl⟩
  ·rw [if_neg hf,if_neg ab];exact hu
 ·rw [if_neg h1];by_cases h2:o.kind=2
  ·rw [if_pos h2];exact hu
  ·rw [if_neg h2];show LInv _ (zJ _ _ _ _);unfold hbP;cases hat:atB l.st o.dig with
   | none =>
    show LInv _ (zJ l stZ coZ 5);unfold zJ;rw [if_neg aa];exact hu
   | some ib =>
    obtain⟨i,b⟩:=ib;obtain⟨hi,rfl,hk,_⟩:=jw hat
    dsimp only;by_cases hmv:mvB l.st.aI[i].aQ (decide (o.kind=3))=true
    ·rw [if_pos hmv];show LInv _ (zJ l _ _ 0);unfold zJ;rw [if_pos rfl,<-hk];exact hu.keep (h.b.hold hi (Xu hmv ((h.b.g.b.one _ (List.getElem_mem hi)).2.2))) fun x hx=>⟨x,by rwa [J5]at hx,rfl⟩
    ·rw [if_neg hmv];show LInv _ (zJ l stZ coZ (noE _));unfold zJ;rw [if_neg (J7 _)];exact hu
theorem LInv.entD (h:LInv m l) (hm:m<=78) (ho:GoodD o) (h58:5<=o.kind/\o.kind<=8):LInv (m+1) (entD l o).1:=by
 have hu:=h.up (Nat.le_succ m);unfold Go.Proofs.YtaboknhfiijipaaGreat.entD;by_cases h1:o.kind=5
 ·rw [if_pos h1];show LInv _ (xb _ _ _);unfold xb;split
  ·rename_i h0;exact h.put hm (ho.k7 (.inl h58)) ho.g.p1 h0
  ·exact hu
 ·rw [if_neg h1];by_cases h2:o.kind=6
  ·rw [if_pos h2];show LInv _ (zJ _ _ _ _);unfold gtP;cases hat:atE l.st o.dig with
   | none =>
    show LInv _ (zJ l stZ l.co 5);unfold zJ;rw [if_neg aa];exact hu
   | some ix =>
    obtain⟨i,x⟩:=ix;obtain⟨hi,rfl,hk,_⟩:=vx hat
    show LInv _ (zJ l _ l.co 0);unfold zJ;rw [if_pos rfl];exact h.get wu hi
  ·rw [if_neg h2];show LInv _ (zJ _ _ _ _);unfold heP;cases hat:atE l.st o.dig with
   | none =>
    show LInv _ (zJ l stZ l.co 5);unfold zJ;rw [if_neg aa];exact hu
   | some ix =>
    obtain⟨i,x⟩:=ix;obtain⟨hi,rfl,hk,_⟩:=vx hat
    dsimp only;by_cases hmv:mvB l.st.aJ[i].aQ (decide (o.kind=7))=true
    ·rw [if_pos hmv];show LInv _ (zJ l _ _ 0);unfold zJ;rw [if_pos rfl];have hkx:∀x∈(Zn l.st i l.st.aJ[i] (mvN l.st.aJ[i].aQ (decide (o.kind=7)))).aJ,∃y∈l.st.aJ,y.key=x.key:=fun x hx=>yY (x:= { l.st.aJ[i] with aQ:=mvN l.st.aJ[i].aQ (decide (o.kind=7)) }) hi rfl hx;exact hu.keep (hu.b.of (Q6 h.b.g hi (Xu hmv ((h.b.g.e.one _ (List.getElem_mem hi)).2.2.1))) (xN h.b.gc rfl fun x hx=>by rwa [KB hi]at hx) ag hkx ag) hkx
    ·rw [if_neg hmv];show LInv _ (zJ l stZ _ (noE _));unfold zJ;rw [if_neg (J7 _)];exact hu
theorem LInv.roomD (h:LInv m l):LInv m (roomD l o).1:=by
 unfold Go.Proofs.YtaboknhfiijipaaGreat.roomD;by_cases h1:o.kind=9
 ·rw [if_pos h1];show LInv _ (zJ _ _ _ _);unfold evP;cases he:yd o.n l.st with
  | none =>
   show LInv m (zJ l stZ l.co 10);unfold zJ;rw [if_neg aa];exact h
  | some tg =>
   obtain⟨t,g⟩:=tg;show LInv m (zJ l t l.co 0);unfold zJ;rw [if_pos rfl];obtain⟨a1,_,_,_,a5⟩:=uW h.b.g he;obtain⟨b1,b2⟩:=X0 he;exact h.keep (h.b.of a1 (Xa h.b.g.b.ris a1.b.ris h.b.gc (fun b hb=>b1.subset hb) (z0r (fun b hb=>b1.subset hb) fun x hx=>b2.subset hx)) ((b1.filter _).length_le) (fun x hx=>⟨x,b2.subset hx,rfl⟩) (by rw [a5];exact Nat.le_refl _)) fun x hx=>⟨x,b2.subset hx,rfl⟩
 ·rw [if_neg h1];by_cases h2:o.kind=10
  ·rw [if_pos h2];split
   ·exact h.keep h.b.begin fun x hx=>⟨x,hx,rfl⟩
   ·exact h
  ·rw [if_neg h2];split
   ·exact h
   ·obtain⟨a,b⟩:=Bsy.ticks o.n l.st l.co 0 h.b;exact h.keep a fun x hx=>⟨x,by rwa [b]at hx,rfl⟩
theorem LInv.fliD (h:LInv m l) (hm:m<=78) (ho:GoodD o) (h12:12<=o.kind):LInv (m+1) (fliD l o).1:=by
 have hu:=h.up (Nat.le_succ m);unfold Go.Proofs.YtaboknhfiijipaaGreat.fliD;by_cases h1:o.kind=12
 ·rw [if_pos h1];show LInv _ (xb _ _ _);unfold xb;split
  ·rename_i h0;exact h.ask hm (ho.k7 (.inr h12)) (by have:=(ho.ask h1).1;omega) (by have:=(ho.ask h1).2;omega) h0
  ·exact hu
 ·rw [if_neg h1];by_cases h2:o.kind=13
  ·rw [if_pos h2];show LInv _ (xb _ _ _);unfold xb;split
   ·rename_i h0;exact h.done hm (ho.k7 (.inr h12)) ho.g.p1 h0
   ·exact hu
  ·rw [if_neg h2];show LInv _ (xb _ _ _);unfold xb;split
   ·rename_i h0;exact h.fail h0
   ·exact hu
theorem LInv.step (h:LInv m l) (hm:m<=78) (ho:GoodD o):LInv (m+1) (kh l o).1:=by
 unfold kh;split
 ·exact h.blobD ho
 ·split
  ·exact h.entD hm ho wu
  ·split
   ·exact h.roomD.up (Nat.le_succ m)
   ·exact h.fliD hm ho wu
theorem LInv.run:∀ {m:Nat} {l:LoP} {os:List OrdP},LInv m l->m+os.length<=79->(∀o∈os,GoodD o)->LInv (m+os.length) (k6 l os).1
 | m,l, [],h,_,_=>h
 | m,l,o::os,h,hm,ho=>by
  simp only [List.length_cons]at hm ⊢
  have:=(h.step wu (ho o (List.mem_cons_self ..))).run (os:=os) wu fun x hx=>ho x (List.mem_cons_of_mem _ hx)
  rw [show m+(os.length+1)=m+1+os.length by omega]
  exact this
abbrev lo0 (aL:Nat):LoP:=⟨⟨[], [],aL,0⟩,⟨0, [], []⟩, []⟩
theorem LInv.zero {aL:Nat} (h:aL<=4000):LInv 0 (lo0 aL):=by
 have hg:GoodS ⟨[], [],aL,0⟩:=⟨⟨ab,(fun b hb=>by cases hb),List.Pairwise.nil⟩,⟨ab,(fun b hb=>by cases hb),List.Pairwise.nil⟩,h,by simp [usd],ab,(fun x hx=>by cases hx)⟩
 have hc:GoodC ⟨[], [],aL,0⟩ ⟨0, [], []⟩:=⟨ab,(fun d hd=>by cases hd),List.Pairwise.nil,.inl rfl,fun _=>rfl,fun _=>rfl,(fun h=>by cases h),(fun h=>by cases h),(fun h=>by cases h)⟩
 exact⟨⟨hg,hc,by simp [unm],(fun x hx=>by cases hx),ab⟩,GoodF.nil_,(fun p hp=>by cases hp),(fun p hp=>by cases hp)⟩
theorem U9 (h:e≠0):zJ l s c e=l:=if_neg h
theorem JN {m:LoP} (h:e≠0):xb l m e=l:=if_neg h
theorem UE (h:(kh l o).2.err≠0):(kh l o).1=l:=by
 unfold kh blobD entD roomD fliD at h ⊢
 repeat' split
 all_goals first | rfl | skip
 all_goals simp only [*,if_true,if_false,ite_true,ite_false,if_pos,if_neg,not_false_eq_true,reduceCtorEq]at h
 all_goals first | exact U9 h | exact JN h | exact absurd rfl h | skip
abbrev z0x (A:aj) (c:Nat) (B:aj) (d:Nat) (s:StoP):Value:= .agg #[aA A s.aI.length c,aA B s.aJ.length d,aB .i64 s.aL,aB .i64 s.aK]
structure OwSC (w:World) (base:Nat) (v1 v2 v3:Value) (s:StoP) (c:ColP):Prop where
 s:OwSt w base v1 v2 s (fun b=>b<base)
 c:w.ownsRow base 9 1 v3 c.aM.length (strs c.aM)
theorem OwSt.z_ {N:am}:OwSt w base (aA none 0 0) (aA none 0 0) stZ N:=OwLo.nil_.s
theorem OwSC.z_:OwSC w base (aA none 0 0) (aA none 0 0) (aA none 0 0) stZ coZ:=⟨.z_,World.ownsRow_nil _ _ _ _⟩
theorem XZ {v1 v2:Value} (h:t.aL=s.aL/\t.aK=s.aK):stV v1 v2 t=stV v1 v2 s:=by
 show Value.agg _=_;rw [h.1,h.2]
section
variable (A:aj) (c:Nat) (B:aj) (d:Nat) (s:StoP) (Ag:aj) (ng:Nat) (cp:ColP) (w:World)
theorem Vk (D:ai) (DA:aj) (dc:Nat) (hg:GoodS s) (hr:RdSt w A c B d s) (hgl:cp.aM.length<=1000) (hgc:GoodC s cp) (hc:RdC w Ag ng cp) (hd:D.length<=300) (hD:Sl w 1 DA D.length dc (bys D)) :
  Calls zZZ 111 #[z0x A c B d s,coV (aA Ag cp.aM.length ng) cp,aA DA D.length dc] w fun e w' =>
   ∃v1 v2 v3,e= .returned (.tuple #[stV v1 v2 (pbP s cp D).1,coV v3 (pbP s cp D).2.1,aD ⟨(pbP s cp D).2.2.1.toArray⟩,aB .i64 ((pbP s cp D).2.2.2:Int)])/\OwSC w' w.heap.size v1 v2 v3 (pbP s cp D).1 (pbP s cp D).2.1/\Below w.heap.size w w':=by
 unfold pbP;by_cases hf:Fits s D
 ·rw [if_pos hf];refine(ZK A c B d s Ag ng cp D DA dc w hg hr hgl hgc hc hf hD).mono ?_;rintro e w' ⟨v1,v2,v3,rfl,h1,h2,h3⟩;exact⟨v1,v2,v3,by rw [XZ (jH (zH s D) cp [shaS D])];rfl,⟨h1,h2⟩,h3⟩
 ·rw [if_neg hf];refine(jo A c B d s Ag ng cp D DA dc w hg hr hgl hgc hc hd (z05 hg hd hf) hD).mono ?_;rintro e w' ⟨rfl,h3⟩;exact⟨_,_,_,rfl,.z_,h3⟩
theorem Vj (k:ai) (hg:GoodS s) (hr:RdSt w A c B d s) :
  Calls zZZ 113 #[z0x A c B d s,aD ⟨k.toArray⟩] w fun e w' =>
   ∃v,e= .returned (.tuple #[v,aB .i64 ((gbP s k).2:Int)])/\w'.ownsRow w.heap.size 5 1 v (gbP s k).1.length (bys (gbP s k).1)/\Below w.heap.size w w':=by
 unfold gbP;cases hat:atB s k with
 | none =>
  refine(jX A c B d s k w hg hr (Qv hat)).mono ?_;rintro e w' ⟨rfl,h3⟩;exact⟨_,rfl,World.ownsRow_nil _ _ _ _,h3⟩
 | some ib =>
  obtain⟨i,b⟩:=ib;obtain⟨hi,rfl,hk,_⟩:=jw hat
  refine(Kg A c B d s k i w hg hr hi hk).mono ?_;rintro e w' ⟨v,rfl,h2,h3⟩;exact⟨v,rfl,h2,h3⟩
theorem Up (h5:n<=5):(mvB n up=true->if up then n<5 else 0<n/\n<=5)/\(¬mvB n up=true->if up then n=5 else n=0):=by
 unfold mvB;cases up<;>simp<;>omega
theorem Y8 (k:ai) (up:Bool) (hg:GoodS s) (hr:RdSt w A c B d s) (hgl:cp.aM.length<=1000) (hgc:GoodC s cp) (hc:RdC w Ag ng cp) :
  Calls zZZ 114 #[z0x A c B d s,coV (aA Ag cp.aM.length ng) cp,aD ⟨k.toArray⟩,.bool up] w fun e w' =>
   ∃v1 v2 v3,e= .returned (.tuple #[stV v1 v2 (hbP s cp k up).1,coV v3 (hbP s cp k up).2.1,aB .i64 ((hbP s cp k up).2.2:Int)])/\OwSC w' w.heap.size v1 v2 v3 (hbP s cp k up).1 (hbP s cp k up).2.1/\Below w.heap.size w w':=by
 unfold hbP;cases hat:atB s k with
 | none =>
  refine(Qn A c B d s Ag ng cp k up 5 w hg hr hgl hgc hc aa fun W h=>Ki A c B d s k up W hg h (Qv hat)).mono ?_;rintro e w' ⟨rfl,h3⟩;exact⟨_,_,_,rfl,.z_,h3⟩
 | some ib =>
  obtain⟨i,b⟩:=ib;obtain⟨hi,rfl,hk,_⟩:=jw hat
  dsimp only;have h5:=(hg.b.one _ (List.getElem_mem hi)).2.2;by_cases hmv:mvB s.aI[i].aQ up=true
  ·rw [if_pos hmv];refine(Vf A c B d s Ag ng cp k up i w hg hr hgl hgc hc hi hk ((Up h5).1 hmv) _ rfl (ui hg hi (Xu hmv h5))).mono ?_;rintro e w' ⟨v1,v2,v3,rfl,h1,h2,h3⟩;exact⟨v1,v2,v3,by rw [XZ (jH _ cp [k])];rfl,⟨h1,h2⟩,h3⟩
  ·rw [if_neg hmv];refine(Qn A c B d s Ag ng cp k up (noE up:Int) w hg hr hgl hgc hc (bne_iff_ne.1 (Xw up)) fun W h=>Vv A c B d s k up i W hg h hi hk ((Up h5).2 hmv)).mono ?_;rintro e w' ⟨rfl,h3⟩;exact⟨_,_,_,rfl,.z_,h3⟩
theorem z49 (k:ai) (hg:GoodS s) (hr:RdSt w A c B d s) (hck:s.aK<1099511627776) :
  Calls zZZ 117 #[z0x A c B d s,aD ⟨k.toArray⟩] w fun e w' =>
   ∃v1 v2 vp,e= .returned (.tuple #[stV v1 v2 (gtP s k).1,vp,aB .i64 ((gtP s k).2.2:Int)])/\OwSt w' w.heap.size v1 v2 (gtP s k).1 (fun b=>b<w.heap.size)/\w'.ownsRow w.heap.size 85 3 vp (gtP s k).2.1.length (pcs (gtP s k).2.1)/\Below w.heap.size w w':=by
 unfold gtP;cases hat:atE s k with
 | none =>
  refine(Ye A c B d s k w hg hr (Qw hat)).mono ?_;rintro e w' ⟨rfl,h3⟩;exact⟨_,_,_,rfl,.z_,World.ownsRow_nil _ _ _ _,h3⟩
 | some ib =>
  obtain⟨i,b⟩:=ib;obtain⟨hi,rfl,hk,_⟩:=vx hat
  refine(Vt A c B d s (kv s i s.aJ[i]) k s.aJ[i].aP i w hg hr hi hk rfl hck rfl).mono ?_;rintro e w' ⟨A',c',B',d',A5,c5,rfl,h1,h2,h3⟩;exact⟨_,_,_,rfl,h1,h2,h3⟩
theorem z3g (k:ai) (up:Bool) (hg:GoodS s) (hr:RdSt w A c B d s) :
  Calls zZZ 118 #[z0x A c B d s,aD ⟨k.toArray⟩,.bool up] w fun e w' =>
   ∃v1 v2,e= .returned (.tuple #[stV v1 v2 (heP s k up).1,aB .i64 ((heP s k up).2:Int)])/\OwSt w' w.heap.size v1 v2 (heP s k up).1 (fun b=>b<w.heap.size)/\Below w.heap.size w w':=by
 unfold heP;cases hat:atE s k with
 | none =>
  refine(Kj A c B d s k up w hg hr (Qw hat)).mono ?_;rintro e w' ⟨rfl,h3⟩;exact⟨_,_,rfl,.z_,h3⟩
 | some ib =>
  obtain⟨i,b⟩:=ib;obtain⟨hi,rfl,hk,_⟩:=vx hat
  dsimp only;have h5:=(hg.e.one _ (List.getElem_mem hi)).2.2.1;by_cases hmv:mvB s.aJ[i].aQ up=true
  ·rw [if_pos hmv];refine(Vy A c B d s k up i w hg hr hi hk ((Up h5).1 hmv)).mono ?_;rintro e w' ⟨v1,v2,rfl,h1,h3⟩;exact⟨v1,v2,rfl,h1,h3⟩
  ·rw [if_neg hmv];refine(Vx A c B d s k up i w hg hr hi hk ((Up h5).2 hmv)).mono ?_;rintro e w' ⟨rfl,h3⟩;exact⟨_,_,rfl,.z_,h3⟩
end
end Go.Proofs.YtaboknhfiijipaaGreat
