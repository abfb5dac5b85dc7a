/- Devices come up for the program as they were. No condition; no program is in sight. -/
import Derived.Test.YtdhemppeejlbeaaGreatMTP2
set_option linter.unusedVariables false
set_option linter.unusedSimpArgs false
namespace Go.TI
open Go
def Lr (t:Bj):List UInt8:=if t.Back=0 then UInt8.ofNat (L t.Text).length::L t.Text else [UInt8.ofNat (128+t.Size).toNat,UInt8.ofNat t.Back.toNat]
variable {r r' b:List A4} {d e d':Ba} {y:A4} {n k m j:Nat} {g f:Flash} {c nx nx':Int} {s:Store} {P:Int->Prop} {T:List ByteArray} {a ss:List Cc} {l l':Vs} {p:Page} {ps:List Page} {x:Ds} {t:Bj} {K:Ks}
theorem lA {a:List UInt8} (h:xI a t) (ho:a.length<=64):(Lr t).length<=32:=by
 unfold Lr
 rcases h with⟨h1,h2,h3,h4⟩|⟨h1,h2,h3,h4,h5⟩
 ·rw [Aw h1,A0];omega
 rw [Ax (by omega)];simp
theorem u7 {a:List UInt8} (h:xI a t):a.length<=(TS a t).length:=by
 unfold TS;split
 ·simp
 rw [fB];omega
theorem Mp {l:List Bj} (h:qG l):∀i,i<=l.length->(ER (l.take i)).length<=(ER l).length:=by
 have step:∀i,i<l.length->(ER (l.take i)).length<=(ER (l.take (i+1))).length:=λi hi=>by
  rw [Aq hi,N5];exact u7 (h i _ (Ab hi))
 intro i hi;have:∀k,i+k<=l.length->(ER (l.take i)).length<=(ER (l.take (i+k))).length:=by
  intro k
  induction k with
  |zero=>intro _;exact A3 _
  |succ k ih=>
   intro hk;exact Hu (ih (by omega)) (step (i+k) (by omega))
 have:=this (l.length-i) (by omega);rw [show i+(l.length-i)=l.length by omega,AP]at this;exact this
theorem yO (s:ByteArray) (hs:(L s).length<=64):∃l,qG l/\ER l=L s/\l.length<=64/\((E7 s=some (bs (122::l.flatMap Lr),true))\/E7 s=some (bs (114::L s),true)):=by
 obtain⟨l,h1,h2,h3,h4⟩:=sF s hs;refine⟨l,h2,h3,h4,?_⟩;unfold E7;rw [BM,Ae (by omega),Ac,h1];simp only [Aa];obtain⟨b,q1,q2⟩:=Bg (body:=λq:ByteArray×Int=>Et l q.1 q.2) (λz i=>(z,i)) l.length (λi z=>L z=122::(l.take i).flatMap Lr/\(L z).length<=1+32*i) (λz=>L z=122::l.flatMap Lr/\(L z).length<=3000)
  (λz i hi hz=>by
   have hx:=Ab hi;have c:=h2 i _ hx;have a:=Mp h2 i (by omega);rw [h3]at a;have d:=lA c (by omega);have et:(l.take (i+1)).flatMap Lr=(l.take i).flatMap Lr++Lr l[i]:=by rw [Aq hi,Pt];simp
   simp only [Et,AG,Ad hi,Af,AB,hx,Aa];rw [ad1 (by omega)];refine .inl ?_
   rcases c with⟨k1,k2,k3,k4⟩|⟨k1,k2,k3,k4,k5⟩
   ·rw [show(l[i].Back==0)=true by simpa using k1,Af,G5 _ _ (by rw [Wc];omega)];simp only [Aa];rw [G5 _ _ (by rw [DG,Ah,Wc];omega)];have hL:L (z++Hz [IntKind.u8.wrap (Gb l[i].Text)]++l[i].Text)=L z++Lr l[i]:=by
     rw [DG,DG,IY];unfold Lr;rw [Aw k1,BM];have:IntKind.u8.wrap ((L l[i].Text).length:Int)=((L l[i].Text).length:Int):=by rw [IntKind.wrap_u8];omega
     rw [this];simp
    refine⟨_,rfl,?_,?_⟩
    ·rw [hL,hz.1,et];rfl
    rw [hL,Ah];omega
   rw [show(l[i].Back==0)=false by simp;omega,Ac,C6 (by omega) (by omega),G5 _ _ (by rw [LZ];simp;omega)];have hL:L (z++Hz [IntKind.u8.wrap (128+l[i].Size),IntKind.u8.wrap l[i].Back])=L z++Lr l[i]:=by
    rw [DG,IY];unfold Lr;rw [Ax (by omega)];have e1:IntKind.u8.wrap (128+l[i].Size)=128+l[i].Size:=by rw [IntKind.wrap_u8];omega
    have e2:IntKind.u8.wrap l[i].Back=l[i].Back:=by rw [IntKind.wrap_u8];omega
    rw [e1,e2];rfl
   refine⟨_,rfl,?_,?_⟩
   ·rw [hL,hz.1,et];rfl
   rw [hL,Ah];omega)
  (λz hz=>⟨z,by simp only [Et,AG,Ap,Av,Ac],by rw [hz.1,AP],by omega⟩) (s:=bs [122]) ⟨by rw [El];rfl,by rw [El];simp⟩
 have q1':Au (λq:ByteArray×Int=>Et l q.1 q.2) (bs [122],0)=some b:=q1;rw [q1'];simp only [Aa];have hb:b=bs (122::l.flatMap Lr):=I1 (by rw [q2.1,El])
 cases decide (ad ((L s).length:Int) 1<=Gb b)with
 |false=>left;rw [hb];rfl
 |true=>
  right;simp only [Af];rw [G5 _ _ (by rw [El];simp;omega)];simp only [Aa];have e:bs [114]++s=bs (114::L s):=I1 (by rw [DG,El,El];rfl);rw [e]
theorem T5 (t:ByteArray) (ht:(L t).length<=10000):∀(l:List Bj) (a:Nat) (c:List Bj),(∀x∈l,∃o:List UInt8,xI o x/\o.length<=64)->(L t).drop a=l.flatMap Lr->a<=(L t).length->c.length<=a->Au (λq:List Bj×Int=>Cd t q.1 q.2) (c,(a:Int))=some (.inl (c++l))
 |[],a,c,hl,h,ha,ho=>by
  have:(L t).length=a:=by
   have:=BR List.length h;rw [B5]at this;simp at this;omega
  rw [AA];have hb:Cd t c (a:Int)=some (.inr (.inl c)):=by
   simp only [Cd];rw [BM,Ae (by omega),Ac]
  simp only [hb];rw [Az]
 |x::l,a,c,hl,h,ha,ho=>by
  obtain⟨o,m,p⟩:=hl x (by simp);rw [Hw]at h;have d:=BR List.length h;rw [B5,Ah]at d
  rcases m with⟨k1,k2,k3,k4⟩|⟨k1,k2,k3,k4,k5⟩
  ·have he:Lr x=UInt8.ofNat (L x.Text).length::L x.Text:=by unfold Lr;rw [Aw k1]
   rw [he]at h d;rw [A0]at d;have f:a<(L t).length:=by omega
   have e:=Bi f;rw [h,BF]at e
   injection e with hx hd
   have i:(((L t)[a]).toNat:Int)=((L x.Text).length:Int):=by rw [<-hx,GB];omega
   have k:sub t ((a+1:Nat):Int) ((a+1+(L x.Text).length:Nat):Int)=some x.Text:=by
    rw [EZ t (by omega) (by omega)];congr 1;apply I1;rw [HU,<-hd,show a+1+(L x.Text).length-(a+1)=(L x.Text).length by omega,Pn rfl]
   have hb:Cd t c (a:Int)=some (.inl (c++ [Bj.mk 0 0 x.Text],((a+1+(L x.Text).length:Nat):Int))):=by
    simp only [Cd];rw [BM,Ad (by omega),Af,EE t f];simp only [Aa];rw [i,Ns (by omega) (by omega),Ae (by omega),Ac,ad1 (by omega),C6 (by omega) (by omega),Ae (by omega),Ac];rw [show((a+1:Nat):Int)+((L x.Text).length:Int)=((a+1+(L x.Text).length:Nat):Int) by omega,k];simp only [Aa];rw [Ct (by simp;omega)];rfl
   have j:Bj.mk 0 0 x.Text=x:=by
    cases x with
    |mk b z u=>simp only at k1 k2;rw [k1,k2]
   rw [j]at hb;rw [AA];simp only [hb];have:=T5 t ht l (a+1+(L x.Text).length) (c++ [x]) (λy hy=>hl y (by simp [hy])) (by rw [<-CB,<-hd,E9 rfl]) (by omega) (by simp;omega);rw [Ao,Co]at this;exact this
  have he:Lr x=[UInt8.ofNat (128+x.Size).toNat,UInt8.ofNat x.Back.toNat]:=by unfold Lr;rw [Ax (by omega)]
  rw [he]at h d;simp only [A0,Bk]at d;have f:a<(L t).length:=by omega
  have e:=Bi f;rw [h]at e;simp only [BF,A5]at e
  injection e with hx hd
  have g:=Bi (show a+1<(L t).length by omega);rw [<-hd]at g
  injection g with hx2 hd2
  have i:(((L t)[a]).toNat:Int)=128+x.Size:=by rw [<-hx,GB];omega
  have n:(((L t)[a+1]'(by omega)).toNat:Int)=x.Back:=by rw [<-hx2,GB];omega
  have hb:Cd t c (a:Int)=some (.inl (c++ [Bj.mk x.Back x.Size (bs [])],((a+2:Nat):Int))):=by
   simp only [Cd];rw [BM,Ad (by omega),Af,EE t f];simp only [Aa];rw [i,Ns (by omega) (by omega),Ad (by omega),Af,C6 (b:=2) (by omega) (by omega),Ae (by omega),Ac,ad1 (by omega),EE t (by omega)];simp only [Aa];rw [n,Ns (by omega) (by omega),C4 (by omega) (by omega),Ct (by simp;omega)];simp only [Aa];rw [show 128+x.Size-128=x.Size by omega];rfl
  have j:Bj.mk x.Back x.Size (bs [])=x:=by
   cases x with
   |mk b z u=>simp only at k5⊢;rw [show bs []=u from I1 (by rw [k5,El])]
  rw [j]at hb;rw [AA];simp only [hb];have:=T5 t ht l (a+2) (c++ [x]) (λy hy=>hl y (by simp [hy])) (by rw [show a+2=a+1+1 by omega];exact hd2.symm) (by omega) (by simp;omega);rw [Ao,Co]at this;exact this
def GI (l:List UInt8):List Int:=l.map λc=>(c.toNat:Int)
theorem m9 (l:List UInt8):L (Hz (GI l))=l:=by
 rw [IY,GI,EY];have:((λn:Int=>UInt8.ofNat n.toNat)∘λc:UInt8=>(c.toNat:Int))=id:=by
  funext c;simp
 rw [this,RY]
theorem pD (b:ByteArray):gP b=GI (L b):=rfl
theorem W8 (x:Bj) (b:1<=x.Back) (hs:0<=x.Size/\x.Size<=31):∀(n k:Nat) (a:List UInt8),(k:Int)+n=x.Size->x.Back<=(a.length:Int)->a.length+n<=1000->Au (λq:List Int×Int=>DU x q.1 q.2) (GI a,(k:Int))=some (GI (Tj n x.Back.toNat a))
 |0,k,a,hk,c,ho=>by
  rw [AA];have hb:DU x (GI a) (k:Int)=some (.inr (GI a)):=by
   simp only [DU];rw [Ae (by omega),Ac]
  simp only [hb];rfl
 |n+1,k,a,hk,c,ho=>by
  have d:ln (GI a)=(a.length:Int):=by rw [BW,GI,Be]
  have e:gi (GI a) ((a.length:Int)-x.Back)=some (((a[a.length-x.Back.toNat]?).getD 0).toNat:Int):=by
   rw [show(a.length:Int)-x.Back=((a.length-x.Back.toNat:Nat):Int) by omega,AB,GI,AL,Ab (by omega)];rfl
  have hb:DU x (GI a) (k:Int)=some (.inl (GI (a++ [(a[a.length-x.Back.toNat]?).getD 0]),((k+1:Nat):Int))):=by
   simp only [DU];rw [Ad (by omega),Af,d,C4 (by omega) (by omega),e];simp only [Aa];rw [Ct (by simp [GI];omega),ad1 (by omega)];simp only [Aa,GI,Cq,BZ,jT]
  rw [AA];simp only [hb];rw [Tj];exact W8 x b hs n (k+1) _ (by omega) (by simp;omega) (by simp;omega)
theorem hJ (l:List Bj) (hl:l.length<=64) (a:qG l) (h64:(ER l).length<=64):Au (λq:List Int×Int=>DV l q.1 q.2) ([],0)=some (.inl (GI (ER l))):=by
 obtain⟨b,h1,h2⟩:=Bg (body:=λq:List Int×Int=>DV l q.1 q.2) (λ(o:List UInt8) i=>(GI o,i)) l.length (λi o=>o=ER (l.take i)) (λb=>b= .inl (GI (ER l)))
  (λo i hi ho=>by
   have hx:=Ab hi;have hk:=a i _ hx;have hm:=Mp a i (by omega);have d:=Mp a (i+1) (by omega);have et:ER (l.take (i+1))=TS o l[i]:=by rw [Aq hi,N5,ho]
   rw [<-ho]at hk hm;rw [et]at d
   have c:∀q:List UInt8,ln (GI q)=(q.length:Int):=λq=>by rw [BW,GI,Be]
   simp only [DV,AG,Ad hi,Af,AB,hx,Aa];refine .inl ⟨TS o l[i],?_,et.symm⟩
   rcases hk with⟨k1,k2,k3,k4⟩|⟨k1,k2,k3,k4,k5⟩
   ·rw [show(l[i].Back==0)=true by simpa using k1,Af,BM,Ex,Ad (by omega)];simp only [Aa,Aj,Ac];rw [show(l[i].Size !=0)=false by simp [k2],pD];simp only [Ac];have e1:ap 1 (GI o) (GI (L l[i].Text))=some (GI (TS o l[i])):=by
     rw [Ct (by simp [GI];omega)];unfold TS;rw [Aw k1];simp [GI]
    rw [e1];simp only [Aa,B6];rw [c,Ae (by omega),Ac,ad1 (by omega)]
   rw [show(l[i].Back==0)=false by simp;omega,Ac,c,Ex,Ad (by omega)];simp only [Aa,Aj,Ac];rw [Ex,Ad (by omega)];simp only [Aa,Aj,Ac];have e:seq l[i].Text (bs [])=true:=by rw [Kc,A6];exact I1 (by rw [k5,El])
   rw [e];simp only [Aj,Ac];have e1:=W8 l[i] k1 ⟨by omega,k4⟩ l[i].Size.toNat 0 o (by omega) k2 (by omega);rw [show((0:Nat):Int)=0 from rfl]at e1;rw [e1];have e2:Tj l[i].Size.toNat l[i].Back.toNat o=TS o l[i]:=by unfold TS;rw [Ax (by omega)]
   rw [e2];simp only [Aa,B6]
   rw [c,Ae (by omega),Ac,ad1 (by omega)])
  (λo ho=>⟨.inl (GI o),by simp only [DV,AG,Ap,Av,Ac],by rw [ho,AP]⟩) (s:=[]) rfl
 rw [<-h2];exact h1
theorem sE (s:ByteArray) (hs:(L s).length<=64):∃z,E7 s=some (z,true)/\FD z=some (s,true)/\1<=(L z).length:=by
 obtain⟨l,h1,h2,h3,h4⟩:=yO s hs;have fin:∀z:ByteArray,E7 s=some (z,true)->((E7 s).bind λv3=>(bif(!v3.2)then(some true)else(some (!(seq v3.1 z))):Option (Bool)).bind λj2=>bif j2 then(some ((bs []),false))else(some (s,true)))=some (s,true):=by
  intro z hz;rw [hz];have:seq z z=true:=by rw [Kc];simp
  simp only [Aa,Aj,Ac,this]
 rcases h4 with h4|h4
 ·refine⟨_,h4,?_,by rw [El];simp⟩;have hf:=fin _ h4;generalize hz:bs (122::l.flatMap Lr)=z at h4 hf;have hL:L z=122::l.flatMap Lr:=by rw [<-hz,El]
  have d:(L z).length<=3000:=by
   have:∀m:List Bj,(∀x∈m,∃o:List UInt8,xI o x/\o.length<=64)->(m.flatMap Lr).length<=32*m.length:=by
    intro m
    induction m with
    |nil=>intro _;simp
    |cons x m ih=>
     intro hm;obtain⟨o,f,g⟩:=hm x (by simp);have:=lA f g;have:=ih (λy hy=>hm y (by simp [hy]));rw [Hw,Ah,A0];omega
   have:=this l (λx hx=>by
    obtain⟨i,hi,rfl⟩:=AF hx;have hm:=Mp h1 i (by omega);rw [h2]at hm
    exact⟨_,h1 i _ (Ab hi),by omega⟩)
   rw [hL,A0];omega
  unfold FD;have a:1<=(L z).length:=by rw [hL];simp
  rw [BM,show(((L z).length:Int)==0)=false by rw [DO];omega,Ac];have b:sub z 1 ((L z).length:Int)=some (bs (l.flatMap Lr)):=by
   rw [show(1:Int)=((1:Nat):Int)from rfl,EZ z a (A3 _)];congr 1;apply I1;rw [HU,El,AO (by rw [B5];omega),hL];rfl
  have c:sx z 0=some 122:=by
   rw [show(0:Int)=((0:Nat):Int)from rfl,EE z (i:=0) a];have:(L z)[0]?=some 122:=by rw [hL];rfl
   rw [Ab (by omega)]at this
   injection this with this
   rw [this];rfl
  rw [b,c];simp only [Aa];rw [show((122:Int)==122)=true from rfl];simp only [Af];have h:(L (bs (l.flatMap Lr))).length<=10000:=by rw [El];rw [hL,A0]at d;omega
  have e:=T5 (bs (l.flatMap Lr)) h l 0 [] (λx hx=>by
    obtain⟨i,hi,rfl⟩:=AF hx;have hm:=Mp h1 i (by omega);rw [h2]at hm
    exact⟨_,h1 i _ (Ab hi),by omega⟩) (by rw [El];rfl) (by omega) (by simp)
  rw [show((0:Nat):Int)=0 from rfl,A5]at e;have ht:Jd (bs (l.flatMap Lr))=some (l,true):=by
   unfold Jd;rw [e];rfl
  have hp:Fu l=some (s,true):=by
   unfold Fu;rw [hJ l h3 h1 (by rw [h2];omega),h2];simp only [Aa,B6];congr 2;apply I1;rw [m9]
  rw [ht];simp only [Aa];rw [hp];simp only [Aa,Aj,Ac,B6];exact hf
 refine⟨_,h4,?_,by rw [El];simp⟩;have hf:=fin _ h4;generalize hz:bs (114::L s)=z at h4 hf;have hL:L z=114::L s:=by rw [<-hz,El]
 unfold FD;have a:1<=(L z).length:=by rw [hL];simp
 rw [BM,show(((L z).length:Int)==0)=false by rw [DO];omega,Ac];have b:sub z 1 ((L z).length:Int)=some s:=by
  rw [show(1:Int)=((1:Nat):Int)from rfl,EZ z a (A3 _)];congr 1;apply I1;rw [HU,AO (by rw [B5];omega),hL];rfl
 have c:sx z 0=some 114:=by
  rw [show(0:Int)=((0:Nat):Int)from rfl,EE z (i:=0) a];have:(L z)[0]?=some 114:=by rw [hL];rfl
  rw [Ab (by omega)]at this
  injection this with this
  rw [this];rfl
 rw [b,c];simp only [Aa];rw [show((114:Int)==122)=false from rfl];simp only [Ac,Aa,B6];exact hf
theorem Tk (a b:List ByteArray):No (a++b)=No a++No b:=by unfold No;rw [Pt]
theorem mU (a b:List Ds):GH (a++b)=GH a++GH b:=by unfold GH;rw [Pt]
def C9 (seq tx:Int) (T:List ByteArray):List Page:=T.mapIdx λi t=>Page.mk 2 (seq+i) tx i T.length t
theorem oB (a:List Ds) (hr:a.length<=1048576) (j:∀r∈a,GR r=true):∃T:List ByteArray,Au (λs:List ByteArray×Int=>HZ a s.1 s.2) ([(bs [])],0)=some (.inl T)/\1<=T.length/\T.length<=1+a.length/\No T=GH a/\∀t∈T,(L t).length<=90:=by
 obtain⟨b,h1,T,h2,h3⟩:=Bg (body:=λs:List ByteArray×Int=>HZ a s.1 s.2) (λ(o:List ByteArray) i=>(o,i)) a.length
  (λi T=>1<=T.length/\T.length<=1+i/\No T=GH (a.take i)/\∀t∈T,(L t).length<=90)
  (λb=>∃T:List ByteArray,b= .inl T/\1<=T.length/\T.length<=1+a.length/\No T=GH a/\∀t∈T,(L t).length<=90)
  (λT i hi hT=>by
   obtain⟨k,l,g,h⟩:=hT;have hx:=Ab hi;obtain⟨t,t1,t2⟩:=ZN (j _ (AC hi));have m:=pO (j _ (AC hi));rw [<-t2]at m;have et:GH (a.take (i+1))=GH (a.take i)++L t:=by rw [Aq hi,mU,t2];simp [GH]
   rcases GL T with e|⟨T0,c,e⟩
   ·subst e;simp at k
   rw [GM]at e;subst e;have n:ln (T0++ [c])=((T0.length+1:Nat):Int):=by rw [BW];simp
   rw [Ah,An]at k l;have p:sb (ln (T0++ [c])) 1=(T0.length:Int):=by rw [n,C4 (by omega) (by omega)];omega
   have q:gi (T0++ [c]) (T0.length:Int)=some c:=GJ _ _;have u:=h c (by simp);rw [Tk]at g;simp only [HZ,AG,Ad hi,Af,AB,hx,Aa];rw [t1];simp only [Aa,Aj,Ac];rw [p,q];simp only [Aa];rw [BM,BM,C6 (by omega) (by omega),ad1 (by omega)];refine .inl ?_;by_cases f:((L c).length:Int)+((L t).length:Int)>90
   ·rw [Ad f,Af,Ct (by simp;omega)];refine⟨T0++ [c]++ [t],rfl,by simp,by simp;omega,?_,λx d=>?_⟩
    ·rw [Tk,Tk,et,g];simp [No]
    rw [Ai,Ay]at d
    rcases d with d|rfl
    ·exact h x d
    omega
   rw [Ae f,Ac,G5 _ _ (by omega)];simp only [Aa];rw [Ja];refine⟨T0++ [c++t],rfl,by simp,by simp;omega,?_,λx d=>?_⟩
   ·rw [Tk,et,<-g];simp [No,DG]
   rw [Ai,Ay]at d
   rcases d with d|rfl
   ·exact h x (by simp [d])
   rw [DG,Ah];omega)
  (λT hT=>⟨_,by simp only [HZ,AG,Ap,Av,Ac],T,rfl,hT.1,hT.2.1,by rw [hT.2.2.1,AP],hT.2.2.2⟩) (s:=[bs []]) ⟨by simp,by simp,by simp [No,GH,El],λt ht=>by rw [Ay]at ht;rw [ht,El];simp⟩
 subst h2;exact⟨T,h1,h3⟩
theorem oC (seq tx:Int) (a:List Ds) (hr:a.length<=1000) (c:∀r∈a,GR r=true):∃T:List ByteArray,1<=T.length/\No T=GH a/\(∀t∈T,(L t).length<=90)/\T.length<=1+a.length/\
  ((Ny seq tx a=some (C9 seq tx T,true)/\T.length<=9/\1<=seq/\seq+T.length-1<=1000000000/\1<=tx/\tx<=1000000000)\/(Ny seq tx a=some ([],false)/\¬(T.length<=9/\1<=seq/\seq+T.length-1<=1000000000/\1<=tx/\tx<=1000000000))):=by
 obtain⟨T,h1,h2,h2',h3,h4⟩:=oB a (by omega) c;refine⟨T,h2,h3,h4,h2',?_⟩;unfold Ny;rw [h1];simp only [Aa,B6];rw [BW];by_cases h9:(T.length:Int)>9
 ·rw [Ad h9];exact .inr ⟨rfl,λhh=>by omega⟩
 rw [Ae h9];simp only [Ac];rw [C4 (by omega) (by omega),C6 (by omega) (by omega),Ex,Ex];simp only [Aa];by_cases hs:1<=seq/\seq<=1000000000-(T.length:Int)+1
 ·rw [Ad hs];simp only [Aj,Ac];by_cases ht:1<=tx/\tx<=1000000000
  ·rw [Ad ht];simp only [Aj,Ac,Aa];left;obtain⟨b,q1,q2⟩:=Bg (body:=λs:List Page×Int=>HY seq tx T s.1 s.2) (λ(o:List Page) i=>(o,i)) T.length (λi o=>o=(C9 seq tx T).take i) (λb=>b=C9 seq tx T)
    (λo i hi ho=>by
     have hx:=Ab hi;have e:o.length<=i:=by rw [ho,AE];omega
     simp only [HY,AG,Ad hi,Af,AB,hx,Aa];rw [C6 (by omega) (by omega),BW,Ct (by simp;omega)];simp only [Aa];rw [ad1 (by omega)];refine .inl ⟨_,rfl,?_⟩;have d:(C9 seq tx T)[i]?=some (Page.mk 2 (seq+i) tx i T.length T[i]):=by unfold C9;rw [JR,hx];rfl
     rw [DR,d,ho]
     rfl)
    (λo ho=>⟨o,by simp only [HY,AG,Ap,Av,Ac],by rw [ho,AO];unfold C9;rw [IH];exact A3 _⟩) (s:=[]) rfl
   have q1':Au (λs:List Page×Int=>HY seq tx T s.1 s.2) ([],0)=some b:=q1;rw [q1',q2];exact⟨rfl,by omega,by omega,by omega,ht.1,ht.2⟩
  rw [Ae ht];exact .inr ⟨rfl,λhh=>ht ⟨hh.2.2.2.1,hh.2.2.2.2⟩⟩
 rw [Ae hs];exact .inr ⟨rfl,λhh=>hs ⟨hh.2.1,by omega⟩⟩
def Steps:Flash->List Cc->Flash->Prop
 |f,[],g=>g=f
 |f,s::ss,g=>Rz f s/\Steps (JU f s) ss g
theorem NP:∀(f:Flash) (a b:List Cc) (g:Flash),Steps f (a++b) g↔∃m,Steps f a m/\Steps m b g
 |f,[],b,g=>⟨λh=>⟨f,rfl,h⟩,λ⟨m,h1,h2⟩=>by rw [h1]at h2;exact h2⟩
 |f,s::a,b,g=>by
  rw [BF];simp only [Steps,NP];constructor
  ·rintro⟨h1,m,h2,h3⟩;exact⟨m,⟨h1,h2⟩,h3⟩
  rintro⟨m,⟨h1,h2⟩,h3⟩;exact⟨h1,m,h2,h3⟩
theorem VI:∀{f:Flash} {a:List Cc} {g:Flash},Cg f->Steps f a g->Cg g
 |f,[],g,hf,h=>by rw [h];exact hf
 |f,s::a,g,hf,h=>VI (tK hf h.1) h.2
theorem jO {m:Flash} {s:Cc} (h:Steps f a m) (hs:Rz m s):Steps f (a++ [s]) (JU m s):=(NP f a [s] _).2 ⟨m,h,hs,rfl⟩
theorem dL (hf:Cg f) (h:Steps f a g) (ha:a.length<=1048576):Q4 f a=some (g,(a.length:Int)):=by
 unfold Q4;rw [FL f hf.cap];simp only [Aa];obtain⟨b,h1,h2⟩:=Bg (body:=λs:Int×List Block=>Ie a s.1 s.2) (λ(o:List Block) i=>(i,o)) a.length (λi o=>Steps f (a.take i) (Flash.mk o)/\Steps (Flash.mk o) (a.drop i) g) (λb=>b= .inl g.Blocks)
  (λo i hi hs=>by
   have hx:=Ab hi;obtain⟨s1,s2⟩:=hs;rw [Bi hi]at s2;simp only [Ie,AG,Ad hi,Af,AB,hx,Aa];have hP:=VI hf s1
   rcases W0 hP a[i]with⟨k1,k2⟩|⟨k1,k2⟩
   ·rw [k2];simp only [Aa,Aj,Ac];rw [ad1 (by omega)];refine .inl ⟨(JU (Flash.mk o) a[i]).Blocks,rfl,?_,s2.2⟩;rw [Aq hi];exact jO s1 k1
   exact absurd s2.1 k1)
  (λo hs=>⟨.inl o,by simp only [Ie,AG,Ap,Av,Ac],by
   have:=hs.2;rw [List.drop_length]at this
   rw [show g=Flash.mk o from this]⟩) (s:=f.Blocks) ⟨rfl,h⟩
 have h1':Au (λs:Int×List Block=>Ie a s.1 s.2) (0,f.Blocks)=some b:=h1;rw [h1',h2];rfl
def Iz:Flash->List Cc->List Page->Flash->Prop
 |f,[],[],g=>g=f
 |f,s::ss,p::ps,g=>s.Kind=1/\eB f s.Block s.Leaf s.Text/\EP s.Text=some (p,true)/\Iz (JU f s) ss ps g
 |_,_,_,_=>False
theorem FO:∀{f:Flash} {ss:List Cc} {ps:List Page} {g:Flash},Iz f ss ps g->Steps f ss g/\ss.length=ps.length
 |f,[],[],g,h=>⟨h,rfl⟩
 |f,s::ss,p::ps,g,h=>⟨⟨.inl ⟨h.1,h.2.1⟩,(FO h.2.2.2).1⟩,by rw [A0,A0,(FO h.2.2.2).2]⟩
 |f,[],p::ps,g,h=>h.elim
 |f,s::ss,[],g,h=>h.elim
theorem X2:∀{f:Flash} {ss:List Cc} {ps:List Page} {g:Flash} {b l:Int} {t:ByteArray} {p:Page},Iz f ss ps g->eB g b l t->EP t=some (p,true)->Iz f (ss++ [Cc.mk 1 b l t]) (ps++ [p]) (prog g b l (Leaf.mk 1 t))
 |f,[],[],g,b,l,t,p,h,h1,h2=>by
  have:g=f:=h;subst this;exact⟨rfl,h1,h2,by unfold JU;rfl⟩
 |f,s::ss,q::ps,g,b,l,t,p,h,h1,h2=>⟨h.1,h.2.1,h.2.2.1,X2 h.2.2.2 h1 h2⟩
 |f,[],q::ps,g,b,l,t,p,h,h1,h2=>h.elim
 |f,s::ss,[],g,b,l,t,p,h,h1,h2=>h.elim
def Cy (ss:List Cc) (ps:List Page):List A4:=List.zipWith (λs p=>A4.mk s.Block s.Leaf p) ss ps
def FN:Int->List Page->Prop
 |_,[]=>True
 |n,p::ps=>n<=p.Seq/\FN (p.Seq+1) ps
theorem X3:∀{f:Flash} {ss:List Cc} {ps:List Page} {g:Flash} {r:List A4} {n:Int},Cg f->SR (JH 0 f.Blocks) r->Iz f ss ps g->(∀y∈r,y.Page.Seq<n)->FN n ps->SR (JH 0 g.Blocks) (r++Cy ss ps)
 |f,[],[],g,r,n,hf,a,h,hn,ha=>by
  have:g=f:=h;subst this;unfold Cy;simpa using a
 |f,s::ss,p::ps,g,r,n,hf,a,h,hn,ha=>by
  obtain⟨h1,h2,h3,h4⟩:=h;obtain⟨k1,_,A,B,k2,k3,_⟩:=R9 hf h2;have c:JU f s=prog f s.Block s.Leaf (Leaf.mk 1 s.Text):=by unfold JU;rw [Aw h1]
  rw [c]at h4;have b:SR (JH 0 (prog f s.Block s.Leaf (Leaf.mk 1 s.Text)).Blocks) (r++ [A4.mk s.Block s.Leaf p]):=by
   rw [k3 p (dS h3)]
   refine SR.add (by rw [<-k2];exact a) λx hx=>?_
   have:=hn x hx;have:=ha.1;show x.Page.Seq<p.Seq;omega
  have:=X3 k1 b h4 (n:=p.Seq+1) (λy hy=>by
   rw [Ai,Ay]at hy
   rcases hy with hy|rfl
   ·have:=hn y hy;have:=ha.1;omega
   show p.Seq<p.Seq+1;omega) ha.2
  rw [Ao]at this;exact this
 |f,[],q::ps,g,r,n,hf,a,h,hn,ha=>h.elim
 |f,s::ss,[],g,r,n,hf,a,h,hn,ha=>h.elim
theorem RU:∀{f:Flash} {ss:List Cc} {ps:List Page} {g:Flash} (k:Nat),Iz f ss ps g->∃m,Iz f (ss.take k) (ps.take k) m
 |f,[],[],g,k,h=>⟨f,by simp [Iz]⟩
 |f,s::ss,p::ps,g,0,h=>⟨f,rfl⟩
 |f,s::ss,p::ps,g,k+1,h=>by
  obtain⟨m,hm⟩:=RU k h.2.2.2;exact⟨m,h.1,h.2.1,h.2.2.1,hm⟩
 |f,[],q::ps,g,k,h=>h.elim
 |f,s::ss,[],g,k,h=>h.elim
theorem pU (hg:Cg g) (h:Iz f ss ps g) (hs:ss.length<=1000) (p:Page):
  (∃s g',I5 g ss p=some (g',ss++ [s],true)/\Iz f (ss++ [s]) (ps++ [p]) g'/\Cg g'/\Jl p/\RB g s.Block s.Leaf)\/I5 g ss p=some (g,ss,false):=by
 by_cases hp:Jl p
 ·obtain⟨t,t1,t2,t3,t4⟩:=mY hp
  rcases Wj hg ss (by omega) p t1 (λ_=>⟨t2,t3⟩)with⟨_,b,l,q1,_,q2⟩|q
  ·left;have hm:eB g b l t:=by
    obtain⟨x,a1,a2,a3,a4⟩:=q1;exact⟨x,a1,a2,a3,a4,t2,t3⟩
   exact⟨_,_,q2,X2 h hm t4,(R9 hg hm).1,hp,q1⟩
  exact .inr q
 rcases Wj hg ss (by omega) p (pX hp) (λhh=>by cases hh)with⟨hh,_⟩|q
 ·cases hh
 exact .inr q
theorem WA (hf:Cg f) (ps:List Page) (rt:Bool) (c:ps.length<=9) (a:List Page) (ss0:List Cc) (g0:Flash) (ok0:Bool) (h0:ok0=true->Iz f ss0 a g0/\Cg g0/\ss0.length<=1):
  ∃ss ok,Au (λs:List Cc×Bool×Int×List Block=>Fk (ps,rt) s.1 s.2.1 s.2.2.1 s.2.2.2) (ss0,ok0,0,g0.Blocks)=some (ss,ok)/\(ok=true->ok0=true/\∃g,Iz f ss (a++ps) g/\Cg g/\∀p∈ps,Jl p):=by
 obtain⟨b,h1,h2⟩:=Bg (body:=λs:List Cc×Bool×Int×List Block=>Fk (ps,rt) s.1 s.2.1 s.2.2.1 s.2.2.2) (λ(o:List Cc×Bool×List Block) i=>(o.1,o.2.1,i,o.2.2)) ps.length
  (λi o=>o.2.1=true->ok0=true/\Iz f o.1 (a++ps.take i) (Flash.mk o.2.2)/\Cg (Flash.mk o.2.2)/\o.1.length<=i+1/\∀p∈ps.take i,Jl p)
  (λb=>b.2=true->ok0=true/\∃g,Iz f b.1 (a++ps) g/\Cg g/\∀p∈ps,Jl p)
  (λo i hi hs=>by
   obtain⟨ss,ok,bl⟩:=o;have hx:=Ab hi;simp only [Fk,AG,Ad hi,Af,Aa]
   cases ok with
   |false=>
    simp only [Ac];exact .inr ⟨_,rfl,λhh=>by cases hh⟩
   |true=>
    obtain⟨k0,k1,k2,k3,k4⟩:=hs rfl;simp only at k1 k2 k3;simp only [Af,AB,hx,Aa];refine .inl ?_
    rcases pU k2 k1 (by omega) ps[i]with⟨s,g',q1,q2,q3,q4,_⟩|q
    ·rw [q1];simp only [Aa];rw [ad1 (by omega)];refine⟨(ss++ [s],true,g'.Blocks),rfl,λ_=>⟨k0,?_,q3,by simp;omega,λp hp=>?_⟩⟩
     ·rw [Aq hi,<-Ao];exact q2
     rw [Aq hi,Ai,Ay]at hp
     rcases hp with hp|rfl
     ·exact k4 p hp
     exact q4
    rw [q];simp only [Aa];rw [ad1 (by omega)]
    exact⟨(ss,false,bl),rfl,λhh=>by cases hh⟩)
  (λo hs=>⟨(o.1,o.2.1),by simp only [Fk,AG,Ap,Av,Ac,Aa],λhh=>by
   obtain⟨k0,k1,k2,_,k4⟩:=hs hh;rw [AP]at k1 k4
   exact⟨k0,_,k1,k2,k4⟩⟩) (s:=(ss0,ok0,g0.Blocks)) (λhh=>by
    obtain⟨a1,a2,a3⟩:=h0 hh
    exact⟨hh,by rw [It,Az];exact a1,a2,by simpa using a3,λp hp=>by simp at hp⟩)
 exact⟨b.1,b.2,h1,h2⟩
def Dw (d:Ba) (c:Int) (a:ByteArray):List Page:=if L a=[]then []else [Page.mk 1 d.Seq c 0 1 a]
def J4 (d:Ba) (a:ByteArray):Int:=if L a=[]then d.Seq else d.Seq+1
theorem Tq (hf:Cg d.Flash) (k:0<=d.Seq/\d.Seq<=1000000001) (b:List Ds) (i:b≠ []) (hr:b.length<=1000) (j:∀r∈b,GR r=true) (a:ByteArray):
  EF d b a=some ([],false)\/∃steps T g c,b[b.length-1]?=some c/\EF d b a=some (steps,true)/\1<=T.length/\T.length<=9/\No T=GH b/\(∀t∈T,(L t).length<=90)/\
   Iz d.Flash steps (Dw d c.Chunk a++C9 (J4 d a) d.Tx T) g/\Cg g/\∀p∈Dw d c.Chunk a++C9 (J4 d a) d.Tx T,Jl p:=by
 have l:0<b.length:=HV.2 i;obtain⟨c,h⟩:∃c,b[b.length-1]?=some c:=⟨_,Ab (by omega)⟩;unfold EF;rw [show(ln b==0)=false by rw [DO,BW];omega];simp only [Ac];have first:∃ss0 g0 ok0,(bif(!(seq a (bs [])))then(((gi b (sb (ln b) 1)).bind λx1=>(I5 d.Flash [] (Page.mk 1 d.Seq x1.Chunk 0 1 a)).bind λv1=>some (v1.2.1,v1.2.2,v1.1.Blocks):Option (List Cc×Bool×List Block)).bind λj2=>some (j2.1,(ad d.Seq 1),j2.2.1,j2.2.2))else(some ([],d.Seq,true,d.Flash.Blocks)):Option (List Cc×Int×Bool×List Block))=some (ss0,J4 d a,ok0,Flash.Blocks g0)/\(ok0=true->Iz d.Flash ss0 (Dw d c.Chunk a) g0/\Cg g0/\ss0.length<=1/\∀p∈Dw d c.Chunk a,Jl p):=by
  by_cases ht:L a=[]
  ·have:seq a (bs [])=true:=by rw [Kc,A6];exact I1 (by rw [ht,El])
   rw [this];refine⟨[],d.Flash,true,?_,λ_=>⟨?_,hf,by simp,?_⟩⟩
   ·unfold J4;rw [Aw ht];rfl
   ·unfold Dw;rw [Aw ht];rfl
   unfold Dw;rw [Aw ht];intro p hp;cases hp
  have:seq a (bs [])=false:=by
   rw [Kc,AX];intro e;exact ht (by rw [e,El])
  rw [this];simp only [AJ,Af];rw [BW,C4 (by omega) (by omega),show(b.length:Int)-1=((b.length-1:Nat):Int) by omega,AB,h];simp only [Aa];rw [C6 (by omega) (by omega)];have e1:J4 d a=d.Seq+1:=by unfold J4;rw [Ax ht]
  have e2:Dw d c.Chunk a=[Page.mk 1 d.Seq c.Chunk 0 1 a]:=by unfold Dw;rw [Ax ht]
  rw [e1,e2]
  rcases pU (f:=d.Flash) (ss:=[]) (ps:=[]) hf rfl (by simp) (Page.mk 1 d.Seq c.Chunk 0 1 a)with⟨s,g',q1,q2,q3,q4,_⟩|q
  ·rw [q1];refine⟨_,g',true,rfl,λ_=>⟨q2,q3,by simp,λp hp=>?_⟩⟩;rw [Ay]at hp;rw [hp];exact q4
  rw [q];exact⟨_,d.Flash,false,rfl,λhh=>by cases hh⟩
 obtain⟨ss0,g0,ok0,e0,h0⟩:=first
 rw [e0];simp only [Aa];obtain⟨T,t1,t2,t3,_,t4⟩:=oC (J4 d a) d.Tx b hr j
 rcases t4 with⟨t4,t5,t6,t7,t8,t9⟩|⟨t4,_⟩
 ·rw [t4];simp only [Aa];obtain⟨ss,ok,q1,q2⟩:=WA hf (C9 (J4 d a) d.Tx T) true (by unfold C9;rw [IH];exact t5) (Dw d c.Chunk a) ss0 g0 ok0 (λhh=>⟨(h0 hh).1,(h0 hh).2.1,(h0 hh).2.2.1⟩);rw [q1];simp only [Aa]
  cases ok with
  |false=>exact .inl rfl
  |true=>
   obtain⟨k0,g,k1,k2,k3⟩:=q2 rfl;refine .inr ⟨ss,T,g,c,h,rfl,t1,t5,t2,t3,k1,k2,λp hp=>?_⟩
   rcases Ai.1 hp with hp|hp
   ·exact(h0 k0).2.2.2 p hp
   exact k3 p hp
 rw [t4];simp only [Aa];obtain⟨ss,ok,q1,q2⟩:=WA hf [] false (by simp) (Dw d c.Chunk a) ss0 g0 ok0 (λhh=>⟨(h0 hh).1,(h0 hh).2.1,(h0 hh).2.2.1⟩);rw [q1];simp only [Aa];cases ok<;>exact .inl rfl
def JI (r:List A4) (c:Int):Option A4:=(r.filter (LD c)).getLast?
noncomputable def T1 (t:ByteArray):Option ByteArray:=match FD t with
 |some (s,true)=>some s
 |_=>none
noncomputable def CZ (r:List A4) (c:Int):Option ByteArray:=(JI r c).bind λy=>T1 y.Page.Text
theorem PV:LD c y=true↔y.Page.Kind=1/\y.Page.Tx=c:=by
 unfold LD;rw [Ak,Dm,Dm]
theorem SG (h:JI r c=some y):y∈r/\y.Page.Kind=1/\y.Page.Tx=c:=by
 have:=List.mem_of_getLast? h;rw [AT,PV]at this;exact this
theorem Mt (r:List A4) (y:A4) (c:Int):JI (r++ [y]) c=if y.Page.Kind=1/\y.Page.Tx=c then some y else JI r c:=by
 unfold JI;rw [AR];by_cases e:y.Page.Kind=1/\y.Page.Tx=c
 ·rw [Aw e,Ca (PV.2 e),FP,OY]
 rw [Ax e,Cl (λhh=>e (PV.1 hh)),FP,Az]
theorem nD (r m:List A4) (h:∀y∈m,y.Page.Kind≠1) (c:Int):JI (r++m) c=JI r c:=by
 unfold JI;rw [AR,B7.2 (λy hy hh=>h y hy (PV.1 hh).1),Az]
theorem WY {α:Type} {y:α} (l:List α) (p:α->Bool) (h:l.getLast? =some y) (hp:p y=true):(l.filter p).getLast? =some y:=by
 rcases GL l with e|⟨m,x,e⟩
 ·rw [e]at h;cases h
 rw [GM]at e;rw [e,OY]at h
 injection h with h
 subst h;rw [e,AR,Ca hp,FP,OY]
theorem d8 (p:A4->Bool) (h:JI r c=some y) (hp:p y=true):JI (r.filter p) c=some y:=by
 unfold JI at h⊢;rw [Ei];have:r.filter (λa=>LD c a&&p a)=(r.filter (LD c)).filter p:=by
  rw [Ei];congr 1;funext a;exact Bool.and_comm _ _
 rw [this];exact WY _ p h hp
theorem WF {o:Option Nat} (h:eD c r r.length o):JI r c=o.bind λj=>r[j]? :=by
 cases o with
 |none=>
  unfold JI;have:r.filter (LD c)=[]:=by
   rw [B7];intro y hy;obtain⟨j,hj,rfl⟩:=AF hy;have:=h j r[j] hj (Ab hj);rw [this];simp
  rw [this];rfl
 |some j=>
  obtain⟨h1,⟨y,h2,h3⟩,h4⟩:=h;simp only [Aa,h2];unfold JI;obtain⟨e1,e2⟩:=IU h2;rw [e1,AR,Ca h3];have:(r.drop (j+1)).filter (LD c)=[]:=by
   rw [B7];intro z hz;obtain⟨k,hk,rfl⟩:=AF hz;rw [B5]at hk;rw [RZ];have:=h4 (j+1+k) _ (by omega) (by omega) (Ab (by omega));rw [this];simp
  rw [this,OY]
theorem g6 (hr:r.length<=1048576) (c:Int):∃y ok,KL r c=some (y,ok)/\JI r c=(if ok=true then some y else none):=by
 obtain⟨o,h1,h2⟩:=nC r hr c;have h3:=WF h2
 cases o with
 |none=>exact⟨_,false,h1,h3⟩
 |some j=>
  obtain⟨_,⟨y,k1,_⟩,_⟩:=h2;refine⟨y,true,?_,by rw [h3];simp only [Aa,k1];rfl⟩;rw [h1];simp only [u0,k1,BA];rfl
theorem dA (hr:FY r) (c:Int):∃u ok,Nw r c=some (u,ok)/\CZ r c=(if ok=true then some u else none):=by
 obtain⟨y,ok,h1,h2⟩:=g6 hr.len c;unfold Nw CZ;rw [h1,h2]
 cases ok with
 |false=>exact⟨_,_,rfl,rfl⟩
 |true=>
  have hy:=(SG (by rw [h2];rfl)).1;obtain⟨u,ok2,k1,_,_⟩:=Yj y.Page.Text (by have:=hr.text y hy;omega);simp only [Aa,Aj,Ac,BU];rw [k1];unfold T1;rw [k1]
  cases ok2 with
  |false=>exact⟨_,_,rfl,rfl⟩
  |true=>exact⟨_,_,rfl,rfl⟩
structure IK (r:List A4):Prop where
 pages:FY r
 inc:r.Pairwise λx y=>x.Page.Seq<y.Page.Seq
 mu:fX r
def EB (l:Vs) (c:Int):Prop:=0<c/\∃p∈l,c∈p.2
structure G8 (r:List A4) (P:Int->Prop):Prop where
 data:∀c,P c->∃s,CZ r c=some s
 dist:∀c c',P c->P c'->CZ r c=CZ r c'->c=c'
theorem G8.mono {Q:Int->Prop} (h:G8 r P) (hq:∀c,Q c->P c):G8 r Q:=⟨λc hc=>h.data c (hq c hc),λc c' hc hc'=>h.dist c c' (hq c hc) (hq c' hc')⟩
theorem G8.congr (h:G8 r P) (he:∀c,P c->CZ r' c=CZ r c):G8 r' P:=⟨λc hc=>by rw [he c hc];exact h.data c hc,λc c' hc hc' e=>h.dist c c' hc hc' (by rw [<-he c hc,<-he c' hc'];exact e)⟩
theorem G8.metas {m:List A4} (h:G8 r P) (hm:∀y∈m,y.Page.Kind≠1):G8 (r++m) P:=h.congr λc _=>by unfold CZ;rw [nD r m hm]
theorem f0 (h:G8 r P) (hy:¬P y.Page.Tx):G8 (r++ [y]) P:=h.congr λc hc=>by
 unfold CZ;rw [Mt,Ax (λhh=>hy (by rw [hh.2];exact hc))]
theorem f7 (h:G8 r P) (hy:T1 y.Page.Text=CZ r y.Page.Tx):G8 (r++ [y]) P:=h.congr λc hc=>by
 by_cases e:y.Page.Kind=1/\y.Page.Tx=c
 ·have:CZ (r++ [y]) c=T1 y.Page.Text:=by unfold CZ;rw [Mt,Aw e];rfl
  rw [this,hy,e.2]
 unfold CZ;rw [Mt,Ax e]
theorem oJ {s:ByteArray} (h:G8 r P) (hk:y.Page.Kind=1) (hn:¬P y.Page.Tx) (ht:T1 y.Page.Text=some s) (hs:∀c,P c->CZ r c≠some s):G8 (r++ [y]) (λc=>P c\/c=y.Page.Tx):=by
 have b:CZ (r++ [y]) y.Page.Tx=some s:=by unfold CZ;rw [Mt,Aw ⟨hk,rfl⟩];exact ht
 have a:∀c,P c->CZ (r++ [y]) c=CZ r c:=λc hc=>by unfold CZ;rw [Mt,Ax (λhh=>hn (by rw [hh.2];exact hc))]
 refine⟨λc hc=>?_,λc c' hc hc' e=>?_⟩
 ·rcases hc with hc|rfl
  ·rw [a c hc];exact h.data c hc
  exact⟨s,b⟩
 rcases hc with hc|rfl<;>rcases hc' with hc'|rfl
 ·exact h.dist c c' hc hc' (by rw [<-a c hc,<-a c' hc'];exact e)
 ·rw [a c hc,b]at e;exact absurd e (hs c hc)
 ·rw [a c' hc',b]at e;exact absurd e.symm (hs c' hc')
 rfl
theorem IK.filter (h:IK r) (p:A4->Bool):IK (r.filter p):=by
 refine⟨⟨by have:=Dc p r;have:=h.pages.len;omega,λy hy=>h.pages.text y (AT.1 hy).1,λy hy=>h.pages.seq y (AT.1 hy).1,λy hy=>h.pages.tx y (AT.1 hy).1,λy hy=>h.pages.cnt y (AT.1 hy).1,λy hy=>h.pages.part y (AT.1 hy).1⟩,h.inc.filter _,⟨λy hy z hz=>h.mu.uniq y (AT.1 hy).1 z (AT.1 hz).1⟩⟩
theorem IK.add (h:IK r) (hl:r.length<=1000000) (hb:Jl y.Page) (hs:Da r<=y.Page.Seq) (hm:y.Page.Kind=2->∀z∈r,z.Page.Kind=2->z.Page.Tx=y.Page.Tx->z.Page.Part≠y.Page.Part):IK (r++ [y]):=by
 obtain⟨b1,b2,b3,b4,b5,b6,b7⟩:=hb
 have all:∀{P:A4->Prop},(∀z∈r,P z)->P y->∀z∈r++ [y],P z:=λh1 h2 z hz=>by
  rw [Ai,Ay]at hz
  rcases hz with hz|rfl
  ·exact h1 z hz
  exact h2
 refine⟨⟨by simp;omega,all h.pages.text b6,all h.pages.seq b2,all h.pages.tx b3,all h.pages.cnt b4,all h.pages.part b5⟩,?_,⟨λu hu v hv k1 k2 e1 e2=>?_⟩⟩
 ·rw [Bx];refine⟨h.inc,LT _ _,λu hu v hv=>?_⟩;rw [Ay]at hv;rw [hv];have:=(Mc r).1 u hu;omega
 rw [Ai,Ay]at hu hv
 rcases hu with hu|rfl<;>rcases hv with hv|rfl
 ·exact h.mu.uniq u hu v hv k1 k2 e1 e2
 ·exact absurd e2 (hm k2 u hu k1 e1)
 ·exact absurd e2.symm (hm k1 v hv k2 e1.symm)
 rfl
theorem Y5 (h:Da r<=y.Page.Seq):Da (r++ [y])=y.Page.Seq+1:=by rw [Vu,Aw h]
theorem IK.metas {t:Int} (h:IK r) (ht:∀y∈r,y.Page.Kind=2->y.Page.Tx<t):∀(m:List A4) (k:Nat),r.length+m.length<=1000000->(∀(i:Nat) y,m[i]?=some y->y.Page.Kind=2/\y.Page.Tx=t/\y.Page.Part=i/\y.Page.Seq=Da r+i/\Jl y.Page)->k<=m.length->IK (r++m.take k)/\Da (r++m.take k)=Da r+k
 |m,0,_,_,_=>by simpa using h
 |m,k+1,hl,hm,hk=>by
  obtain⟨ih1,ih2⟩:=IK.metas h ht m k hl hm (by omega);have hx:m[k]?=some m[k]:=Ab (by omega);obtain⟨k1,k2,k3,k4,k5⟩:=hm k _ hx;rw [Aq (by omega),<-Ao];refine⟨IK.add ih1 (by simp;omega) k5 (by rw [ih2,k4];omega) (λ_ z hz a b=>?_),?_⟩
  ·rcases Ai.1 hz with hz|hz
   ·have:=ht z hz a;omega
   obtain⟨j,hj,rfl⟩:=AF hz;rw [AE]at hj;rw [Jz];obtain⟨_,_,q3,_⟩:=hm j _ (Ab (by omega));omega
  rw [Y5 (by rw [ih2,k4];omega),k4];omega
theorem kX (i:Int):∀(k:Int) (l:List Leaf),(U5 i k l).length<=l.length
 |_,[]=>A3 _
 |k,x::l=>by
  rw [U5,Ah,A0];have:=kX i (k+1) l;have:(pg i k x).length<=1:=by
   unfold pg;split
   ·split<;>simp
   simp
  omega
theorem kY:∀(i:Int) (l:List Block),(JH i l).length<=nl l
 |_,[]=>A3 _
 |i,b::l=>by
  rw [JH,Ah];have:=kY (i+1) l;have:=kX i 0 b.Leaves;unfold nl at*;rw [BZ,NT];omega
theorem yK (hf:Cg f) (h:SR (JH 0 f.Blocks) r):r.length<=40:=by
 have h1:=kY 0 f.Blocks;have h2:=hf.few;have h3:=h.2.len;omega
theorem Kr:∀{ss:List Cc} {ps:List Page} {i:Nat} {y:A4},(Cy ss ps)[i]?=some y->ps[i]?=some y.Page
 |[],_,i,y,h=>by simp [Cy]at h
 |s::ss,[],i,y,h=>by simp [Cy]at h
 |s::ss,p::ps,0,y,h=>by
  simp only [Cy,List.zipWith_cons_cons,CE,Al]at h;rw [<-h];rfl
 |s::ss,p::ps,i+1,y,h=>by
  simp only [Cy,List.zipWith_cons_cons,List.getElem?_cons_succ]at h⊢;exact Kr h
theorem RL (h:ss.length=ps.length):(Cy ss ps).length=ps.length:=by unfold Cy;rw [List.length_zipWith];omega
theorem UF (ss:List Cc) (ps:List Page) (k:Nat):Cy (ss.take k) (ps.take k)=(Cy ss ps).take k:=by unfold Cy;rw [List.take_zipWith]
theorem fF:∀(T:List ByteArray),(∀t∈T,(L t).length<=90)->(No T).length<=90*T.length
 |[],_=>by simp [No]
 |t::T,h=>by
  have:=fF T (λx hx=>h x (by simp [hx]));have:=h t (by simp);simp only [No,Hw,Ah,A0]at*;omega
theorem YS {r1 m:List A4} (h:IK r1) (hl:r1.length<=1000) {a:List Ds} (g:1<=T.length) (j:T.length<=9) (c:∀t∈T,(L t).length<=90) (d:No T=GH a) (l:∀r∈a,GR r=true) (hm:∀(i:Nat) y,m[i]?=some y->(C9 (Da r1) (Dz r1) T)[i]?=some y.Page) (o:m.length=T.length) (n:∀p∈C9 (Da r1) (Dz r1) T,Jl p) (k:Nat) (hk:k<=T.length):
  IK (r1++m.take k)/\(∀y∈m.take k,y.Page.Kind≠1)/\(k<T.length->Bt (r1++m.take k)=Bt r1)/\(k=T.length->∃q,Bt (r1++m.take k)=Bt r1++ [Tx.mk (Dz r1) q a]):=by
 have e:∀(i:Nat) y,m[i]?=some y->∃t,T[i]?=some t/\y.Page=Page.mk 2 (Da r1+i) (Dz r1) i T.length t:=by
  intro i y hy;have:=hm i y hy;unfold C9 at this;rw [JR]at this;obtain⟨t,h1,h2⟩:=AY.1 this;exact⟨t,h1,h2.symm⟩
 have b:=T3 r1
 obtain⟨c1,_⟩:=IK.metas h b.1 m k (by omega) (λi y hy=>by
  obtain⟨t,_,h2⟩:=e i y hy;have hb:=n y.Page (A7 (hm i y hy));rw [h2]at hb⊢
  exact⟨rfl,rfl,rfl,rfl,hb⟩) (by omega)
 have hN:Zx (m.take k) (Dz r1) T.length T:=by
  refine⟨by rw [AE];omega,⟨g,j⟩,rfl,λi y hy=>?_⟩;have f:=(Ag.1 hy).1;rw [AE]at f;rw [List.getElem?_take_of_lt (by omega)]at hy;obtain⟨t,h1,h2⟩:=e i y hy;rw [h2];exact⟨rfl,rfl,rfl,rfl,h1⟩
 obtain⟨g1,g2⟩:=iV r1 (λy hy=>(h.pages.tx y hy).1) b.1 b.2.1 hN;refine⟨c1,λy hy=>by rw [(hN.all hy).1];omega,λhh=>g1 (by rw [AE];omega),λhh=>g2 (by rw [AE];omega) a ?_⟩;rw [d];refine g7 l ?_;have:=fF T c;rw [d]at this;omega
structure M6 (d:Ba) (r:List A4):Prop where
 dev:Lv d r
 core:IK r
 data:G8 r (EB (BJ d.Store))
theorem M6.few (h:M6 d r):r.length<=40:=yK h.dev.fl h.dev.sr
theorem JM (hg:Cg g) (a:SR (JH 0 g.Blocks) r):∃d,CL g=some (d,true)/\Lv d r/\d.Flash=g:=by
 obtain⟨d,r',h1,h2,h3⟩:=S4 hg;have:r'=r:=by
  have h4:=h2.sr;rw [h3]at h4;exact h4.uniq a
 subst this;exact⟨d,h1,h2,h3⟩
theorem Ru (seq tx:Int) (T:List ByteArray):FN seq (C9 seq tx T):=by
 have a:∀(l:List ByteArray) (i:Nat) (n:Int),n<=seq+i->FN n (l.mapIdx λj t=>Page.mk 2 (seq+(i+j:Nat)) tx (i+j:Nat) T.length t):=by
  intro l
  induction l with
  |nil=>intro i n _;trivial
  |cons x l ih=>
   intro i n hn;rw [List.mapIdx_cons];refine⟨by simpa using hn,?_⟩;have:=ih (i+1) (seq+(i:Int)+1) (by omega);simp only [Gd]
   have e:(λj t=>Page.mk 2 (seq+((i+1+j:Nat):Int)) tx ((i+1+j:Nat):Int) T.length t)=λj (t:ByteArray)=>Page.mk 2 (seq+((i+(j+1):Nat):Int)) tx ((i+(j+1):Nat):Int) T.length t:=by
    funext j t;rw [show i+1+j=i+(j+1) by omega]
   rw [e]at this;exact this
 have:=a T 0 seq (by omega);unfold C9;simpa using this
theorem jB (c:Int) (a:ByteArray) (tx:Int) (T:List ByteArray):FN d.Seq (Dw d c a++C9 (J4 d a) tx T):=by
 unfold Dw J4;by_cases e:L a=[]
 ·rw [Aw e,Aw e,A5];exact Ru _ _ _
 rw [Ax e,Ax e];exact⟨Fd _,Ru _ _ _⟩
theorem Mr (ss:List Cc) (ps:List Page) (k:Nat):∀y∈(Cy ss ps).take k,y.Page∈ps:=by
 intro y hy;obtain⟨i,hi,rfl⟩:=AF (List.mem_of_mem_take hy);exact A7 (Kr (Ab hi))
def Iv (f:Flash) (n:Int):Prop:=∀b∈f.Blocks,b.Wear<=n
theorem kA {l:List Block} {n b:Int} {x:Block} (h:∀y∈l,y.Wear<=n) (hx:x.Wear<=n):∀y∈si l b x,y.Wear<=n:=by
 intro y hy;by_cases e:0<=b
 ·obtain⟨c,rfl⟩:∃c:Nat,b=(c:Int):=⟨_,(Bp e).symm⟩;rw [E6]at hy
  rcases CK hy with hy|rfl
  ·exact h y hy
  exact hx
 unfold si at hy
 first
  |(rw [Ax (by omega)]at hy;exact h y hy)
  |(
   rcases CK hy with hy|rfl
   ·exact h y hy
   exact hx)
theorem Y1 {s:Cc} {n m:Int} (h:Iv f n) (hm:n<=m) (hs:s.Kind=1\/n+1<=m):Iv (JU f s) m:=by
 have h0:∀y∈f.Blocks,y.Wear<=m:=λy hy=>by have:=h y hy;omega
 unfold JU prog Sd Iv;by_cases e:s.Kind=1
 ·rw [Aw e]
  cases hg:gi f.Blocks s.Block with
  |none=>exact h0
  |some x=>exact kA h0 (h0 x (A7 (DK hg).2))
 rw [Ax e]
 cases hg:gi f.Blocks s.Block with
 |none=>exact h0
 |some x=>exact kA h0 (by have:=h x (A7 (DK hg).2);show x.Wear+1<=m;omega)
theorem RT {n:Int}:∀{f:Flash} {ss:List Cc} {ps:List Page} {g:Flash},Iz f ss ps g->Iv f n->Iv g n
 |f,[],[],g,h,hw=>by rw [show g=f from h];exact hw
 |f,s::ss,p::ps,g,h,hw=>RT h.2.2.2 (Y1 hw (Fd _) (.inl h.1))
 |f,[],q::ps,g,h,_=>h.elim
 |f,s::ss,[],g,h,_=>h.elim
theorem OW:∀{f:Flash} {ss:List Cc} {ps:List Page} {g:Flash},Iz f ss ps g->∀s∈ss,s.Kind=1
 |f,[],[],g,h,s,hs=>by cases hs
 |f,s::ss,p::ps,g,h,x,hs=>by
  rcases BB.1 hs with rfl|hs
  ·exact h.1
  exact OW h.2.2.2 x hs
 |f,[],q::ps,g,h,_,_=>h.elim
 |f,s::ss,[],g,h,_,_=>h.elim
def VN (f g:Flash):Prop:=∀n,Iv f n->Iv g n
theorem Tz (h:M6 d r) {o:List Ds} (x:∀r∈o,GR r=true) {a:ByteArray} {b:Ds} {steps:List Cc} (z:1<=T.length) (h0:T.length<=9) (h1:No T=GH o) (w:∀t∈T,(L t).length<=90) (hp:Iz d.Flash steps (Dw d b.Chunk a++C9 (J4 d a) d.Tx T) g) (l:∀p∈Dw d b.Chunk a++C9 (J4 d a) d.Tx T,Jl p) (h2:L a≠ []->¬EB (BJ d.Store) b.Chunk) (k:Nat) (hk:k<=steps.length):
  ∃m d' r',Steps d.Flash (steps.take k) m/\Cg m/\CL m=some (d',true)/\Lv d' r'/\d'.Flash=m/\r'=r++(Cy steps (Dw d b.Chunk a++C9 (J4 d a) d.Tx T)).take k/\VN d.Flash m/\IK r'/\G8 r' (EB (BJ d.Store))/\
   (k<steps.length->Bt r'=Bt r)/\(k=steps.length->(∃q,Bt r'=Bt r++ [Tx.mk d.Tx q o])/\∀s,T1 a=some s->L a≠ []->(∀c,EB (BJ d.Store) c->CZ r c≠some s)->G8 r' (λc=>EB (BJ d.Store) c\/c=b.Chunk)):=by
 obtain⟨a8,f⟩:=FO hp;obtain⟨m,hm⟩:=RU k hp;obtain⟨h3,_⟩:=FO hm;have h4:=VI h.dev.fl h3;have a7:=h.few
 have h5:∀y∈r,y.Page.Seq<d.Seq:=λy hy=>by rw [h.dev.seq];exact(Mc r).1 y hy
 have h6:=jB (d:=d) b.Chunk a d.Tx T;have ascT:∀(ps:List Page) (n:Int) (k:Nat),FN n ps->FN n (ps.take k):=by
  intro ps
  induction ps with
  |nil=>intro n k _;simp [FN]
  |cons p ps ih=>
   intro n k ha
   cases k with
   |zero=>trivial
   |succ k=>exact⟨ha.1,ih _ k ha.2⟩
 have h7:=X3 h.dev.fl h.dev.sr hm h5 (ascT _ _ k h6);rw [UF]at h7;obtain⟨d',u1,u2,u3⟩:=JM h4 h7;refine⟨m,d',r++(Cy steps (Dw d b.Chunk a++C9 (J4 d a) d.Tx T)).take k,h3,h4,u1,u2,u3,rfl,λ_=>RT hm,?_⟩;have v:(C9 (J4 d a) d.Tx T).length=T.length:=by unfold C9;rw [IH]
 have u:=RL f;by_cases e:L a=[]
 ·
  have e1:Dw d b.Chunk a=[]:=by unfold Dw;rw [Aw e]
  have e2:J4 d a=d.Seq:=by unfold J4;rw [Aw e]
  rw [e1,e2,A5]at u f l⊢;rw [e2]at v;rw [h.dev.seq,h.dev.tx]at u f l v⊢;obtain⟨a1,a2,a3,a4⟩:=YS h.core (by omega) z h0 w h1 x (m:=Cy steps (C9 (Da r) (Dz r) T)) (λi y hy=>Kr hy) (by omega) l k (by omega);exact⟨a1,h.data.metas a2,λhh=>a3 (by omega),λhh=>⟨a4 (by omega),λs _ h9=>absurd e h9⟩⟩
 have e1:Dw d b.Chunk a=[Page.mk 1 d.Seq b.Chunk 0 1 a]:=by unfold Dw;rw [Ax e]
 have e2:J4 d a=d.Seq+1:=by unfold J4;rw [Ax e]
 rw [e1,e2]at u f l⊢;rw [e2]at v;rw [Co]at u f l⊢;rw [A0]at f u
 match hsteps:steps,f with
 |[],f=>simp at f
 |s0::ss,f=>
  have ef:Cy (s0::ss) (Page.mk 1 d.Seq b.Chunk 0 1 a::C9 (d.Seq+1) d.Tx T)=A4.mk s0.Block s0.Leaf (Page.mk 1 d.Seq b.Chunk 0 1 a)::Cy ss (C9 (d.Seq+1) d.Tx T):=rfl;rw [ef]
  cases k with
  |zero=>
   rw [It,Az];exact⟨h.core,h.data,λ_=>rfl,λhh=>by simp at hh⟩
  |succ k=>
   rw [Li];generalize a0:A4.mk s0.Block s0.Leaf (Page.mk 1 d.Seq b.Chunk 0 1 a)=y0;have j:y0.Page=Page.mk 1 d.Seq b.Chunk 0 1 a:=by rw [<-a0]
   have c1:IK (r++ [y0]):=IK.add h.core (by omega) (by rw [j];exact l _ (by simp)) (by rw [j,h.dev.seq];exact Fd _) (λhh=>by rw [j]at hh;simp at hh);have g1:Bt (r++ [y0])=Bt r:=UD r (by rw [j];simp);have s1:Da (r++ [y0])=d.Seq+1:=by rw [Y5 (by rw [j,h.dev.seq];exact Fd _),j]
   have t1:Dz (r++ [y0])=d.Tx:=by rw [Sh,Ax (by rw [j];simp),h.dev.tx]
   have h8:∀p∈C9 (d.Seq+1) d.Tx T,Jl p:=λp hp=>l p (by simp [hp])
   have a5:(Cy ss (C9 (d.Seq+1) d.Tx T)).length=T.length:=by rw [RL (by simp at f;omega),v]
   rw [List.append_cons];obtain⟨a1,a2,a3,a4⟩:=YS c1 (by simp;omega) z h0 w h1 x (m:=Cy ss (C9 (d.Seq+1) d.Tx T)) (by rw [s1,t1];exact λi y hy=>Kr hy) a5 (by rw [s1,t1];exact h8) k (by simp at hk f;omega);have dz:G8 (r++ [y0]) (EB (BJ d.Store)):=f0 h.data (by rw [j];exact h2 e);rw [g1,t1]at a4;rw [g1]at a3;have a9:ss.length=T.length:=by simp at f;omega
   refine⟨a1,dz.metas a2,λhh=>a3 (by simp at hh;omega),λhh=>⟨a4 (by simp at hh;omega),λs hs _ a6=>?_⟩⟩;have:=oJ h.data (y:=y0) (s:=s) (by rw [j]) (by rw [j];exact h2 e) (by rw [j];exact hs) a6;rw [j]at this;exact this.metas a2
theorem rW (h:CV s):jC s.Arena:=by unfold jC;have:=h.few;omega
theorem qJ (h:CV s) (x:Int):x∈aL s s.Vols.length↔∃p∈BJ s,x∈p.2:=by
 unfold aL BJ;rw [AP];simp only [List.mem_flatten,AH]
 have a:∀v∈s.Vols,(IN s.Arena v.Root).getD []=E4 s.Arena.Knots v.Root:=λv hv=>by
  rw [Mm _ (by have:=h.few;omega) h.ar (h.root _ (AH.2 ⟨v,hv,rfl⟩))];rfl
 constructor
 ·rintro⟨l,⟨v,hv,rfl⟩,hx⟩;rw [a v hv]at hx;exact⟨_,⟨v,hv,rfl⟩,hx⟩
 rintro⟨p,⟨v,hv,rfl⟩,hx⟩;exact⟨_,⟨v,hv,rfl⟩,by rw [a v hv];exact hx⟩
theorem On (h:CV s):∃l,KU s=some l/\asc l/\(∀x,x∈l↔EB (BJ s) x)/\l.length<=16777216:=by
 have:=h.len;obtain⟨l,h1,h2,h3⟩:=dJ s (by omega) (rW h);refine⟨l,h1,h2.1,λx=>?_,h3⟩;rw [h2.2 x,qJ h];unfold EB;exact And.comm
theorem aO (h:CV s) (hc:EB (BJ s) c):0<c/\c<s.Next:=by
 obtain⟨h0,p,hp,hx⟩:=hc;unfold BJ at hp;obtain⟨v,hv,rfl⟩:=AH.1 hp;exact⟨h0,h.lt _ (AH.2 ⟨v,hv,rfl⟩) c hx⟩
def HJ (r:List A4) (a:List Int) (b:Int):List Bool:=a.foldl (lH r) (r.map (Fj b))
theorem QC (r:List A4) (a:List Int) (b:Int):(HJ r a b).length=r.length:=by unfold HJ;rw [eV,Be]
theorem TJ (r:List A4) (a:List Int) (b:Int) (hy:r[j]?=some y):(HJ r a b)[j]?=some (Fj b y||a.any (λc=>cI c r r.length==some j)):=by
 unfold HJ;rw [d9,AL,hy];rfl
theorem tG (h:cI c r r.length=some j):JI r c=r[j]? :=by
 rw [WF (VU c r r.length (A3 _)),h];rfl
theorem uG (h:JI r c=some y):∃j,cI c r r.length=some j/\r[j]?=some y:=by
 have:=WF (VU c r r.length (A3 _));rw [h]at this
 cases ht:cI c r r.length with
 |none=>rw [ht]at this;cases this
 |some j=>rw [ht]at this;exact⟨j,rfl,this.symm⟩
theorem mB {p:Nat->Bool} (h:cn n p=0):∀j,j<n->p j=false:=by
 intro j hj;unfold cn at h;have:=List.length_eq_zero_iff.1 h;rw [B7]at this;have:=this j (Iu.2 hj);simpa using this
theorem tX {a:List Int} {d b:Int} (h:cn r.length (λj=>(HJ r a d)[j]?.getD false&&bk r b j)=0):∀y∈r,y.Block=b->(y.Page.Kind=2->y.Page.Tx<d)/\∀c∈a,JI r c≠some y:=by
 intro y hy hb;obtain⟨j,hj,rfl⟩:=AF hy;have hx:=Ab hj;have h1:=mB h j hj;rw [TJ r a d hx]at h1;have h2:bk r b j=true:=by unfold bk;rw [hx];simpa using hb
 rw [h2,cD,BA,Pa]at h1;refine⟨λhk=>?_,λc hc hn=>?_⟩
 ·have:=h1.1;unfold Fj at this;rw [show(r[j].Page.Kind==2)=true by simpa using hk,CH,AX]at this;omega
 
 obtain⟨i,i1,i2⟩:=uG hn;have h3:=h1.2;rw [List.any_eq_false]at h3;have h4:=h3 c hc;rw [i1]at h4;by_cases e:i=j
 ·rw [e]at h4;simp at h4
 
 have hi:=(Ag.1 i2).1;have h5:=mB h i hi;rw [TJ r a d i2]at h5;have h6:bk r b i=true:=by unfold bk;rw [i2];simpa using hb
 rw [h6,cD,BA,Pa,List.any_eq_false]at h5;have:=h5.2 c hc;rw [i1]at this;simp at this
theorem W2 (h:Lv d r):∃l,LC d=some l/\l.length<=10/\∀b∈l,∃x,gi d.Flash.Blocks b=some x/\x.Bad=false/\∀y∈r,y.Block=b->(y.Page.Kind=2->y.Page.Tx<d.Base)/\∀c,EB (BJ d.Store) c->JI r c≠some y:=by
 obtain⟨a,l1,l2,l3,l4⟩:=On h.st;have hn:=h.fl.n;unfold LC;rw [h.scan.s,l1];simp only [Aa];rw [V5 r a d.Base h.scan.len l4];simp only [Aa];have f:a.foldl (lH r) (r.map (Fj d.Base))=HJ r a d.Base:=rfl;rw [f];obtain⟨b,q1,q2⟩:=Bg (body:=λs:List Int×Int=>Fw d r (HJ r a d.Base) s.1 s.2) (λ(o:List Int) i=>(o,i)) d.Flash.Blocks.length
  (λi o=>o.length<=i/\∀b∈o,∃x,gi d.Flash.Blocks b=some x/\x.Bad=false/\∀y∈r,y.Block=b->(y.Page.Kind=2->y.Page.Tx<d.Base)/\∀c,EB (BJ d.Store) c->JI r c≠some y)
  (λo=>o.length<=10/\∀b∈o,∃x,gi d.Flash.Blocks b=some x/\x.Bad=false/\∀y∈r,y.Block=b->(y.Page.Kind=2->y.Page.Tx<d.Base)/\∀c,EB (BJ d.Store) c->JI r c≠some y)
  (λo i hi ho=>by
   have hx:=Ab hi;have hP:=h.fl.blk _ (AC hi);obtain⟨nbl,_,bl⟩:=rZ d.Flash.Blocks[i] (by rw [hP.four];omega);simp only [Fw,AG,Ad hi,Af,AB,hx,Aa];rw [bl,qB r _ (i:Int) h.scan.len (QC _ _ _),ad1 (by omega)];simp only [Aa];refine .inl ?_
   cases e:d.Flash.Blocks[i].Bad with
   |true=>exact⟨o,rfl,by omega,ho.2⟩
   |false=>
    simp only [AJ,Af]
    cases k:(!(!decide (nbl<ln d.Flash.Blocks[i].Leaves)))with
    |false=>exact⟨o,rfl,by omega,ho.2⟩
    |true=>
     simp only [Af,Aa]
     cases hz:((((cn r.length (λj=>(HJ r a d.Base)[j]?.getD false&&bk r (i:Int) j):Nat)):Int)==0)with
     |false=>exact⟨o,rfl,by omega,ho.2⟩
     |true=>
      simp only [Af];have:=ho.1;rw [Ct (by simp;omega)];refine⟨_,rfl,by simp;omega,λb hb=>?_⟩;rw [Ai,Ay]at hb
      rcases hb with hb|rfl
      ·exact ho.2 b hb
      refine⟨_,by rw [AB];exact hx,e,λy hy g=>?_⟩;have hz':cn r.length (λj=>(HJ r a d.Base)[j]?.getD false&&bk r (i:Int) j)=0:=by
       rw [Dm]at hz;omega
      obtain⟨a1,a2⟩:=tX hz' y hy g
      exact⟨a1,λc hc=>a2 c ((l3 c).2 hc)⟩)
  (λo ho=>⟨o,by simp only [Fw,AG,Ap,Av,Ac],by omega,ho.2⟩) (s:=[]) ⟨by simp,λb hb=>by cases hb⟩
 have q1':Au (λs:List Int×Int=>Fw d r (HJ r a d.Base) s.1 s.2) ([],0)=some b:=q1;rw [q1'];exact⟨b,rfl,q2⟩
theorem GO (h:Lv d r) (h':Lv d' r') (e:CY (Bt r')=CY (Bt r)):BJ d'.Store=BJ d.Store/\d'.Store.Next=d.Store.Next/\d'.Base=d.Base:=by
 have h1:=h'.ab;rw [e,<-h.ab]at h1
 injection h1 with h1 h2
 exact⟨h1,h2,by rw [h'.base,h.base,e]⟩
theorem tB {b:Int} (h:M6 d r) (hb:∀y∈r,y.Block=b->(y.Page.Kind=2->y.Page.Tx<d.Base)/\∀c,EB (BJ d.Store) c->JI r c≠some y) (hg:Cg g) (hp:JH 0 g.Blocks=(JH 0 d.Flash.Blocks).filter λy=>y.Block !=b):
  ∃d',CL g=some (d',true)/\d'.Flash=g/\M6 d' (r.filter λy=>y.Block !=b)/\BJ d'.Store=BJ d.Store/\d'.Store.Next=d.Store.Next/\d'.Base=d.Base/\∀c,EB (BJ d.Store) c->CZ (r.filter λy=>y.Block !=b) c=CZ r c:=by
 have f:SR (JH 0 g.Blocks) (r.filter λy=>y.Block !=b):=by rw [hp];exact h.dev.sr.filter _
 obtain⟨d',u1,u2,u3⟩:=JM hg f
 have hs:=Z9 r h.core.pages h.core.mu (λy=>y.Block !=b) (λy hy hk ht=>by
  have:y.Block≠b:=λe=>by
   have:=(hb y hy e).1 hk;rw [h.dev.base]at this;omega
  simpa using this)
 obtain⟨e1,e2,e3⟩:=GO h.dev u2 hs
 have ht:∀c,EB (BJ d.Store) c->CZ (r.filter λy=>y.Block !=b) c=CZ r c:=λc hc=>by
  obtain⟨s,a⟩:=h.data.data c hc;unfold CZ at a⊢
  cases hn:JI r c with
  |none=>rw [hn]at a;cases a
  |some y=>
   have hy:=(SG hn).1
   have:JI (r.filter λy=>y.Block !=b) c=some y:=d8 _ hn (by
    have:y.Block≠b:=λe=>(hb y hy e).2 c hc hn
    simpa using this)
   rw [this]
 refine⟨d',u1,u3,⟨u2,h.core.filter _,?_⟩,e1,e2,e3,ht⟩;rw [e1];exact h.data.congr ht
def Gf (id:Int):Nat->List Int->List Ds
 |_,[]=>[]
 |k,x::row=>(if x>0 then [Ds.mk 4 id k x]else [])++Gf id (k+1) row
def NW (p:Int×List Int):List Ds:=Ds.mk 2 p.1 0 0::Gf p.1 0 p.2
def Lz (l:Vs) (nx:Int):List Ds:=Ds.mk 1 0 nx 0::l.flatMap NW
theorem Ow (id x:Int):∀(k:Nat) (a:List Int),Gf id k (a++ [x])=Gf id k a++(if x>0 then [Ds.mk 4 id (k+a.length:Nat) x]else [])
 |k,[]=>by simp [Gf]
 |k,y::a=>by
  rw [BF,Gf,Ow id x (k+1) a,Gf,Ao,A0,show k+1+a.length=k+(a.length+1) by omega]
theorem Ux (id:Int):∀(k:Nat) (a:List Int),(Gf id k a).length<=a.length
 |_,[]=>A3 _
 |k,x::a=>by
  rw [Gf,Ah,A0];have:=Ux id (k+1) a;split<;>simp<;>omega
theorem aB (K:Ks) (r:Int):(E4 K r).length=16:=by unfold E4;simp
theorem eW:∀(l:Vs),(∀p∈l,p.2.length=16)->(l.flatMap NW).length<=17*l.length
 |[],_=>A3 _
 |p::l,h=>by
  have:=eW l (λq hq=>h q (by simp [hq]));have h2:=Ux p.1 0 p.2;have h3:=h p (by simp);rw [Hw,Ah,A0];unfold NW at*;rw [A0];omega
theorem ZZ (h:CV s):Ou s=some (Lz (BJ s) s.Next):=by
 have hl:=h.len;unfold Ou;obtain⟨b,h1,h2⟩:=Bg (body:=λq:List Ds×Int=>Hk s q.1 q.2) (λ(o:List Ds) i=>(o,i)) s.Vols.length (λi o=>o=Lz ((BJ s).take i) s.Next/\o.length<=1+17*i) (λo=>o=Lz (BJ s) s.Next)
  (λo i hi ho=>by
   have hx:=Ab hi;have hr:=h.root _ (AH.2 ⟨s.Vols[i],AC hi,rfl⟩);have d:=ho.2;have et:(BJ s).take (i+1)=(BJ s).take i++ [(s.Vols[i].Id,E4 s.Arena.Knots s.Vols[i].Root)]:=by
    rw [DR];unfold BJ;rw [AL,hx];rfl
   simp only [Hk,AG,Ad hi,Af,AB,hx,Aa];rw [Ct (by simp;omega)];simp only [Aa];rw [Mm _ (by have:=h.few;omega) h.ar hr];simp only [Aa];obtain⟨u,u1,u2,u3⟩:=Bg (body:=λq:List Ds×Int=>Hj s (i:Int) (E4 s.Arena.Knots s.Vols[i].Root) q.1 q.2) (λ(l:List Ds) k=>(l,k)) (E4 s.Arena.Knots s.Vols[i].Root).length
    (λk u=>u=o++ [Ds.mk 2 s.Vols[i].Id 0 0]++Gf s.Vols[i].Id 0 ((E4 s.Arena.Knots s.Vols[i].Root).take k)/\u.length<=o.length+1+k) (λu=>u=o++ [Ds.mk 2 s.Vols[i].Id 0 0]++Gf s.Vols[i].Id 0 (E4 s.Arena.Knots s.Vols[i].Root)/\u.length<=o.length+17)
    (λu k hk hu=>by
     obtain⟨a,f⟩:=hu;have c:=Ab hk;have g:=aB s.Arena.Knots s.Vols[i].Root;have etk:=Aq hk;simp only [Hj,AG,Ad hk,Af,AB,c,hx,Aa];rw [ad1 (by omega)];refine .inl ?_;by_cases e:(E4 s.Arena.Knots s.Vols[i].Root)[k]>0
     ·rw [Ad e,Af,Ct (by simp;omega)];refine⟨_,rfl,?_,by simp;omega⟩;rw [etk,Ow,Aw e,a,AE,show 0+min k (E4 s.Arena.Knots s.Vols[i].Root).length=k by omega];simp only [Ao]
     rw [Ae e,Ac];refine⟨u,rfl,?_,by omega⟩
     rw [etk,Ow,Ax e,a,Az])
    (λu hu=>⟨u,by simp only [Hj,AG,Ap,Av,Ac],by rw [hu.1,AP],by have:=aB s.Arena.Knots s.Vols[i].Root;have:=hu.2;omega⟩) (s:=o++ [Ds.mk 2 s.Vols[i].Id 0 0]) ⟨by simp [Gf],by simp⟩
   have u1':Au (λq:List Ds×Int=>Hj s (i:Int) (E4 s.Arena.Knots s.Vols[i].Root) q.1 q.2) (o++ [Ds.mk 2 s.Vols[i].Id 0 0],0)=some u:=u1;rw [u1'];simp only [Aa];rw [ad1 (by omega)];refine .inl ⟨u,rfl,?_,by omega⟩;rw [et,u2,ho.1];unfold Lz;rw [Pt]
   simp [NW])
  (λo ho=>⟨o,by simp only [Hk,AG,Ap,Av,Ac],by rw [ho.1,AO (by rw [JP];exact A3 _)]⟩) (s:=[Ds.mk 1 0 s.Next 0]) ⟨rfl,by simp⟩
 have h1':Au (λq:List Ds×Int=>Hk s q.1 q.2) ([Ds.mk 1 0 s.Next 0],0)=some b:=h1;rw [h1',h2];rfl
structure VsP (l:Vs) (nx:Int):Prop where
 len:l.length<=3
 nxt:1<=nx/\nx<=1000000000
 ids:∀p∈l,1<=p.1/\p.1<=9
 asc:l.Pairwise λp q=>p.1<q.1
 row:∀p∈l,p.2.length=16
 num:∀p∈l,∀x∈p.2,0<=x/\x<nx
theorem fD {r:Int} (hK:CU K=true) (hr:D6 K r=true):∀x∈E4 K r,0<=x:=by
 intro x hx;unfold E4 at hx;obtain⟨s,hs,rfl⟩:=AH.1 hx;rw [Iu]at hs;unfold Ph
 rcases Ck hr with e|⟨h0,h1,hl⟩
 ·rw [Aw (by omega)];omega
 rw [Ax (by omega)]
 rcases FI hK h0 h1 hl (show s/4<4 by omega)with k1|⟨k1,k2,k3⟩
 ·rw [Aw (by omega)];omega
 rw [Ax (by omega)];exact qV hK k1 (by omega) k3 (by omega)
theorem CV.vs (h:CV s):VsP (BJ s) s.Next:=by
 have mem:∀p∈BJ s,∃v∈s.Vols,p=(v.Id,E4 s.Arena.Knots v.Root):=λp hp=>by
  obtain⟨v,hv,rfl⟩:=AH.1 hp;exact⟨v,hv,rfl⟩
 refine⟨by rw [JP];exact h.len,h.nx,λp hp=>?_,?_,λp hp=>?_,λp hp x hx=>?_⟩
 ·obtain⟨v,hv,rfl⟩:=mem p hp;exact h.ids v hv
 ·have:=h.asc;unfold BJ;rw [Jy]at this⊢;exact this
 ·obtain⟨v,hv,rfl⟩:=mem p hp;exact aB _ _
 obtain⟨v,hv,rfl⟩:=mem p hp;have hm:v.Root∈B9 s:=AH.2 ⟨v,hv,rfl⟩;exact⟨fD h.ar (h.root _ hm) x hx,h.lt _ hm x hx⟩
theorem Rp {P:Vs} {id:Int} (h:∀p∈P,p.1<id) (Q:Vs):LJ (P++Q) id=LJ Q id:=by
 unfold LJ;rw [List.find?_append,EN.2 (λp hp hh=>by have:=h p hp;simp at hh;omega),Option.none_or]
theorem wV {id k x:Int} (h1:1<=id/\id<=9) (h2:0<=k/\k<16) (h3:1<=x/\x<=1000000000):GR (Ds.mk 4 id k x)=true:=by
 unfold GR;simp;omega
theorem zM {id a:Int} (h1:1<=id/\id<=9) (h2:0<=a/\a<=9):GR (Ds.mk 2 id a 0)=true:=by
 unfold GR;simp;omega
theorem mN {P:Vs} {id:Int} {a:List Int} (h:∀p∈P,p.1<id) (k:Nat) (x:Int):gO (P++ [(id,a)]) id k x=P++ [(id,a.set k x)]:=by
 unfold gO;rw [Cq];congr 1
 ·conv=>rhs;rw [<-RY P]
  apply CG;intro p hp;have:=h p hp;rw [Ax (by omega)];rfl
 simp
theorem dQ {P:Vs} {id nx:Int} (hP:∀p∈P,p.1<id) (a:1<=id/\id<=9) (c:nx<=1000000000):∀(todo done:List Int),done.length+todo.length=16->(∀x∈todo,0<=x/\x<nx)->CX (P++ [(id,done++List.replicate todo.length 0)]) nx (Gf id done.length todo)=some (P++ [(id,done++todo)],nx)
 |[],done,hl,hx=>by simp [Gf,CX]
 |x::todo,done,hl,hx=>by
  have h1:=hx x (by simp);rw [A0]at hl;have ih:=dQ hP a c todo (done++ [x]) (by simp;omega) (λy hy=>hx y (by simp [hy]));rw [Ah,An]at ih;rw [Gf];have b:(done++List.replicate (todo.length+1) 0).set done.length x=done++ [x]++List.replicate todo.length 0:=by
   rw [FZ,List.set_append_right _ _ (A3 _),Qo,DI,Ao];rfl
  by_cases e:x>0
  ·rw [Aw e,Co,EU];have d:DY (P++ [(id,done++List.replicate (x::todo).length 0)]) nx (Ds.mk 4 id done.length x)=some (P++ [(id,done++ [x]++List.replicate todo.length 0)],nx):=by
    unfold DY;rw [wV a (by omega) (by omega)];simp only [IL,FV,show¬((4:Int)=1) by omega,show¬((4:Int)=2) by omega,show¬((4:Int)=3) by omega];have hg:LJ (P++ [(id,done++List.replicate (x::todo).length 0)]) id≠none:=by
     rw [Rp hP];simp [LJ]
    rw [Ax (by
     rintro(hh|hh)
     ·exact hg hh
     omega)]
    rw [mN hP,Bc,A0,b,show max nx (x+1)=nx by omega]
   rw [d];simp only [Aa];rw [ih,Ao];rfl
  rw [Ax e,A5];have e0:x=0:=by omega
  have:done++List.replicate (x::todo).length 0=done++ [x]++List.replicate todo.length 0:=by
   rw [e0,A0,FZ,Ao];rfl
  rw [this,ih,Ao];rfl
theorem nN {P:Vs} {id:Int} {a:List Int} (h:∀p∈P,p.1<id):nO P id a=P++ [(id,a)]:=by
 unfold nO;rw [Ga.2 (λp hp=>by simpa using h p hp),B7.2 (λp hp=>by have:=h p hp;simp;omega),Az]
theorem Yq (d:nx<=1000000000):∀(l P:Vs),(P++l).length<=3->(P++l).Pairwise (λp q=>p.1<q.1)->(∀p∈l,(1<=p.1/\p.1<=9)/\p.2.length=16/\∀x∈p.2,0<=x/\x<nx)->CX P nx (l.flatMap NW)=some (P++l,nx)
 |[],P,_,_,_=>by simp [CX]
 |p::l,P,b,a,hall=>by
  obtain⟨h1,h2,h3⟩:=hall p (by simp)
  have c:∀q∈P,q.1<p.1:=λq hq=>by
   rw [Bx]at a;exact a.2.2 q hq p (by simp)
  rw [Hw,KG];unfold NW;rw [EU];have f:DY P nx (Ds.mk 2 p.1 0 0)=some (P++ [(p.1,Sc)],nx):=by
   unfold DY;rw [zM h1 (by omega)];simp only [IL,FV,BU,show¬((2:Int)=1) by omega];have hg:LJ P p.1=none:=by
    have:=Rp c [];rw [Az]at this;rw [this];rfl
   rw [Ax (by
    rintro(hh|hh|hh)
    ·omega
    ·exact hh hg
    simp at b;omega)]
   rw [Ax (by omega),nN c]
  rw [f];simp only [Aa];have hz:Sc=[]++List.replicate p.2.length 0:=by rw [h2];rfl
  have e:=dQ c h1 d p.2 [] (by simpa using h2) h3;rw [<-hz,Bk,A5]at e;rw [e];simp only [Aa];have hP:P++ [(p.1,p.2)]=P++ [p]:=rfl;have:=Yq d l (P++ [p]) (by rw [Ao];exact b) (by rw [Ao];exact a) (λq hq=>hall q (by simp [hq]));rw [hP];rw [show(l.flatMap λp=>Ds.mk 2 p.1 0 0::Gf p.1 0 p.2)=l.flatMap NW from rfl,this,Ao];rfl
theorem Zt (h:VsP l nx) (l0:Vs) (n0:Int):CX l0 n0 (Lz l nx)=some (l,nx):=by
 unfold Lz;rw [EU];have a:DY l0 n0 (Ds.mk 1 0 nx 0)=some ([],nx):=by
  unfold DY;have hb:GR (Ds.mk 1 0 nx 0)=true:=by
   have:=h.nxt;unfold GR;simp;omega
  rw [hb];simp only [IL,FV,BU];have:=h.nxt;rw [Ax (by omega)]
 rw [a];simp only [Aa];have:=Yq h.nxt.2 l [] (by simpa using h.len) (by simpa using h.asc) (λp hp=>⟨h.ids p hp,h.row p hp,h.num p hp⟩);rw [A5]at this;exact this
theorem n9 (h:VsP l nx):(∀r∈Lz l nx,GR r=true)/\(Lz l nx).length<=1000:=by
 refine⟨λr hr=>?_,?_⟩
 ·
  cases hb:GR r with
  |true=>rfl
  |false=>
   exfalso;obtain⟨i,hi,rfl⟩:=AF hr;have h1:=Zt h [] 1;obtain⟨e1,e2⟩:=IU (Ab hi);rw [e1,KG]at h1
   cases hq:CX [] 1 ((Lz l nx).take i)with
   |none=>rw [hq]at h1;cases h1
   |some q=>
    rw [hq]at h1;simp only [Aa]at h1;rw [EU]at h1;have:DY q.1 q.2 (Lz l nx)[i]=none:=by unfold DY;rw [Aw hb]
    rw [this]at h1;cases h1
 unfold Lz;rw [A0];have:=eW l h.row;have:=h.len;omega
structure AA1 (d d':Ba):Prop where
 ab:BJ d'.Store=BJ d.Store
 nx:d'.Store.Next=d.Store.Next
theorem Oj (h:Lv d r) {steps:List Cc} (hs:Steps d.Flash steps g) (hl:steps.length<=1048576) (hm:CL g=some (d',true)):IT d steps=some d':=by
 unfold IT;rw [dL h.fl hs hl];simp only [Aa];rw [hm];rfl
theorem To:∀{n:Int} {ps:List Page} {p:Page},FN n ps->(∀q∈ps,q.Seq<p.Seq)->n<=p.Seq->FN n (ps++ [p])
 |n,[],p,_,_,h=>⟨h,trivial⟩
 |n,q::ps,p,ha,hq,h=>⟨ha.1,To ha.2 (λx hx=>hq x (by simp [hx])) (by have:=hq q (by simp);omega)⟩
def iH (d:Ba) (r:List A4) (p:Page):Prop:=p.Kind=1/\EB (BJ d.Store) p.Tx/\∃y,JI r p.Tx=some y/\p.Text=y.Page.Text
theorem iF (h:Lv d r) {a:List Int} (hl:∀x,x∈a↔EB (BJ d.Store) x) (hy:r[j]?=some y) (hn:(HJ r a 1000000001)[j]?=some true):y.Page.Kind=1/\EB (BJ d.Store) y.Page.Tx/\JI r y.Page.Tx=some y:=by
 rw [TJ r a _ hy]at hn
 injection hn with hn
 have b:=h.pages;have ht:=b.tx y (A7 hy);have:Fj 1000000001 y=false:=by
  unfold Fj;rw [Ae (by omega),Bool.and_false]
 rw [this,Tv,CN]at hn;obtain⟨c,hc,e⟩:=hn;have f:cI c r r.length=some j:=by simpa using e
 have h1:=tG f;rw [hy]at h1;obtain⟨_,k1,k2⟩:=SG h1;rw [k2];exact⟨k1,(hl c).1 hc,h1⟩
theorem XO (h:Lv d r) (m:r.length<=40) (b:Int):KR d b=some ([],false)\/∃steps ps g,KR d b=some (steps,true)/\Iz d.Flash steps ps g/\Cg g/\FN d.Seq ps/\steps.length<=160/\(∀p∈ps,iH d r p/\Jl p)/\∀p∈ps,p.Seq<d.Seq+160:=by
 obtain⟨a,l1,l2,l3,l4⟩:=On h.st;have t:1<=d.Seq/\d.Seq<=1000000001:=by
  rw [h.seq];have h1:=Mc r;refine⟨h1.2.1,h1.2.2 _ (by omega) (λy hy=>?_)⟩;have:=(h.pages.seq y hy).2;omega
 unfold KR;rw [h.scan.s,l1];simp only [Aa];rw [V5 r a _ h.scan.len l4];simp only [Aa];have f:a.foldl (lH r) (r.map (Fj 1000000001))=HJ r a 1000000001:=rfl;rw [f]
 let I:Nat->(List Cc×Int×List Block)->Prop:=λn o=>∃ps,Iz d.Flash o.1 ps (Flash.mk o.2.2)/\Cg (Flash.mk o.2.2)/\FN d.Seq ps/\(∀p∈ps,p.Seq<o.2.1)/\d.Seq<=o.2.1/\o.2.1<=d.Seq+n/\o.1.length<=n/\∀p∈ps,iH d r p/\Jl p
 have I0:I (40*0) ([],d.Seq,d.Flash.Blocks):=by
  refine⟨[],rfl,h.fl,trivial,?_,?_,?_,?_,?_⟩
  ·intro p hp;cases hp
  ·exact Fd _
  ·show d.Seq<=d.Seq+((40*0:Nat):Int);omega
  ·exact A3 _
  intro p hp;cases hp
 obtain⟨c,h1,h2⟩:=Bg (body:=λs:List Cc×Int×Int×List Block=>Gs b r (HJ r a 1000000001) s.1 s.2.1 s.2.2.1 s.2.2.2) (λ(o:List Cc×Int×List Block) i=>(o.1,o.2.1,i,o.2.2)) 4
  (λi o=>I (40*i) o) (λc=>c= .inr ([],false)\/∃steps sq bl,c= .inl steps/\I 160 (steps,sq,bl))
  (λo i hi ho=>by
   simp only [Gs];rw [Ad (by omega:(i:Int)<4),Af];obtain⟨q,q1,q2⟩:=Bg (body:=λs:List Cc×Int×Int×List Block=>Gr b r (HJ r a 1000000001) (i:Int) s.1 s.2.1 s.2.2.1 s.2.2.2) (λ(o:List Cc×Int×List Block) j=>(o.1,o.2.1,j,o.2.2)) r.length
    (λj o=>I (40*i+j) o) (λq=>q= .inr (.inr (.inr ([],false)))\/∃o,q= .inl o/\I (40*i+40) o)
    (λo j hj hs=>by
     obtain⟨ss,sq,bl⟩:=o;obtain⟨ps,p1,p2,p3,p4,p5,p6,p7,p8⟩:=hs;simp only at p1 p2 p4 p5 p6 p7;have hx:=Ab hj;have k:j<(HJ r a 1000000001).length:=by rw [QC];exact hj
     have e:=Ab k;simp only [Gr,AG,Ad hj,Af,AB,hx,e,Aa];rw [ad1 (by omega)];have skip:I (40*i+(j+1)) (ss,sq,bl):=⟨ps,p1,p2,p3,p4,p5,by show sq<=_;omega,by show ss.length<=_;omega,p8⟩
     cases l:(HJ r a 1000000001)[j]with
     |false=>
      simp only [AJ,Af,Aa];exact .inl ⟨(ss,sq,bl),rfl,skip⟩
     |true=>
      simp only [Aj,Ac]
      cases hb:(r[j].Block !=b)with
      |true=>
       simp only [Af,Aa];exact .inl ⟨(ss,sq,bl),rfl,skip⟩
      |false=>
       simp only [Ac,Aa]
       cases u:(r[j].Leaf !=(i:Int))with
       |true=>
        simp only [Af,Aa];exact .inl ⟨(ss,sq,bl),rfl,skip⟩
       |false=>
        simp only [Ac,Aa];obtain⟨m1,m2,m3⟩:=iF h l3 hx (by rw [e,l])
        rcases pU p2 p1 (by omega) (Page.mk r[j].Page.Kind sq r[j].Page.Tx r[j].Page.Part r[j].Page.Count r[j].Page.Text)with⟨s,g',w1,w2,w3,w4,_⟩|w
        ·rw [w1];simp only [Aa,Aj,Ac];rw [BW,Ah,An,C4 (by omega) (by omega),show((ss.length+1:Nat):Int)-1=(ss.length:Int) by omega,GJ];simp only [Aa]
         cases v:(s.Block==b)with
         |true=>exact .inr ⟨_,rfl,.inl rfl⟩
         |false=>
          simp only [Ac];rw [C6 (by omega) (by omega)];refine .inl ⟨(ss++ [s],sq+1,g'.Blocks),rfl,_,w2,w3,To p3 (λq hq=>p4 q hq) p5,λp hp=>?_,by show d.Seq<=sq+1;omega,by show sq+1<=_;omega,by simp;omega,λp hp=>?_⟩
          ·rw [Ai,Ay]at hp;show p.Seq<sq+1
           rcases hp with hp|rfl
           ·have:=p4 p hp;omega
           show sq<sq+1;omega
          rw [Ai,Ay]at hp
          rcases hp with hp|rfl
          ·exact p8 p hp
          exact⟨⟨m1,m2,_,m3,rfl⟩,w4⟩
        rw [w]
        exact .inr ⟨_,rfl,.inl rfl⟩)
    (λo hs=>⟨.inl (o.1,o.2.1,o.2.2),by simp only [Gr,AG,Ap,Av,Ac],.inr ⟨o,rfl,by
     obtain⟨ps,p1,p2,p3,p4,p5,p6,p7,p8⟩:=hs
     exact⟨ps,p1,p2,p3,p4,p5,by omega,by omega,p8⟩⟩⟩) (s:=o) (by
      obtain⟨ps,p1,p2,p3,p4,p5,p6,p7,p8⟩:=ho
      exact⟨ps,p1,p2,p3,p4,p5,by omega,by omega,p8⟩)
   have q1':Au (λs:List Cc×Int×Int×List Block=>Gr b r (HJ r a 1000000001) (i:Int) s.1 s.2.1 s.2.2.1 s.2.2.2) (o.1,o.2.1,0,o.2.2)=some q:=q1;rw [q1']
   rcases q2 with rfl|⟨o',rfl,q2⟩
   ·exact .inr ⟨_,rfl,.inl rfl⟩
   simp only [Aa,B6];rw [ad1 (by omega)]
   exact .inl ⟨o',rfl,by
    obtain⟨ps,p1,p2,p3,p4,p5,p6,p7,p8⟩:=q2
    exact⟨ps,p1,p2,p3,p4,p5,by omega,by omega,p8⟩⟩)
  (λo ho=>⟨.inl o.1,by simp only [Gs];rw [Ae (by omega:¬((4:Nat):Int)<4),Ac],.inr ⟨o.1,o.2.1,o.2.2,rfl,ho⟩⟩) (s:=([],d.Seq,d.Flash.Blocks)) I0
 have h1':Au (λs:List Cc×Int×Int×List Block=>Gs b r (HJ r a 1000000001) s.1 s.2.1 s.2.2.1 s.2.2.2) ([],d.Seq,0,d.Flash.Blocks)=some c:=h1;rw [h1']
 rcases h2 with rfl|⟨steps,sq,bl,rfl,ps,p1,p2,p3,p4,p5,p6,p7,p8⟩
 ·exact .inl rfl
 exact .inr ⟨steps,ps,_,rfl,p1,p2,p3,p7,p8,λp hp=>by have h1:p.Seq<sq:=p4 p hp;have h2:sq<=d.Seq+((160:Nat):Int):=p6;omega⟩
theorem qN (h:M6 d r) {steps:List Cc} (hp:Iz d.Flash steps ps g) (ha:FN d.Seq ps) (hl:steps.length<=160) (hm:∀p∈ps,iH d r p/\Jl p) (k:Nat):
  ∃m d',Steps d.Flash (steps.take k) m/\Cg m/\CL m=some (d',true)/\d'.Flash=m/\M6 d' (r++(Cy steps ps).take k)/\AA1 d d'/\d'.Base=d.Base/\VN d.Flash m/\∀c,EB (BJ d.Store) c->CZ (r++(Cy steps ps).take k) c=CZ r c:=by
 have f:=(FO hp).2;have w:=h.few
 have b:∀y∈r,y.Page.Seq<d.Seq:=λy hy=>by rw [h.dev.seq];exact(Mc r).1 y hy
 obtain⟨m,a⟩:=RU k hp;have l:=VI h.dev.fl (FO a).1;have ascT:∀(ps:List Page) (n:Int) (k:Nat),FN n ps->FN n (ps.take k):=by
  intro ps
  induction ps with
  |nil=>intro n k _;simp [FN]
  |cons p ps ih=>
   intro n k ha
   cases k with
   |zero=>trivial
   |succ k=>exact⟨ha.1,ih _ k ha.2⟩
 have o:=X3 h.dev.fl h.dev.sr a b (ascT _ _ k ha);rw [UF]at o;obtain⟨d',u1,u2,u3⟩:=JM l o;have h0:=RL f;have ascG:∀(ps:List Page) (n:Int) (i:Nat) (p:Page),FN n ps->ps[i]?=some p->n<=p.Seq/\∀j q,j<i->ps[j]?=some q->q.Seq<p.Seq:=by
  intro ps
  induction ps with
  |nil=>intro n i p _ hp;simp at hp
  |cons x ps ih=>
   intro n i p ha hp
   cases i with
   |zero=>
    simp only [CE,Al]at hp;rw [<-hp];exact⟨ha.1,λj q hj=>by omega⟩
   |succ i=>
    obtain⟨i1,i2⟩:=ih _ i p ha.2 (by simpa using hp);have:=ha.1;refine⟨by omega,λj q hj hq=>?_⟩
    cases j with
    |zero=>
     simp only [CE,Al]at hq;rw [<-hq];omega
    |succ j=>exact i2 j q (by omega) (by simpa using hq)
 have main:∀n,n<=(Cy steps ps).length->IK (r++(Cy steps ps).take n)/\G8 (r++(Cy steps ps).take n) (EB (BJ d.Store))/\Bt (r++(Cy steps ps).take n)=Bt r/\∀c,EB (BJ d.Store) c->CZ (r++(Cy steps ps).take n) c=CZ r c:=by
  intro n
  induction n with
  |zero=>intro _;rw [It,Az];exact⟨h.core,h.data,rfl,λ_ _=>rfl⟩
  |succ n ih=>
   intro hn;obtain⟨i1,i2,i3,i4⟩:=ih (by omega);have hx:(Cy steps ps)[n]?=some (Cy steps ps)[n]:=Ab (by omega);have s:=Kr hx;obtain⟨⟨m1,m2,y,m3,m4⟩,m5⟩:=hm _ (A7 s);obtain⟨a1,a2⟩:=ascG ps d.Seq n _ ha s;rw [Aq (by omega),<-Ao];have t:T1 (Cy steps ps)[n].Page.Text=CZ r (Cy steps ps)[n].Page.Tx:=by unfold CZ;rw [m3,m4];rfl
   have u:Da (r++(Cy steps ps).take n)<=(Cy steps ps)[n].Page.Seq:=by
    refine(Mc _).2.2 _ (m5.2.1.1) (λz hz=>?_)
    rcases Ai.1 hz with hz|hz
    ·have:=b z hz;omega
    obtain⟨j,hj,rfl⟩:=AF hz;rw [AE]at hj;rw [Jz];exact a2 j _ (by omega) (Kr (Ab (by omega)))
   refine⟨IK.add i1 (by simp;omega) m5 u (λhh=>by omega),f7 i2 (by rw [t,i4 _ m2]),by rw [UD _ (by omega),i3],λc hc=>?_⟩;by_cases e:(Cy steps ps)[n].Page.Kind=1/\(Cy steps ps)[n].Page.Tx=c
   ·have:CZ (r++(Cy steps ps).take n++ [(Cy steps ps)[n]]) c=T1 (Cy steps ps)[n].Page.Text:=by unfold CZ;rw [Mt,Aw e];rfl
    rw [this,t,e.2]
   rw [<-i4 c hc];unfold CZ;rw [Mt,Ax e]
 have v:IK (r++(Cy steps ps).take k)/\G8 (r++(Cy steps ps).take k) (EB (BJ d.Store))/\Bt (r++(Cy steps ps).take k)=Bt r/\∀c,EB (BJ d.Store) c->CZ (r++(Cy steps ps).take k) c=CZ r c:=by
  by_cases e:k<=(Cy steps ps).length
  ·exact main k e
  have:=main _ (A3 _);rw [AP]at this;rw [AO (by omega)];exact this
 obtain⟨k1,k2,k3,k4⟩:=v;obtain⟨e1,e2,e3⟩:=GO h.dev u2 (by rw [k3]);exact⟨m,d',(FO a).1,l,u1,u3,⟨u2,k1,by rw [e1];exact k2⟩,⟨e1,e2⟩,e3,λ_=>RT a,k4⟩
theorem jX (h:Lv d r) {a:List Int} (hl:a.length<=16777216) (t:ByteArray):∃v,Oq d.Flash a t=some v/\((v=0/\∀c∈a,CZ r c≠some t)\/(v∈a/\CZ r v=some t)):=by
 have hr:=h.pages;unfold Oq T9;rw [h.scan.s];simp only [Aa];obtain⟨b,h1,h2⟩:=Bg (body:=λs:Int=>HX r a t s) (λ(_:Unit) i=>i) a.length (λi _=>∀c∈a.take i,CZ r c≠some t) (λb=>(b= .inl ()/\∀c∈a,CZ r c≠some t)\/∃v,b= .inr v/\v∈a/\CZ r v=some t)
  (λ_ i hi hs=>by
   have hx:=Ab hi;simp only [HX,AG,Ad hi,Af,AB,hx,Aa];obtain⟨u,ok,k1,k2⟩:=dA hr a[i];rw [k1];simp only [Aa];rw [ad1 (by omega)]
   have no:CZ r a[i]≠some t->∀c∈a.take (i+1),CZ r c≠some t:=λg c hc=>by
    rw [Aq hi,Ai,Ay]at hc
    rcases hc with hc|rfl
    ·exact hs c hc
    exact g
   cases ok with
   |false=>
    simp only [Ac,Aa];exact .inl ⟨(),by first|rfl|trivial,no (by rw [k2];simp)⟩
   |true=>
    simp only [Af,Aa];rw [Aw rfl]at k2
    cases f:seq u t with
    |true=>
     rw [Kc,A6]at f;exact .inr ⟨_,rfl,.inr ⟨_,rfl,AC hi,by rw [k2,f]⟩⟩
    |false=>
     rw [Kc,AX]at f;refine .inl ⟨(),rfl,no ?_⟩;rw [k2];intro e
     injection e with e
     exact f e)
  (λ_ hs=>⟨_,by simp only [HX,AG,Ap,Av,Ac],.inl ⟨rfl,by rw [AP]at hs;exact hs⟩⟩) (s:=()) (by simp)
 have h1':Au (λs:Int=>HX r a t s) 0=some b:=h1;rw [h1']
 rcases h2 with⟨rfl,h2⟩|⟨v,rfl,h2⟩
 ·exact⟨0,rfl,.inl ⟨rfl,h2⟩⟩
 exact⟨v,rfl,.inr h2⟩
structure AAs (q:cC):Prop where
 kind:1<=q.Kind/\q.Kind<=6
 vol:1<=q.Vol/\q.Vol<=9
 text:(L q.Text).length<=64
 sec:0<=q.Sector/\q.Sector<=15
 of_:0<=q.Of/\q.Of<=9
 cl:q.Kind=4->1<=q.Of
 no:q.Kind≠4->q.Of=0
 tx:q.Kind≠1->L q.Text=[]
theorem YC (q:cC):∃v,Vy q=some v/\(v=true->AAs q):=by
 unfold Vy;simp only [Ex,Aa];by_cases h1:1<=q.Kind/\q.Kind<=6
 ·rw [Ad h1];by_cases h2:1<=q.Vol/\q.Vol<=9
  ·rw [Ad h2];by_cases h3:Gb q.Text>64
   ·rw [Ad h3];exact⟨_,rfl,by simp⟩
   rw [Ae h3];rw [BM]at h3;simp only [Aj,Ac];have ht:(bif(q.Kind !=1)then(some (!(seq q.Text (bs []))))else(some false):Option Bool)=some (decide (q.Kind≠1/\L q.Text≠ [])):=by
    by_cases e:q.Kind=1
    ·rw [show(q.Kind !=1)=false by simp [e],Ae (λhh=>hh.1 e)];rfl
    rw [show(q.Kind !=1)=true by simpa using e,P3,El];by_cases e2:L q.Text=[]
    ·rw [Ad e2,Ae (λhh=>hh.2 e2)];rfl
    rw [Ae e2,Ad (show q.Kind≠1/\L q.Text≠ []from⟨e,e2⟩)];rfl
   rw [ht];simp only [Aa];by_cases h4:q.Kind≠1/\L q.Text≠ []
   ·rw [Ad h4];exact⟨_,rfl,by simp⟩
   rw [Ae h4];simp only [Ac]
   have a:q.Kind≠1->L q.Text=[]:=λhk=>Classical.byContradiction λhh=>h4 ⟨hk,hh⟩
   by_cases h5:q.Kind=4
   ·rw [show(q.Kind==4)=true by simpa using h5];simp only [Af];by_cases h6:q.Sector=0
    ·rw [show(q.Sector==0)=true by simpa using h6];refine⟨_,rfl,λhh=>?_⟩;rw [A6]at hh;exact⟨h1,h2,by omega,by omega,by omega,λ_=>hh.1,λhk=>absurd h5 hk,a⟩
    rw [show(q.Sector==0)=false by simpa using h6];exact⟨_,rfl,by simp⟩
   rw [show(q.Kind==4)=false by simpa using h5];simp only [Ac];by_cases h6:q.Of=0
   ·rw [show(q.Of !=0)=false by simp [h6]];simp only [Ac];by_cases h7:q.Kind=3\/q.Kind=5
    ·have:(bif(q.Kind==3)then(some true)else(some (q.Kind==5)):Option Bool)=some true:=by
      rcases h7 with e|e<;>rw [e]<;>rfl
     rw [this];refine⟨_,rfl,λhh=>?_⟩;rw [Dm]at hh;exact⟨h1,h2,by omega,by omega,by omega,λhk=>absurd hk h5,λ_=>h6,a⟩
    have:(bif(q.Kind==3)then(some true)else(some (q.Kind==5)):Option Bool)=some false:=by
     rw [show(q.Kind==3)=false by rw [DO];omega,show(q.Kind==5)=false by rw [DO];omega];rfl
    rw [this];refine⟨_,rfl,λhh=>?_⟩;rw [A6]at hh;exact⟨h1,h2,by omega,hh,by omega,λhk=>absurd hk h5,λ_=>h6,a⟩
   rw [show(q.Of !=0)=true by simpa using h6];exact⟨_,rfl,by simp⟩
  rw [Ae h2];exact⟨_,rfl,by simp⟩
 rw [Ae h1];exact⟨_,rfl,by simp⟩
def vV (d:Ba) (r:List A4) (q:cC) (x:Ds) (a:ByteArray):Prop:=GR x=true/\x.Kind≠1/\x.Vol=q.Vol/\((L a=[]/\(x.Kind=4->EB (BJ d.Store) x.Chunk/\CZ r x.Chunk=some q.Text))\/(x.Kind=4/\x.Chunk=d.Store.Next/\L a≠ []/\T1 a=some q.Text/\∀c,EB (BJ d.Store) c->CZ r c≠some q.Text))
theorem fV (h:Lv d r) (q:cC):∃a text no,Mj d q=some (a,text,no)/\((a=[]/\text=bs [])\/(no=0/\∃x,a=[x]/\vV d r q x text))/\(no≠0->a=[]):=by
 have j:=h.st.len;have b:=h.st.nx;obtain⟨v,a1,a2⟩:=YC q;unfold Mj;rw [a1];simp only [Aa]
 cases v with
 |false=>exact⟨_,_,_,rfl,.inl ⟨rfl,rfl⟩,λ_=>rfl⟩
 |true=>
  have hq:=a2 rfl;simp only [Aj,Ac];have g:=hq.kind;obtain⟨w,hw⟩:∃w,Eq d.Store q.Vol=some w:=by
   rcases FR d.Store (by omega) q.Vol with⟨e,_⟩|⟨k,_,e,_⟩<;>exact⟨_,e⟩
  rw [hw];simp only [Aa];by_cases h34:q.Kind=3\/q.Kind=4
  ·have:(bif(q.Kind==3)then(some true)else(some (q.Kind==4)):Option Bool)=some true:=by
    rcases h34 with e|e<;>rw [e]<;>rfl
   rw [this];simp only [Aa,Af]
   cases decide (w>=0)with
   |true=>exact⟨_,_,_,rfl,.inl ⟨rfl,rfl⟩,λ_=>rfl⟩
   |false=>
    simp only [Ac];obtain⟨j2,i⟩:∃j2,(bif(q.Kind==4)then((Eq d.Store q.Of).bind λv3=>some (decide (v3<0)))else(some false):Option Bool)=some j2:=by
     cases q.Kind==4 with
     |false=>exact⟨_,rfl⟩
     |true=>
      rcases FR d.Store (by omega) q.Of with⟨e,_⟩|⟨k,_,e,_⟩<;>rw [e]<;>exact⟨_,rfl⟩
    rw [i];simp only [Aa]
    cases j2 with
    |true=>exact⟨_,_,_,rfl,.inl ⟨rfl,rfl⟩,λ_=>rfl⟩
    |false=>
     simp only [Ac]
     cases decide (ln d.Store.Vols>=3)with
     |true=>exact⟨_,_,_,rfl,.inl ⟨rfl,rfl⟩,λ_=>rfl⟩
     |false=>
      refine⟨_,_,_,rfl,.inr ⟨rfl,_,rfl,zM hq.vol hq.of_,by simp,rfl,.inl ⟨El _,λhh=>by simp at hh⟩⟩,λhh=>absurd rfl hh⟩
  have:(bif(q.Kind==3)then(some true)else(some (q.Kind==4)):Option Bool)=some false:=by
   rw [show(q.Kind==3)=false by rw [DO];omega,show(q.Kind==4)=false by rw [DO];omega];rfl
  rw [this];simp only [Aa,Ac]
  cases decide (w>=0)with
  |false=>exact⟨_,_,_,rfl,.inl ⟨rfl,rfl⟩,λ_=>rfl⟩
  |true=>
   simp only [Aj,Ac]
   cases k1:(q.Kind==1)with
   |true=>
    simp only [Af];obtain⟨l,l1,l2,l3,l4⟩:=On h.st;obtain⟨c,f1,f2⟩:=jX h l4 q.Text;rw [l1];simp only [Aa];rw [f1];simp only [Aa]
    rcases f2 with⟨rfl,f2⟩|⟨f2,f3⟩
    ·obtain⟨z,z1,z2,z3⟩:=sE q.Text hq.text;rw [show((0:Int)==0)=true from rfl,z1];refine⟨_,_,_,rfl,.inr ⟨rfl,_,rfl,wV hq.vol (by have:=hq.sec;omega) ⟨b.1,b.2⟩,by simp,rfl,.inr ⟨rfl,rfl,?_,?_,λc hc=>f2 c ((l3 c).2 hc)⟩⟩,λhh=>absurd rfl hh⟩
     ·intro e;have e':L z=[]:=e;rw [e']at z3;simp at z3
     show T1 z=some q.Text;unfold T1;rw [z2]
    have f:=(l3 c).1 f2;have m:=aO h.st f;rw [show(c==0)=false by rw [DO];omega];refine⟨_,_,_,rfl,.inr ⟨rfl,_,rfl,wV hq.vol (by have:=hq.sec;omega) (by omega),by simp,rfl,.inl ⟨El _,λ_=>⟨f,f3⟩⟩⟩,λhh=>absurd rfl hh⟩
   |false=>
    simp only [Ac]
    cases k2:(q.Kind==2)with
    |true=>
     refine⟨_,_,_,rfl,.inr ⟨rfl,_,rfl,?_,by simp,rfl,.inl ⟨El _,λhh=>by simp at hh⟩⟩,λhh=>absurd rfl hh⟩;have:=hq.vol;have:=hq.sec;unfold GR;simp;omega
    |false=>
     simp only [Ac]
     cases k5:(q.Kind==5)with
     |true=>
      refine⟨_,_,_,rfl,.inr ⟨rfl,_,rfl,?_,by simp,rfl,.inl ⟨El _,λhh=>by simp at hh⟩⟩,λhh=>absurd rfl hh⟩;have:=hq.vol;unfold GR;simp;omega
     |false=>exact⟨_,_,_,rfl,.inl ⟨rfl,rfl⟩,λ_=>rfl⟩
theorem e8 (h:DY l nx x=some (l',nx')) (hk:x.Kind≠1):(∀c,EB l' c->EB l c\/c=x.Chunk)/\nx<=nx'/\nx'<=max nx (x.Chunk+1):=by
 unfold DY at h;split at h
 ·cases h
 first
  |rw [Ax hk]at h
  |skip
 split at h
 ·split at h
  ·cases h
  injection h with h
  injection h with h1 h2
  subst h1 h2;refine⟨λc hc=>?_,by omega,by omega⟩;obtain⟨h0,p,hp,hx⟩:=hc;unfold nO at hp;simp only [Ai,AT,Ay]at hp
  rcases hp with(hp|rfl)|hp
  ·exact .inl ⟨h0,p,hp.1,hx⟩
  ·simp only at hx
   have zz:c∉Sc:=λhz=>by have:=Dy hz;omega
   split at hx
   ·cases hg:LJ l x.Arg with
    |none=>rw [hg]at hx;exact absurd hx zz
    |some row=>
     rw [hg]at hx;unfold LJ at hg;obtain⟨w,a,b⟩:=AY.1 hg;have d:=List.mem_of_find?_eq_some a;exact .inl ⟨h0,w,d,by rw [b];exact hx⟩
   exact absurd hx zz
  exact .inl ⟨h0,p,hp.1,hx⟩
 split at h
 ·cases h
 split at h
 ·injection h with h
  injection h with h1 h2
  subst h1 h2;refine⟨λc hc=>?_,by omega,by omega⟩;obtain⟨h0,p,hp,hx⟩:=hc;exact .inl ⟨h0,p,(AT.1 hp).1,hx⟩
 injection h with h
 injection h with h1 h2
 subst h1 h2;refine⟨λc hc=>?_,by omega,by omega⟩;obtain⟨h0,p,hp,hx⟩:=hc;unfold gO at hp;obtain⟨w,hw,rfl⟩:=AH.1 hp;split at hx
 ·rcases CK hx with hx|hx
  ·exact .inl ⟨h0,w,hw,hx⟩
  exact .inr hx
 exact .inl ⟨h0,w,hw,hx⟩
theorem i9 (h:DY l nx x=some (l',nx')) (hk:x.Kind≠1):∀p∈l',(∃p'∈l,p'.1=p.1)\/p.1=x.Vol:=by
 unfold DY at h;split at h
 ·cases h
 first
  |rw [Ax hk]at h
  |skip
 split at h
 ·split at h
  ·cases h
  injection h with h
  injection h with h1 h2
  subst h1 h2;intro p hp;unfold nO at hp;simp only [Ai,AT,Ay]at hp
  rcases hp with(hp|rfl)|hp
  ·exact .inl ⟨p,hp.1,rfl⟩
  ·exact .inr rfl
  exact .inl ⟨p,hp.1,rfl⟩
 split at h
 ·cases h
 split at h
 ·injection h with h
  injection h with h1 h2
  subst h1 h2
  exact λp hp=> .inl ⟨p,(AT.1 hp).1,rfl⟩
 injection h with h
 injection h with h1 h2
 subst h1 h2;intro p hp;unfold gO at hp;obtain⟨w,hw,rfl⟩:=AH.1 hp;refine .inl ⟨w,hw,?_⟩;split<;>rfl
theorem XC (h:Lv d r):∃v,Oe d=some v:=by
 have hr:=h.pages;have ht:1<=d.Tx/\d.Tx<=1000000001:=by
  rw [h.tx];have h1:=T3 r;refine⟨h1.2.1,h1.2.2 _ (by omega) (λy hy _=>?_)⟩;have:=(hr.tx y hy).2;omega
 unfold Oe
 cases(d.Base !=sb d.Tx 1)with
 |true=>exact⟨_,rfl⟩
 |false=>
  simp only [Ac];rw [h.scan.s];simp only [Aa];rw [P9 r hr];simp only [Aa];obtain⟨g1,_⟩:=RK hr;obtain⟨b,h1,_⟩:=Bg (body:=λs:Int=>Ha d (Bt r) s) (λ(_:Unit) i=>i) (Bt r).length (λ_ _=>True) (λ_=>True)
   (λ_ i hi _=>by
    have hx:=Ab hi;simp only [Ha,AG,Ad hi,Af,AB,hx,Aa];rw [ad1 (by omega)]
    cases((Bt r)[i].Num==d.Base)with
    |false=>exact .inl ⟨(),by first|rfl|trivial,trivial⟩
    |true=>
     simp only [Af]
     cases a:(Bt r)[i].Recs with
     |nil=>exact .inr ⟨_,rfl,trivial⟩
     |cons q m=>
      have hg:gi (q::m) 0=some q:=AB (i:=0);rw [Ad (by rw [BW,A0];omega:ln (q::m)>0),hg]
      exact .inr ⟨_,rfl,trivial⟩)
   (λ_ _=>⟨.inl (),by simp only [Ha,AG,Ap,Av,Ac],trivial⟩) (s:=()) trivial
  have h1':Au (λs:Int=>Ha d (Bt r) s) 0=some b:=h1;rw [h1']
  cases b with
  |inl u=>exact⟨_,rfl⟩
  |inr v=>exact⟨v,rfl⟩
theorem XH (h:Lv d r):∃v,Oi d=some v:=by
 have hn:=h.fl.n;obtain⟨a,l1,_,_,l4⟩:=On h.st;unfold Oi;rw [h.scan.s,l1];simp only [Aa];rw [V5 r a d.Base h.scan.len l4,V5 r a 1000000000 h.scan.len l4];simp only [Aa]
 have c:∀b,a.foldl (lH r) (r.map (Fj b))=HJ r a b:=λ_=>rfl
 rw [c,c];obtain⟨b,h1,_⟩:=Bg (body:=λs:Int×Int×Int=>Hf d r (HJ r a d.Base) (HJ r a 1000000000) s.1 s.2.1 s.2.2) (λ(o:Int×Int) i=>(o.1,o.2,i)) d.Flash.Blocks.length (λ_ _=>True) (λ_=>True)
  (λo i hi _=>by
   have hx:=Ab hi;have hP:=h.fl.blk _ (AC hi);simp only [Hf,AG,Ad hi,Af,AB,hx,Aa];rw [qB r _ (i:Int) h.scan.len (QC _ _ _),qB r _ (i:Int) h.scan.len (QC _ _ _),Mk _ hP.four,ad1 (by omega)];simp only [Aa,Tn]
   cases(bif !d.Flash.Blocks[i].Bad then _ else false)with
   |true=>exact .inl ⟨(_,_),by first|rfl|trivial,trivial⟩
   |false=>exact .inl ⟨o,by first|rfl|trivial,trivial⟩)
  (λo _=>⟨o.1,by simp only [Hf,AG,Ap,Av,Ac],trivial⟩) (s:=(-1,4)) trivial
 have h1':Au (λs:Int×Int×Int=>Hf d r (HJ r a d.Base) (HJ r a 1000000000) s.1 s.2.1 s.2.2) (-1,4,0)=some b:=h1;rw [h1'];exact⟨_,rfl⟩
theorem Lv.seqs (h:Lv d r):0<=d.Seq/\d.Seq<=1000000001:=by
 rw [h.seq];have h1:=Mc r;refine⟨by omega,h1.2.2 _ (by omega) (λy hy=>?_)⟩;have:=(h.pages.seq y hy).2;omega
theorem Z4 (h:∀y∈r',y.Page.Kind=2->y.Page.Tx<Dz r+n):Dz r'<=Dz r+n:=(T3 r').2.2 _ (by have:=(T3 r).2.1;omega) h
theorem Vq (n:Nat) (hy:y∈r) (hk:y.Page.Kind=2):y.Page.Tx<Dz r+n:=by have:=(T3 r).1 y hy hk;omega
theorem YO {seq tx:Int} (h:p∈C9 seq tx T):p.Tx=tx:=by
 unfold C9 at h;obtain⟨i,hi,rfl⟩:=AF h;rw [List.getElem_mapIdx]
theorem ZC (h:∀y∈r',y.Page.Seq<Da r+n):Da r'<=Da r+n:=(Mc r').2.2 _ (by have:=(Mc r).2.1;omega) h
theorem Vt (n:Nat) (hy:y∈r):y.Page.Seq<Da r+n:=by have:=(Mc r).1 y hy;omega
theorem iA {seq tx:Int} (h:p∈C9 seq tx T):p.Seq<seq+T.length:=by
 unfold C9 at h;obtain⟨i,hi,rfl⟩:=AF h;rw [IH]at hi;rw [List.getElem_mapIdx];show seq+(i:Int)<_;omega
theorem Yp {a:ByteArray} (h:p∈Dw d c a++C9 (J4 d a) d.Tx T):p.Seq<d.Seq+1+T.length:=by
 rcases Ai.1 h with h|h
 ·unfold Dw at h;by_cases e:L a=[]
  ·rw [Aw e]at h;cases h
  rw [Ax e,Ay]at h;rw [h];show d.Seq<_;omega
 have h1:=iA h;have h2:J4 d a<=d.Seq+1:=by unfold J4;split<;>omega
 omega
theorem PM {seq tx:Int} (h:p∈C9 seq tx T):p.Kind=2:=by
 unfold C9 at h;obtain⟨i,hi,rfl⟩:=AF h;rw [List.getElem_mapIdx]
def wM (m:Flash) (s:Cc) (g:Flash):Prop:=Cg g/\VN m g/\((s.Kind=1/\JH 0 g.Blocks=JH 0 m.Blocks)\/(s.Kind=2/\JH 0 g.Blocks=(JH 0 m.Blocks).filter λy=>y.Block !=s.Block))
def Zk (f:Flash) (ss:List Cc) (k:Nat) (g:Flash):Prop:=∃m,Steps f (ss.take k) m/\(g=m\/∃s,ss[k]?=some s/\Rz m s/\wM m s g)
theorem QX:∀{f:Flash} {a:List Cc} {g m:Flash},Steps f a g->Steps f a m->g=m
 |f,[],g,m,h,k=>by rw [show g=f from h,show m=f from k]
 |f,s::a,g,m,h,k=>QX h.2 k.2
theorem nZ {m:Flash} {b:List Cc} (h:Zk f (a++b) k g) (hs:Steps f a m):(k<a.length/\Zk f a k g)\/(a.length<=k/\Zk m b (k-a.length) g):=by
 obtain⟨x,h1,h2⟩:=h;by_cases e:k<a.length
 ·left;rw [Fc (by omega)]at h1;rw [AM e]at h2;exact⟨e,x,h1,h2⟩
 right;rw [Ui,AO (by omega)]at h1;rw [AS (by omega)]at h2;obtain⟨y,y1,y2⟩:=(NP _ _ _ _).1 h1;rw [QX y1 hs]at y2;exact⟨by omega,x,y2,h2⟩
structure JS (n:Nat) (d:Ba) (r:List A4) (d':Ba) (r':List A4):Prop where
 good:M6 d' r'
 ab:BJ d'.Store=BJ d.Store
 nx:d'.Store.Next=d.Store.Next
 pg:∀y∈r',y.Page.Kind=1->∃z∈r,z.Page.Kind=1/\z.Page.Tx=y.Page.Tx/\z.Page.Text=y.Page.Text
 tx:Dz r'<=Dz r+n
 wear:∀w:Int,Iv d.Flash w->Iv d'.Flash (w+n)
 text:∀c,EB (BJ d.Store) c->CZ r' c=CZ r c
 sq:Da r'<=Da r+200*n
structure As (d:Ba) (r:List A4) (d':Ba) (r':List A4):Prop where
 good:M6 d' r'
 ab:BJ d'.Store=BJ d.Store
 nx:d'.Store.Next=d.Store.Next
 tx:Dz r'<=Dz r+1
 wear:∀w:Int,Iv d.Flash w->Iv d'.Flash (w+1)
 text:∀c,EB (BJ d.Store) c->CZ r' c=CZ r c
theorem As.torn {a:List A4} (h:As d a e b) (hg:Cg g) (hp:JH 0 g.Blocks=JH 0 e.Flash.Blocks) (hw:VN e.Flash g):∃x,CL g=some (x,true)/\x.Flash=g/\As d a x b:=by
 obtain⟨x,u1,u2,u3⟩:=JM hg (r:=b) (by rw [hp];exact h.good.dev.sr);obtain⟨e1,e2,_⟩:=GO h.good.dev u2 rfl;exact⟨x,u1,u3,⟨⟨u2,h.good.core,by rw [e1];exact h.good.data⟩,by rw [e1,h.ab],by rw [e2,h.nx],h.tx,λw hh=>by rw [u3];exact hw _ (h.wear w hh),h.text⟩⟩
theorem Vn (h:VN f g) (w:Int) (hw:Iv f w):Iv g (w+n):=λb hb=>by have:=h w hw b hb;omega
theorem JS.refl (h:M6 d r):JS n d r d r:=⟨h,rfl,rfl,λy hy hk=>⟨y,hy,hk,rfl,rfl⟩,by omega,Vn λ_ h=>h,λ_ _=>rfl,by omega⟩
theorem JS.trans {g:Ba} {a c:List A4} (h:JS n d a e b) (k:JS m e b g c):JS (n+m) d a g c:=⟨k.good,by rw [k.ab,h.ab],by rw [k.nx,h.nx],λy hy hk=>by
 obtain⟨z,z1,z2,z3,z4⟩:=k.pg y hy hk;obtain⟨w,w1,w2,w3,w4⟩:=h.pg z z1 z2
 exact⟨w,w1,w2,by rw [w3,z3],by rw [w4,z4]⟩,by have:=h.tx;have:=k.tx;omega,λw hw=>by
 have:=k.wear _ (h.wear w hw);intro x hx;have:=this x hx
 omega,λc hc=>by rw [k.text c (by rw [h.ab];exact hc),h.text c hc],by have:=h.sq;have:=k.sq;omega⟩
theorem JS.mono {a:List A4} (h:JS n d a e b) (hm:n<=m):JS m d a e b:={h with
 tx:=by have:=h.tx;omega
 wear:=λw hw x hx=>by have:=h.wear w hw x hx;omega
 sq:=by have:=h.sq;omega}
theorem JS.torn {a:List A4} (h:JS n d a e b) (hg:Cg g) (hp:JH 0 g.Blocks=JH 0 e.Flash.Blocks) (hw:VN e.Flash g):∃x,CL g=some (x,true)/\x.Flash=g/\JS n d a x b:=by
 obtain⟨x,u1,u2,u3⟩:=JM hg (r:=b) (by rw [hp];exact h.good.dev.sr);obtain⟨e1,e2,_⟩:=GO h.good.dev u2 rfl;exact⟨x,u1,u3,⟨⟨u2,h.good.core,by rw [e1];exact h.good.data⟩,by rw [e1,h.ab],by rw [e2,h.nx],h.pg,h.tx,λw hh=>by rw [u3];exact hw _ (h.wear w hh),h.text,h.sq⟩⟩
def Nd (n:Nat) (d:Ba) (r:List A4) (steps:List Cc):Prop:=(∃m,Steps d.Flash steps m)/\∀k g,k<=steps.length->Zk d.Flash steps k g->∃x rx,CL g=some (x,true)/\x.Flash=g/\JS n d r x rx
theorem YK {steps:List Cc} (h1:∀s∈steps,s.Kind=1) (hc:∀k,k<=steps.length->∃x rx,Steps d.Flash (steps.take k) x.Flash/\CL x.Flash=some (x,true)/\JS n d r x rx):Nd n d r steps:=by
 refine⟨?_,λk g hk hg=>?_⟩
 ·obtain⟨x,rx,c1,_⟩:=hc steps.length (A3 _);rw [AP]at c1;exact⟨_,c1⟩
 obtain⟨x,rx,c1,c2,c3⟩:=hc k hk;obtain⟨m,m1,m2⟩:=hg;have:=QX m1 c1;subst this
 rcases m2 with rfl|⟨s,s1,_,s2,s3,⟨_,s4⟩|⟨s4,_⟩⟩
 ·exact⟨x,rx,c2,rfl,c3⟩
 ·obtain⟨y,y1,y2,y3⟩:=c3.torn s2 s4 s3;exact⟨y,rx,y1,y2,y3⟩
 have:=h1 s (A7 s1);omega
theorem Nd.full {steps:List Cc} (h:M6 d r) (hc:Nd n d r steps) (hl:steps.length<=1000000):∃x rx,IT d steps=some x/\Steps d.Flash steps x.Flash/\JS n d r x rx:=by
 obtain⟨⟨m,hm⟩,hk⟩:=hc;obtain⟨x,rx,x1,x2,x3⟩:=hk steps.length m (A3 _) ⟨m,by rw [AP];exact hm,.inl rfl⟩;exact⟨x,rx,Oj h.dev hm (by omega) x1,by rw [x2];exact hm,x3⟩
theorem oL {re:List A4} {b:List Cc} (hk:JS n d r e re) (hs:Steps d.Flash a e.Flash) (ha:Nd n d r a) (hb:Nd m e re b):Nd (n+m) d r (a++b):=by
 refine⟨?_,λk g c hg=>?_⟩
 ·obtain⟨x,hx⟩:=hb.1;exact⟨x,(NP _ _ _ _).2 ⟨_,hs,hx⟩⟩
 rw [Ah]at c
 rcases nZ hg hs with⟨e1,e2⟩|⟨e1,e2⟩
 ·obtain⟨x,rx,x1,x2,x3⟩:=ha.2 k g (by omega) e2;exact⟨x,rx,x1,x2,x3.mono (by omega)⟩
 obtain⟨x,rx,x1,x2,x3⟩:=hb.2 _ g (by omega) e2;exact⟨x,rx,x1,x2,hk.trans x3⟩
theorem WG (r m:List A4) (c:Int) (h:∀y∈m,¬(y.Page.Kind=1/\y.Page.Tx=c)):JI (r++m) c=JI r c:=by
 unfold JI;rw [AR,B7.2 (λy hy hh=>h y hy (PV.1 hh)),Az]
theorem jZ (h:M6 d r) (hw:Iv d.Flash 999999999):∃steps ok,Ot d=some (steps,ok)/\steps.length<=200/\(ok=false->steps=[])/\(ok=true->Nd 1 d r steps):=by
 have hv:=h.dev.st.vs;obtain⟨dead,d1,d2,d3⟩:=W2 h.dev;unfold Ot;rw [d1];simp only [Aa]
 cases hd:dead with
 |cons b m=>
  rw [Ad (by rw [BW,A0];omega:ln (b::m)>0),show gi (b::m) 0=some b from AB (i:=0)];simp only [Af,Aa];refine⟨_,_,rfl,by simp,(λhh=>by cases hh),λ_=>?_⟩;obtain⟨x,x1,x2,x3⟩:=d3 b (by rw [hd];simp);have hc:rX d.Flash b:=⟨x,x1,x2,λe=>by have:=hw x (A7 (DK x1).2);omega⟩;have hs:Rz d.Flash (Cc.mk 2 b 0 (bs [])):= .inr ⟨rfl,hc⟩;obtain⟨w1,w2⟩:=Uj h.dev.fl hc;have he:JU d.Flash (Cc.mk 2 b 0 (bs []))=Sd d.Flash b:=by unfold JU;rw [Ax (by simp)]
  have wp:∀g,Cg g->JH 0 g.Blocks=((JH 0 d.Flash.Blocks).filter λy=>y.Block !=b)->(∀w:Int,Iv d.Flash w->Iv g (w+1))->∃x rx,CL g=some (x,true)/\x.Flash=g/\JS 1 d r x rx:=by
   intro g g1 g2 g3;obtain⟨d',u1,u2,u3,u4,u5,_,u6⟩:=tB h x3 g1 g2;exact⟨d',_,u1,u2,u3,u4,u5,λy hy hk=>⟨y,(AT.1 hy).1,hk,rfl,rfl⟩,Z4 λy hy hk=>Vq _ (AT.1 hy).1 hk,by rw [u2];exact g3,u6,ZC (n:=200*1) λy hy=>Vt _ (AT.1 hy).1⟩
  refine⟨⟨_,hs,rfl⟩,λk g hk hg=>?_⟩;obtain⟨q,q1,q2⟩:=hg
  cases k with
  |zero=>
   rw [show q=d.Flash from q1]at q2
   rcases q2 with rfl|⟨s,s1,_,s2,s3,⟨s4,_⟩|⟨_,s4⟩⟩
   ·obtain⟨x,u1,u2,u3⟩:=(JS.refl (n:=1) h).torn h.dev.fl rfl λ_ hh=>hh
    exact⟨x,r,u1,u2,u3⟩
   ·simp only [CE,Al]at s1;rw [<-s1]at s4;simp at s4
   simp only [CE,Al]at s1;rw [<-s1]at s4
   exact wp g s2 s4 λw hh y hy=>by have:=s3 w hh y hy;omega
  |succ k=>
   have q1':Steps d.Flash [Cc.mk 2 b 0 (bs [])] q:=by simpa using q1
   have e:q=Sd d.Flash b:=by rw [show q=JU d.Flash (Cc.mk 2 b 0 (bs []))from q1'.2,he]
   rcases q2 with rfl|⟨s,s1,_⟩
   ·rw [e]
    exact wp _ w1 w2 λw hh=>by rw [<-he];exact Y1 hh (by omega) (.inr (Fd _))
   simp at s1
 |nil=>
  rw [show decide (ln ([]:List Int)>0)=false from rfl];simp only [Ac];obtain⟨v,v1⟩:=XC h.dev;rw [v1];simp only [Aa]
  cases v with
  |false=>
   simp only [AJ,Af];unfold PB;rw [ZZ h.dev.st];simp only [Aa];obtain⟨b1,b2⟩:=n9 hv
   rcases Tq h.dev.fl h.dev.seqs (Lz (BJ d.Store) d.Store.Next) (by unfold Lz;simp) b2 b1 (bs [])with w|⟨steps,T,g,f,w1,w2,w3,w4,w5,w6,w7,w8,w9⟩
   ·rw [w];exact⟨_,_,rfl,by simp,λ_=>rfl,λhh=>by cases hh⟩
   rw [w2];simp only [Aa];have j:=(FO w7).2;have o:(C9 (J4 d (bs [])) d.Tx T).length=T.length:=by unfold C9;rw [IH]
   have l:Dw d f.Chunk (bs [])=[]:=by unfold Dw;rw [Aw (El _)]
   rw [l,A5,o]at j;refine⟨_,_,rfl,by omega,(λhh=>by cases hh),λ_=>YK (OW w7) λk hk=>?_⟩;obtain⟨m,d',r',c1,c2,c3,c4,c5,rfl,cw,c6,c7,c8,c9⟩:=Tz h b1 w3 w4 w5 w6 w7 w9 (λhh=>absurd (El _) hh) k hk;have a:BJ d'.Store=BJ d.Store/\d'.Store.Next=d.Store.Next:=by
    by_cases e:k<steps.length
    ·obtain⟨e1,e2,_⟩:=GO h.dev c4 (by rw [c8 e]);exact⟨e1,e2⟩
    obtain⟨q,hq⟩:=(c9 (by omega)).1;have hB:Za (Tx.mk d.Tx q (Lz (BJ d.Store) d.Store.Next))=true:=rfl;have a:=c4.ab;rw [hq,Qs,Aw hB]at a;have:Kn [Tx.mk d.Tx q (Lz (BJ d.Store) d.Store.Next)]=(BJ d.Store,d.Store.Next):=by
     show(CX [] 1 (Lz (BJ d.Store) d.Store.Next)).getD ([],1)=_;rw [Zt hv];rfl
    rw [this]at a
    injection a with e1 e2
    exact⟨e1,e2⟩
   have hX:∀y∈(Cy steps (Dw d f.Chunk (bs [])++C9 (J4 d (bs [])) d.Tx T)).take k,y.Page.Kind=2/\y.Page.Tx=d.Tx:=λy hy=>by
    have cP:=Mr _ _ _ y hy;rw [l,A5]at cP;exact⟨PM cP,YO cP⟩
   refine⟨d',_,by rw [c5];exact c1,by rw [c5];exact c3,⟨c4,c6,by rw [a.1];exact c7⟩,a.1,a.2,λy hy hk=>?_,Z4 λy hy hk=>?_,by rw [c5];exact Vn (n:=1) cw,λc hc=>?_,ZC (n:=200*1) λy hy=>?_⟩
   ·rcases Ai.1 hy with hh|hh
    ·exact⟨y,hh,hk,rfl,rfl⟩
    have:=(hX y hh).1;omega
   ·rcases Ai.1 hy with hh|hh
    ·exact Vq _ hh hk
    rw [(hX y hh).2,h.dev.tx];omega
   ·unfold CZ;rw [WG _ _ _ λy hy hh=>by have:=(hX y hy).1;omega]
   rcases Ai.1 hy with hh|hh
   ·exact Vt _ hh
   have:=Yp (Mr _ _ _ y hh);rw [h.dev.seq]at this;omega
  |true=>
   simp only [Aj,Ac];obtain⟨vi,vi1⟩:=XH h.dev;rw [vi1];simp only [Aa]
   cases decide (vi<0)with
   |true=>exact⟨_,_,rfl,by simp,λ_=>rfl,λhh=>by cases hh⟩
   |false=>
    simp only [Ac]
    rcases XO h.dev h.few vi with w|⟨steps,ps,g,w1,w2,w3,w4,w5,w6,w7⟩
    ·rw [w];exact⟨_,_,rfl,by simp,λ_=>rfl,λhh=>by cases hh⟩
    rw [w1];refine⟨steps,true,rfl,by omega,(λhh=>by cases hh),λ_=>YK (OW w2) λk hk=>?_⟩;obtain⟨m,d',c1,c2,c3,c4,c5,c6,_,cw,c7⟩:=qN h w2 w4 w5 w6 k;refine⟨d',_,by rw [c4];exact c1,by rw [c4];exact c3,c5,c6.ab,c6.nx,λy hy hk=>?_,Z4 λy hy hk=>?_,by rw [c4];exact Vn (n:=1) cw,c7,ZC (n:=200*1) λy hy=>?_⟩
    ·rcases Ai.1 hy with hh|hh
     ·exact⟨y,hh,hk,rfl,rfl⟩
     obtain⟨⟨_,_,z,z1,z2⟩,_⟩:=w6 _ (Mr _ _ _ _ hh);obtain⟨a1,a2,a3⟩:=SG z1;exact⟨z,a1,a2,a3,z2.symm⟩
    ·rcases Ai.1 hy with hh|hh
     ·exact Vq _ hh hk
     have:=(w6 _ (Mr _ _ _ _ hh)).1.1;omega
    rcases Ai.1 hy with hh|hh
    ·exact Vt _ hh
    have:=w7 _ (Mr _ _ _ _ hh);rw [h.dev.seq]at this;omega
theorem Uf (h:Cg f):∃v:Int,Mi f=some v:=by
 obtain⟨v,v1,_⟩:=oE f h.cap (by have:=h.few;omega);exact⟨v,v1⟩
theorem j7 (h:M6 d r) (hw:Iv d.Flash 999999000) (most:Int):∃d' all r',Ml d most=some (d',all)/\JS 20 d r d' r'/\all.length<=4000/\Steps d.Flash all d'.Flash/\Nd 20 d r all:=by
 unfold Ml;rw [Up h.dev];simp only [Aa]
 have l:∀{n:Nat} {a:List Cc},n<=20->Nd n d r a->Nd 20 d r a:=λhn hc=>⟨hc.1,λk g hk hg=>by
  obtain⟨x,rx,x1,x2,x3⟩:=hc.2 k g hk hg
  exact⟨x,rx,x1,x2,x3.mono hn⟩⟩
 obtain⟨b,h1,d',all,r',h2,h3,h4,h5,h6⟩:=Bg (body:=λs:List Cc×Int×List Block×List Vol×List BI×Int×Int×Int×Int=>Hi most s.1 s.2.1 s.2.2.1 s.2.2.2.1 s.2.2.2.2.1 s.2.2.2.2.2.1 s.2.2.2.2.2.2.1 s.2.2.2.2.2.2.2.1 s.2.2.2.2.2.2.2.2)
  (λ(o:List Cc×Ba) i=>(o.1,i,o.2.Flash.Blocks,o.2.Store.Vols,o.2.Store.Arena.Knots,o.2.Store.Next,o.2.Seq,o.2.Tx,o.2.Base)) 20
  (λi o=>o.1.length<=200*i/\∃r',JS i d r o.2 r'/\Steps d.Flash o.1 o.2.Flash/\Nd i d r o.1)
  (λb=>∃d' all r',(b= .inr (d',all)\/b= .inl (all,d'.Flash.Blocks,d'.Store.Vols,d'.Store.Arena.Knots,d'.Store.Next,d'.Seq,d'.Tx,d'.Base))/\JS 20 d r d' r'/\all.length<=4000/\Steps d.Flash all d'.Flash/\Nd 20 d r all)
  (λo i hi hs=>by
   obtain⟨all,e⟩:=o;obtain⟨j,r',hg,c,f⟩:=hs;simp only at j hg c f;have m:Ba.mk (Flash.mk e.Flash.Blocks) (Store.mk e.Store.Vols (Arena.mk e.Store.Arena.Knots) e.Store.Next) e.Seq e.Tx e.Base=e:=rfl;have p:Flash.mk e.Flash.Blocks=e.Flash:=rfl;simp only [Hi];rw [m,p];obtain⟨v,v1⟩:=Uf hg.good.dev.fl;rw [v1,Ad (by omega:(i:Int)<20)];simp only [Af,Aa,Tn]
   cases(bif decide ((i:Int)<most)then decide (v<12)else false)with
   |false=>
    simp only [Ac];exact .inr ⟨_,rfl,e,all,r',.inr rfl,hg.mono (by omega),by omega,c,l (by omega) f⟩
   |true=>
    simp only [Af];obtain⟨steps,ok,c1,c2,_,c3⟩:=jZ hg.good (λx hx=>by have:=hg.wear _ hw x hx;omega);rw [c1];simp only [Aa]
    cases ok with
    |false=>
     simp only [AJ,Af];exact .inr ⟨_,rfl,e,all,r',.inl rfl,hg.mono (by omega),by omega,c,l (by omega) f⟩
    |true=>
     obtain⟨d',r2,k1,k2,k3⟩:=(c3 rfl).full hg.good (by omega);simp only [Aj,Ac];rw [k1];simp only [Aa];rw [Ct (by omega),ad1 (by omega)]
     exact .inl ⟨(all++steps,d'),rfl,by simp;omega,r2,hg.trans k3,(NP _ _ _ _).2 ⟨_,c,k2⟩,oL hg c f (c3 rfl)⟩)
  (λo hs=>by
   obtain⟨all,e⟩:=o;obtain⟨j,r',hg,c,f⟩:=hs;refine⟨.inl (all,e.Flash.Blocks,e.Store.Vols,e.Store.Arena.Knots,e.Store.Next,e.Seq,e.Tx,e.Base),?_,e,all,r',.inr rfl,hg,by simpa using j,c,f⟩;simp only [Hi];rw [Ae (by omega:¬((20:Nat):Int)<20)]
   cases decide (((20:Nat):Int)<most)<;>rfl) (s:=([],d)) ⟨by simp,r,JS.refl h,rfl,⟨⟨_,rfl⟩,λk g hk hg=>by
   obtain⟨q,q1,q2⟩:=hg;rw [List.take_nil]at q1;rw [show q=d.Flash from q1]at q2
   rcases q2 with rfl|⟨s,s1,_⟩
   ·obtain⟨x,u1,u2,u3⟩:=(JS.refl (n:=0) h).torn h.dev.fl rfl λ_ hh=>hh
    exact⟨x,r,u1,u2,u3⟩
   simp at s1⟩⟩
 have h1':Au (λs:List Cc×Int×List Block×List Vol×List BI×Int×Int×Int×Int=>Hi most s.1 s.2.1 s.2.2.1 s.2.2.2.1 s.2.2.2.2.1 s.2.2.2.2.2.1 s.2.2.2.2.2.2.1 s.2.2.2.2.2.2.2.1 s.2.2.2.2.2.2.2.2) ([],0,d.Flash.Blocks,d.Store.Vols,d.Store.Arena.Knots,d.Store.Next,d.Seq,d.Tx,d.Base)=some b:=h1;rw [h1']
 rcases h2 with rfl|rfl
 ·exact⟨d',all,r',rfl,h3,h4,h5,h6⟩
 exact⟨d',all,r',rfl,h3,h4,h5,h6⟩
theorem pJ {r:Int} (h:k<16):(E4 K r)[k]?=some (Ph K r k):=by unfold E4;exact Hl h
theorem dN (h:CV s) (vol:Int) (hk:k<16):∃c,N3 s vol (k:Int)=some c/\((LJ (BJ s) vol=none/\c=0)\/∃a,LJ (BJ s) vol=some a/\a[k]?=some c/\0<=c/\(c≠0->EB (BJ s) c)):=by
 have hl:=h.len;unfold N3
 rcases FR s (by omega) vol with⟨e,e2⟩|⟨i,v,e,e2,e3,_⟩
 ·rw [e];exact⟨0,rfl,.inl ⟨NH.1 e2,rfl⟩⟩
 rw [e];simp only [Aa];have hm:=A7 e2;have hr:=h.root _ (AH.2 ⟨v,hm,rfl⟩);rw [Ae (by omega),Ac,AB,e2];simp only [Aa];rw [Ww _ (by have:=h.few;omega) h.ar hr hk];have hg:=NG h.asc hm;rw [e3]at hg;have h0:=fD h.ar hr _ (Xm hk);exact⟨_,rfl,.inr ⟨_,hg,pJ hk,h0,λb=>⟨by omega,_,AH.2 ⟨v,hm,rfl⟩,Xm hk⟩⟩⟩
theorem cU (h:M6 d r) (vol:Int) (hk:k<16):(LJ (BJ d.Store) vol=none/\LL r d.Store vol (k:Int)=some (bs [],false))\/
  ∃a c,LJ (BJ d.Store) vol=some a/\a[k]?=some c/\N3 d.Store vol (k:Int)=some c/\((c=0/\LL r d.Store vol (k:Int)=some (bs [],true))\/(0<c/\EB (BJ d.Store) c/\∃u,CZ r c=some u/\LL r d.Store vol (k:Int)=some (u,true))):=by
 have hl:=h.dev.st.len;obtain⟨c,c1,c2⟩:=dN h.dev.st vol hk;unfold LL;rw [c1]
 rcases FR d.Store (by omega) vol with⟨e,e2⟩|⟨i,v,e,e2,e3,_⟩
 ·rw [e];exact .inl ⟨NH.1 e2,rfl⟩
 have hg:=NG h.dev.st.asc (A7 e2);rw [e3]at hg
 rcases c2 with⟨c2,_⟩|⟨a,c2,c3,c4,c5⟩
 ·rw [hg]at c2;cases c2
 rw [e];simp only [Aa];rw [Ae (by omega),Ac];right;refine⟨a,c,c2,c3,rfl,?_⟩;by_cases e0:c=0
 ·rw [show(c==0)=true by simpa using e0];exact .inl ⟨e0,rfl⟩
 rw [show(c==0)=false by simpa using e0];simp only [Ac];have b:=c5 e0;obtain⟨u,hu⟩:=h.data.data c b;obtain⟨w,ok,t1,t2⟩:=dA h.dev.pages c;rw [t1];rw [hu]at t2
 cases ok with
 |false=>cases t2
 |true=>
  rw [Aw rfl]at t2
  injection t2 with t2
  exact .inr ⟨by omega,b,u,hu,by rw [t2];rfl⟩
theorem jQ (h:Lv d r) {q:cC} {a:List Ds} {b:ByteArray} (hp:Mj d q=some (a,b,0)):AAs q:=by
 obtain⟨v,a1,a2⟩:=YC q
 cases v with
 |true=>exact a2 rfl
 |false=>
  unfold Mj at hp;rw [a1]at hp;simp at hp
def fY (r r':List A4) (c:Int) (a:ByteArray):Prop:=(∀y∈r',y.Page.Kind=1->(∃z∈r,z.Page.Kind=1/\z.Page.Tx=y.Page.Tx/\z.Page.Text=y.Page.Text)\/(L a≠ []/\y.Page.Tx=c/\y.Page.Text=a))/\Dz r'<=Dz r+1/\Da r'<=Da r+10
theorem tA (h:M6 d r) {q:cC} {b:ByteArray} (hx:vV d r q x b):EF d [x] b=some ([],false)\/∃steps d' r',EF d [x] b=some (steps,true)/\steps.length<=10/\IT d steps=some d'/\M6 d' r'/\
  (BJ d'.Store,d'.Store.Next)=(DY (BJ d.Store) d.Store.Next x).getD (BJ d.Store,d.Store.Next)/\d.Store.Next<=d'.Store.Next/\d'.Store.Next<=d.Store.Next+1/\fY r r' x.Chunk b/\VN d.Flash d'.Flash/\Steps d.Flash steps d'.Flash/\1<=steps.length/\∀k g,k<steps.length->Zk d.Flash steps k g->∃y ry,CL g=some (y,true)/\y.Flash=g/\As d r y ry/\fY r ry x.Chunk b:=by
 obtain⟨x1,x2,xv,x3⟩:=hx;have h7:=h.dev.st.nx
 have i:∀z∈ [x],GR z=true:=λz hz=>by rw [Ay]at hz;rw [hz];exact x1
 rcases Tq h.dev.fl h.dev.seqs [x] (by simp) (by simp) i b with w|⟨steps,T,g,a,w1,w2,w3,w4,w5,w6,w7,w8,w9⟩
 ·exact .inl w
 right;have j:a=x:=by simpa using w1.symm
 subst j;have t:=(FO w7).2;have h3:(C9 (J4 d b) d.Tx T).length=T.length:=by unfold C9;rw [IH]
 have h8:(Dw d a.Chunk b).length<=1:=by unfold Dw;split<;>simp
 rw [Ah,h3]at t
 have l:L b≠ []->¬EB (BJ d.Store) a.Chunk:=λht h4=>by
  rcases x3 with⟨x3,_⟩|⟨_,x4,_⟩
  ·exact ht x3
  have:=aO h.dev.st h4;omega
 have fw:∀k,fY r (r++(Cy steps (Dw d a.Chunk b++C9 (J4 d b) d.Tx T)).take k) a.Chunk b:=λk=>by
  have cP:∀y∈r++(Cy steps (Dw d a.Chunk b++C9 (J4 d b) d.Tx T)).take k,y∈r\/y.Page∈Dw d a.Chunk b++C9 (J4 d b) d.Tx T:=λy hy=>(Ai.1 hy).imp id (Mr _ _ _ y)
  refine⟨λy hy hk=>?_,Z4 (n:=1) λy hy hk=>?_,ZC (n:=10) λy hy=>?_⟩
  ·rcases cP y hy with hh|hh
   ·exact .inl ⟨y,hh,hk,rfl,rfl⟩
   rcases Ai.1 hh with hh|hh
   ·unfold Dw at hh;by_cases e:L b=[]
    ·rw [Aw e]at hh;cases hh
    rw [Ax e,Ay]at hh;exact .inr ⟨e,by rw [hh],by rw [hh]⟩
   have:=PM hh;omega
  ·rcases cP y hy with hh|hh
   ·exact Vq _ hh hk
   rcases Ai.1 hh with hh|hh
   ·unfold Dw at hh;by_cases e:L b=[]
    ·rw [Aw e]at hh;cases hh
    rw [Ax e,Ay]at hh;rw [hh]at hk;cases hk
   rw [YO hh,h.dev.tx];omega
  rcases cP y hy with hh|hh
  ·exact Vt _ hh
  have:=Yp hh;rw [h.dev.seq]at this;omega
 have cut:∀k g,k<steps.length->Zk d.Flash steps k g->∃y ry,CL g=some (y,true)/\y.Flash=g/\As d r y ry/\fY r ry a.Chunk b:=λk g hk hg=>by
  obtain⟨m,y,ry,c1,c2,c3,c4,c5,hr',cw,c6,c7,c8,_⟩:=Tz h i w3 w4 w5 w6 w7 w9 l k (by omega);obtain⟨e1,e2,_⟩:=GO h.dev c4 (by rw [c8 hk]);subst hr'
  have u:As d r y (r++(Cy steps (Dw d a.Chunk b++C9 (J4 d b) d.Tx T)).take k):=⟨⟨c4,c6,by rw [e1];exact c7⟩,e1,e2,(fw k).2.1,by rw [c5];exact Vn (n:=1) cw,λc hc=>by
   unfold CZ;rw [WG _ _ _ λz hz hh=>?_];have h5:=Mr _ _ _ z hz
   rcases Ai.1 h5 with hh2|hh2
   ·unfold Dw at hh2;by_cases e:L b=[]
    ·rw [Aw e]at hh2;cases hh2
    rw [Ax e,Ay]at hh2;refine l e ?_;have:=hh.2;rw [hh2]at this;rw [show a.Chunk=c from this];exact hc
   have:=PM hh2
   omega⟩
  obtain⟨q,q1,q2⟩:=hg;have:=QX q1 c1;subst this
  rcases q2 with rfl|⟨s,s1,_,s2,s3,⟨_,s4⟩|⟨s4,_⟩⟩
  ·exact⟨y,_,c3,c5,u,fw k⟩
  ·obtain⟨z,z1,z2,z3⟩:=u.torn s2 (by rw [c5];exact s4) (by rw [c5];exact s3);exact⟨z,_,z1,z2,z3,fw k⟩
  have:=OW w7 s (A7 s1);omega
 obtain⟨m,d',r',c1,c2,c3,c4,c5,hr',cw,c6,c7,_,c9⟩:=Tz h i w3 w4 w5 w6 w7 w9 l steps.length (A3 _);rw [<-c5]at cw;rw [AP]at c1;have v:Steps d.Flash steps d'.Flash:=by rw [c5];exact c1
 have h0:fY r r' a.Chunk b:=by rw [hr'];exact fw _
 obtain⟨⟨qn,hq⟩,c10⟩:=c9 rfl;have hB:¬Za (Tx.mk d.Tx qn [a])=true:=by
  unfold Za;simpa using x2
 have f:=c4.ab;rw [hq,Qs,Ax hB,WI,<-h.dev.ab]at f;have h6:CX (BJ d.Store) d.Store.Next [a]=DY (BJ d.Store) d.Store.Next a:=by
  rw [EU];cases DY (BJ d.Store) d.Store.Next a<;>rfl
 simp only [h6]at f;have h1:=Oj h.dev c1 (by omega) c3
 cases o:DY (BJ d.Store) d.Store.Next a with
 |none=>
  rw [o]at f;have e1:BJ d'.Store=BJ d.Store:=BR Prod.fst f;have e2:d'.Store.Next=d.Store.Next:=BR Prod.snd f;exact⟨steps,d',r',w2,by omega,h1,⟨c4,c6,by rw [e1];exact c7⟩,by rw [e1,e2];rfl,by omega,by omega,h0,cw,v,by omega,cut⟩
 |some p=>
  obtain⟨l',nx'⟩:=p;rw [o]at f;have e1:BJ d'.Store=l':=BR Prod.fst f;have e2:d'.Store.Next=nx':=BR Prod.snd f;obtain⟨v1,v2,v3⟩:=e8 o x2
  have hz:∀c,EB l' c->c=a.Chunk->a.Kind≠4->False:=λc hc h9 hk=>by
   have:a.Chunk=0:=by
    have hb:=x1;unfold GR at hb;rw [show(a.Kind==1)=false by simpa using x2,show(a.Kind==4)=false by simpa using hk]at hb;simp at hb;omega
   have:=hc.1;omega
  have h2:a.Chunk<=d.Store.Next:=by
   by_cases hk:a.Kind=4
   ·rcases x3 with⟨_,x4⟩|⟨_,x4,_⟩
    ·have:=aO h.dev.st (x4 hk).1;omega
    omega
   have hb:=x1;unfold GR at hb;rw [show(a.Kind==1)=false by simpa using x2,show(a.Kind==4)=false by simpa using hk]at hb;simp at hb;omega
  refine⟨steps,d',r',w2,by omega,h1,⟨c4,c6,?_⟩,by rw [e1,e2];rfl,by omega,by omega,h0,cw,v,by omega,cut⟩;rw [e1]
  rcases x3 with⟨x3,x4⟩|⟨x3,x4,x5,x6,x7⟩
  ·refine c7.mono λc hc=>?_
   rcases v1 c hc with hh|hh
   ·exact hh
   by_cases hk:a.Kind=4
   ·rw [hh];exact(x4 hk).1
   exact absurd trivial (λ_=>hz c hc hh hk)
  exact(c10 _ x6 x5 x7).mono v1
def sP (r r':List A4) (nx:Int) (a:ByteArray):Prop:=(∀y∈r',y.Page.Kind=1->(∃z∈r,z.Page.Kind=1/\z.Page.Tx=y.Page.Tx/\z.Page.Text=y.Page.Text)\/(y.Page.Tx=nx/\T1 y.Page.Text=some a))/\Dz r'<=Dz r+21/\Da r'<=Da r+4010
def yX (d d':Ba) (v:Int):Prop:=∀p∈BJ d'.Store,(∃p'∈BJ d.Store,p'.1=p.1)\/p.1=v
theorem JS.q (h:JS n d r e r') (hn:n<=20) (nx:Int) (t:ByteArray):sP r r' nx t:=⟨λy hy hk=> .inl (h.pg y hy hk),by have:=h.tx;omega,by have:=h.sq;omega⟩
theorem Lb (h:BJ d'.Store=BJ d.Store) (v:Int):yX d d' v:=λp hp=> .inl ⟨p,by rw [<-h];exact hp,rfl⟩
theorem vF (h:M6 d r) (hw:Iv d.Flash 999999000) (q:cC):∃d' steps t no r',Vw d q=some (d',steps,t,no)/\M6 d' r'/\d.Store.Next<=d'.Store.Next/\d'.Store.Next<=d.Store.Next+1/\sP r r' d.Store.Next q.Text/\yX d d' q.Vol/\∀w:Int,Iv d.Flash w->Iv d'.Flash (w+20):=by
 have a:JS 20 d r d r:=JS.refl h;unfold Vw;rw [Up h.dev,ZV h.dev];simp only [Aa,Aj,Ac];obtain⟨v,h0,no,p1,p2,p3⟩:=fV h.dev q;rw [p1];simp only [Aa]
 cases f:(no !=0)with
 |true=>exact⟨_,_,_,_,r,rfl,h,by omega,by omega,a.q (by omega) _ _,Lb rfl _,a.wear⟩
 |false=>
  have g:no=0:=by simpa using f
  subst g;have hq:=jQ h.dev p1;simp only [Ac]
  cases h1:(q.Kind==6)with
  |true=>
   simp only [Af];obtain⟨k,hk⟩:∃k:Nat,q.Sector=(k:Int):=⟨_,(Bp hq.sec.1).symm⟩;unfold Wr;rw [h.dev.scan.s,hk];simp only [Aa]
   rcases cU h q.Vol (k:=k) (by have:=hq.sec;omega)with⟨_,e⟩|⟨h2,c,_,_,_,⟨_,e⟩|⟨_,_,u,_,e⟩⟩
   ·rw [e];exact⟨_,_,_,_,r,rfl,h,by omega,by omega,a.q (by omega) _ _,Lb rfl _,a.wear⟩
   ·rw [e];exact⟨_,_,_,_,r,rfl,h,by omega,by omega,a.q (by omega) _ _,Lb rfl _,a.wear⟩
   rw [e];exact⟨_,_,_,_,r,rfl,h,by omega,by omega,a.q (by omega) _ _,Lb rfl _,a.wear⟩
  |false=>
   simp only [Ac];obtain⟨v5,i⟩:=Uf h.dev.fl;rw [i];simp only [Aa];have clean:∃e all re,(bif(decide (v5<12))then((Ml d 20).bind λv6=>some (v6.2,v6.1.Flash.Blocks,v6.1.Store.Vols,v6.1.Store.Arena.Knots,v6.1.Store.Next,v6.1.Seq,v6.1.Tx,v6.1.Base))else(some ([],d.Flash.Blocks,d.Store.Vols,d.Store.Arena.Knots,d.Store.Next,d.Seq,d.Tx,d.Base)):Option (List Cc×List Block×List Vol×List BI×Int×Int×Int×Int))=some (all,Flash.Blocks (Ba.Flash e),e.Store.Vols,e.Store.Arena.Knots,e.Store.Next,e.Seq,e.Tx,e.Base)/\JS 20 d r e re/\all.length<=4000:=by
    cases decide (v5<12)with
    |false=>exact⟨d,[],r,rfl,a,by simp⟩
    |true=>
     obtain⟨e,all,re,k1,k2,k3,_⟩:=j7 h hw 20;simp only [Af];rw [k1];exact⟨e,all,re,rfl,k2,k3⟩
   obtain⟨e,all,re,k1,k5,k4⟩:=clean;have k2:=k5.good;rw [k1];simp only [Aa];have j:Ba.mk (Flash.mk e.Flash.Blocks) (Store.mk e.Store.Vols (Arena.mk e.Store.Arena.Knots) e.Store.Next) e.Seq e.Tx e.Base=e:=rfl;have l:Flash.mk e.Flash.Blocks=e.Flash:=rfl;rw [j,l];obtain⟨recs2,text2,no2,s1,s2,_⟩:=fV k2.dev q;rw [s1];simp only [Aa];obtain⟨v9,m⟩:=Uf k2.dev.fl;rw [m];have n:=k5.nx
   rcases s2 with⟨rfl,rfl⟩|⟨_,x,rfl,s2⟩
   ·have hw:EF e [] (bs [])=some ([],true):=rfl;rw [hw];simp only [Aa,Aj,Ac]
    cases decide (v9<8)with
    |true=>exact⟨_,_,_,_,re,rfl,k2,by omega,by omega,k5.q (by omega) _ _,Lb k5.ab _,k5.wear⟩
    |false=>
     simp only [Ac];obtain⟨d',u1,u2,u3⟩:=JM k2.dev.fl k2.dev.sr;obtain⟨e1,e2,_⟩:=GO k2.dev u2 rfl;rw [Oj k2.dev (steps:=[]) rfl (by simp) u1];simp only [Aa];rw [Ct (by simp;omega)];exact⟨_,_,_,_,re,rfl,⟨u2,k2.core,by rw [e1];exact k2.data⟩,by omega,by omega,k5.q (by omega) _ _,Lb (by rw [e1,k5.ab]) _,by rw [u3];exact k5.wear⟩
   rcases tA k2 s2 with w|⟨steps,d',r',w1,w2,w3,w4,w7,w5,w6,w8,w9,_⟩
   ·rw [w];exact⟨_,_,_,_,re,rfl,k2,by omega,by omega,k5.q (by omega) _ _,Lb k5.ab _,k5.wear⟩
   rw [w1];simp only [Aa,Aj,Ac]
   cases decide (v9<8)with
   |true=>exact⟨_,_,_,_,re,rfl,k2,by omega,by omega,k5.q (by omega) _ _,Lb k5.ab _,k5.wear⟩
   |false=>
    simp only [Ac];rw [w3];simp only [Aa];rw [Ct (by omega)];refine⟨_,_,_,_,r',rfl,w4,by omega,by omega,⟨λy hy hk=>?_,by have:=w8.2.1;have:=k5.tx;omega,by have:=w8.2.2;have:=k5.sq;omega⟩,λp hp=>?_,λw hh=>w9 _ (k5.wear w hh)⟩
    ·rcases w8.1 y hy hk with⟨z,z1,z2,z3,z4⟩|⟨t1,t2,t3⟩
     ·obtain⟨w,a1,a2,a3,a4⟩:=k5.pg z z1 z2;exact .inl ⟨w,a1,a2,by rw [a3,z3],by rw [a4,z4]⟩
     obtain⟨_,_,_,s3⟩:=s2
     rcases s3 with⟨s3,_⟩|⟨_,s4,_,s5,_⟩
     ·exact absurd s3 t1
     exact .inr ⟨by rw [t2,s4,n],by rw [t3,s5]⟩
    have e1:=BR Prod.fst w7;simp only at e1;rw [e1]at hp
    cases b:DY (BJ e.Store) e.Store.Next x with
    |none=>
     rw [b]at hp;exact .inl ⟨p,by rw [<-k5.ab];exact hp,rfl⟩
    |some lp=>
     rw [b]at hp;obtain⟨l',nx'⟩:=lp;have o:p∈l':=hp
     rcases i9 b s2.2.1 p o with⟨p',q1,q2⟩|hh
     ·exact .inl ⟨p',by rw [<-k5.ab];exact q1,q2⟩
     exact .inr (by rw [hh,s2.2.2.1])
structure Lj (c:BN):Prop where
 i0:0<=c.i_
 i1:c.i_<=(c.b_.length:Int)
 len:c.b_.length<=1048576
theorem r8 (a:Int):0<=yF .i64 a 255/\yF .i64 a 255<=255:=by
 unfold yF;have h:(BitVec.ofInt IntKind.i64.bits a&&&BitVec.ofInt IntKind.i64.bits 255).toNat<=255:=by
  rw [BitVec.toNat_and];refine Hu Nat.and_le_right ?_;exact Nat.le_of_eq rfl
 rw [Ns (by omega) (by omega)];omega
theorem X7 {c:BN} (h:Lj c):∃v c',Jg c=some (v,c')/\Lj c'/\0<=v/\v<=255:=by
 have:=h.i0;have:=h.i1;have:=h.len;unfold Jg;by_cases e:c.i_<ln c.b_
 ·rw [Ad e,Af,Qd h.i0 (by rw [BW]at e;exact e)];rw [BW]at e;simp only [Aa];rw [C6 (a:=c.i_) (by omega) (by omega)];exact⟨_,_,rfl,⟨by show 0<=c.i_+1;omega,by show c.i_+1<=(c.b_.length:Int);omega,h.len⟩,r8 _⟩
 rw [Ae e,Ac];exact⟨_,_,rfl,⟨h.i0,h.i1,h.len⟩,r8 _⟩
theorem zL {a n:Int} (h0:0<=a) (hn:0<n):∃v,rm .i64 a n=some v/\0<=v/\v<n:=by
 unfold rm;rw [Ax (by omega),JT h0];exact⟨_,rfl,Int.emod_nonneg _ (by omega),Int.emod_lt_of_pos _ hn⟩
theorem QY {c:BN} (h:Lj c) (n:Int):∃v c',DJ c n=some (v,c')/\Lj c'/\0<=v/\(0<n->v<n):=by
 unfold DJ;by_cases h0:n<=0
 ·rw [Ad h0];exact⟨_,_,rfl,h,by omega,λhh=>by omega⟩
 rw [Ae h0,Ac];by_cases h1:n<=256
 ·rw [Ad h1,Af];obtain⟨v,c',k1,k2,k3,k4⟩:=X7 h;rw [k1];obtain⟨w,w1,w2,w3⟩:=zL (n:=n) k3 (by omega);simp only [Aa];rw [w1];exact⟨_,_,rfl,k2,w2,λ_=>w3⟩
 rw [Ae h1,Ac];obtain⟨v1,c1,a1,a2,a3,a4⟩:=X7 h;obtain⟨v2,c2,b1,b2,b3,b4⟩:=X7 a2;obtain⟨v3,c3,d1,d2,d3,d4⟩:=X7 b2;obtain⟨v4,c4,e1,e2,e3,e4⟩:=X7 d2;rw [a1];simp only [Aa];rw [b1];simp only [Aa];rw [d1];simp only [Aa];rw [e1];simp only [Aa];rw [NA (by omega) (by omega),NA (by omega) (by omega),NA (by omega) (by omega),C6 (a:=v1*16777216) (b:=v2*65536) (by omega) (by omega),C6 (a:=v1*16777216+v2*65536) (b:=v3*256) (by omega) (by omega),C6 (a:=v1*16777216+v2*65536+v3*256) (b:=v4) (by omega) (by omega)];obtain⟨w,w1,w2,w3⟩:=zL (a:=v1*16777216+v2*65536+v3*256+v4) (n:=n) (by omega) (by omega);rw [w1];exact⟨_,_,rfl,e2,w2,λ_=>w3⟩
theorem LU {c:BN} (h:Lj c) (hn:0<n):∃(v:Nat) (c':BN),DJ c (n:Int)=some ((v:Int),c')/\Lj c'/\v<n:=by
 obtain⟨v,c',k1,k2,k3,k4⟩:=QY h (n:Int);have:=k4 (by omega);exact⟨v.toNat,c',by rw [Bp k3];exact k1,k2,by omega⟩
theorem oG {c:BN} {l:List Int} (h:Lj c) (hl:0<l.length):∃v c',L9 c l=some (v,c')/\Lj c'/\v∈l:=by
 unfold L9;obtain⟨v,c',k1,k2,k3⟩:=LU h hl;rw [BW,k1];simp only [Aa];rw [AB,Ab k3];exact⟨_,_,rfl,k2,AC k3⟩
theorem yN {c:BN} {l:List ByteArray} (h:Lj c) (hl:0<l.length):∃v c',Nx c l=some (v,c')/\Lj c'/\v∈l:=by
 unfold Nx;obtain⟨v,c',k1,k2,k3⟩:=LU h hl;rw [BW,k1];simp only [Aa];rw [AB,Ab k3];exact⟨_,_,rfl,k2,AC k3⟩
theorem sK {c:BN} (h:Lj c) (n:Int):∃v c',Je c n=some (v,c')/\Lj c':=by
 unfold Je;obtain⟨v,c',k1,k2,_⟩:=QY h n;rw [k1];exact⟨_,_,rfl,k2⟩
theorem MY {c:BN} (h:Lj c):Lj (BN.mk c.b_ c.i_ c.h_):=h
theorem AAo {code:List Int} (h:code.length<=1048576):∃c,Sz code=some c/\Lj c:=by
 unfold Sz;obtain⟨b,h1,_⟩:=Bg (body:=λs:Int×Int=>Jf code s.1 s.2) (λ(o:Int) i=>(o,i)) code.length (λ_ _=>True) (λ_=>True)
  (λo i hi _=>by
   have hx:=Ab hi;simp only [Jf,AG,Ad hi,Af,Aa,AB,hx];rw [ad1 (i:=i) (by omega)]
   cases decide ((i:Int)<4000)with
   |true=>exact .inl ⟨_,rfl,trivial⟩
   |false=>exact .inr ⟨_,rfl,trivial⟩)
  (λo _=>⟨o,by simp only [Jf,AG,Ap,Av,Ac,Aa],trivial⟩) (s:=ad 36501 (ln code)) trivial
 have h1':Au (λs:Int×Int=>Jf code s.1 s.2) (ad 36501 (ln code),0)=some b:=h1;rw [h1'];exact⟨_,rfl,⟨Fd _,by show(0:Int)<=_;omega,h⟩⟩
end Go.TI
