/- Drawn lives are as the document tells. No condition; no program is in sight. -/
import Derived.Test.YtkekljphpcfbmaaGreatTPP1
set_option linter.unusedVariables false
set_option linter.unusedSimpArgs false
namespace Go.TI
open Go
theorem zK (s:ByteArray) (f a:Nat) (hf:f<a) (ha:a<=(L s).length) (hs:(L s).length<=64):∃k:Nat,NY s (f:Int) (a:Int)=some (k:Int)/\k<=31/\a+k<=(L s).length/\∀j,j<k->(L s)[f+j]?=(L s)[a+j]? :=by
 obtain⟨b,h1,k,rfl,h2,h3,h4⟩:=A9 (body:=λn:Int=>Jf s (f:Int) (a:Int) n) (λ(_:Unit) i=>i) 31 (λi _=>a+i<=(L s).length/\∀j,j<i->(L s)[f+j]?=(L s)[a+j]?) (λb=>∃k:Nat,b=(k:Int)/\k<=31/\a+k<=(L s).length/\∀j,j<k->(L s)[f+j]?=(L s)[a+j]?)
  (λ_ i hi hs=>by
   simp only[Jf];rw[cT,Ch,Ch,Bu];by_cases c:a+i<(L s).length
   ·rw[cT];have e1:((f:Int)+(i:Int))=((f+i:Nat):Int):=by omega
    have e2:((a:Int)+(i:Int))=((a+i:Nat):Int):=by omega
    rw[e1,e2,EI s (by omega),EI s c];simp only[Aa]
    cases hq:((((L s)[f+i]).toNat:Int)==(((L s)[a+i]).toNat:Int))with
    |true=>
     rw[ad1];refine .inl ⟨(),rfl,by omega,λj hj=>?_⟩
     grind [UInt8.toNat_inj]
    |false=>grind
   grind)
  (λ_ hs=>by
   simp only[Jf];rw[cF]
   exact⟨_,rfl,31,rfl,by omega,hs.1,hs.2⟩) (s:=()) ⟨by omega,λj hj=>by omega⟩
 unfold NY
 grind
def ACC (s:ByteArray) (a z b:Nat):Prop:=z<=31/\a+z<=(L s).length/\(z=0\/(4<=z/\1<=b/\b<=a/\∀j,j<z->(L s)[a-b+j]?=(L s)[a+j]?))
theorem ABa (s:ByteArray) (a:Nat) (ha:a<=(L s).length) (hs:(L s).length<=64):∃z b:Nat,Ah (λq:Int×Int×Int=>Ec s (a:Int) q.1 q.2.1 q.2.2) (0,0,sb (a:Int) 1)=some ((z:Int),(b:Int))/\ACC s a z b:=by
 rw[BV];obtain⟨r,h1,z,b,rfl,h2⟩:=A9 (body:=λq:Int×Int×Int=>Ec s (a:Int) q.1 q.2.1 q.2.2) (λ(q:Nat×Nat) i=>((q.1:Int),(q.2:Int),(a:Int)-1-i)) a (λi q=>ACC s a q.1 q.2) (λr=>∃z b:Nat,r=((z:Int),(b:Int))/\ACC s a z b)
  (λq i hi hq=>by
   obtain⟨k,m1,m2,m3,m4⟩:=zK s (a-1-i) a (by omega) ha hs;have e1:((a:Int)-1-(i:Int))=((a-1-i:Nat):Int):=by omega
   simp only[Ec,e1];rw[Ac (by omega:(((a-1-i:Nat)):Int)>=0),Ap,m1,Aa,BV,BV];refine .inl ?_;have e2:(((a-1-i:Nat):Int)-1)=(a:Int)-1-((i+1:Nat):Int):=by omega
   have e3:((a:Int)-((a-1-i:Nat):Int))=((1+i:Nat):Int):=by omega
   rw[e2,e3];by_cases h4:4<=k
   ·rw[cT];by_cases h5:q.1<k
    ·rw[Ac (by omega:(k:Int)>(q.1:Int))];exact⟨(k,1+i),rfl,m2,m3,.inr ⟨h4,by omega,by omega,λj hj=>by grind⟩⟩
    grind
   grind)
  (λq hq=>by grind [Ec]) (s:=(0,0)) ⟨by omega,by omega,.inl rfl⟩
 grind
def Yp:Nat->Nat->List UInt8->List UInt8
 |0,_,out=>out
 |n+1,b,out=>Yp n b (out++ [(out[out.length-b]?).getD 0])
def cL (a:List UInt8) (t:AM):List UInt8:=if t.Back=0 then a++L t.Text else Yp t.Size.toNat t.Back.toNat a
def Fk (l:List AM):List UInt8:=l.foldl cL []
def okT (a:List UInt8) (t:AM):Prop:=(t.Back=0/\t.Size=0/\1<=(L t.Text).length/\(L t.Text).length<=31)\/(1<=t.Back/\t.Back<=(a.length:Int)/\1<=t.Size/\t.Size<=31/\L t.Text=[])
def okL (l:List AM):Prop:=∀(i:Nat) t,l[i]?=some t->okT (Fk<|l.take i) t
theorem PI (l:List AM) (t:AM):Fk (l++ [t])=cL (Fk l) t:=by unfold Fk;grind
variable {r a r':List Al} {d e d':Device} {y:Al} {n k m j:Nat} {g f:Flash} {s:Store} {c:BA} {P:Int->Prop} {T:List ByteArray} {b nx nx':Int} {l l':Vs} {t:AM} {p:Page} {q:Ask} {ps:List Page} {x:Cn} {nd:List Bool} {ss:List AG} {K:Ks}
theorem l9 {l:List AM} (h:okL l) (ht:okT (Fk l) t):okL (l++ [t]):=by
 intro i x hx;by_cases e:i<l.length
 ·rw[Mg e]at hx;rw[List.take_append_of_le_length<|by omega];exact h i x hx
 grind
theorem ABG {l:List AM} (h:okL (l++ [t])):okL l/\okT (Fk l) t:=by
 refine⟨λi x hx=>?_,?_⟩
 ·have:=h i x (by grind)
  grind
 have:=h l.length t<|by grind
 grind
theorem jI (S:List UInt8):∀(n a b:Nat),a+n<=S.length->1<=b->b<=a->(∀j,j<n->S[a-b+j]?=S[a+j]?)->Yp n b (S.take a)=S.take (a+n)
 |0,a,b,_,_,_,_=>rfl
 |n+1,a,b,h1,h2,h3,h4=>by
  rw[Yp];have hl:(S.take a).length=a:=by grind
  have e:((S.take a)[(S.take a).length-b]?).getD 0=S[a]'(by omega):=by
   have:=h4 0<|by omega
   grind
  rw[e,<-Ag (by omega),jI S n (a+1) b (by omega) h2 (by omega) λj hj=>by grind];congr 1;omega
theorem rG:∀(n b:Nat) (a:List UInt8),(Yp n b a).length=a.length+n
 |0,_,_=>rfl
 |n+1,b,a=>by rw[Yp,rG];simp;omega
theorem VD (s:ByteArray) (hs:(L s).length<=64):∀(n a:Nat) (c:List AM),(L s).length-a<=n->a<=(L s).length->c.length<=a->okL c->Fk c=(L s).take a->∃l,Ah (λq:List AM×Int=>Cx s q.1 q.2) (c,(a:Int))=some l/\okL l/\Fk l=L s/\l.length<=64
 |n,a,c,hn,ha,g,d,hpl=>by
  by_cases h:a<(L s).length
  ·obtain⟨z,b,h1,h2,h3,h4⟩:=ABa s a ha hs
   match n,hn with
   |0,hn=>omega
   |n+1,hn=>
   rcases h4 with rfl|⟨h4,h5,h6,h7⟩
   ·
    have f:sub s (a:Int) ((a+1:Nat):Int)=some (s.extract a<|a+1):=FM s (by omega) (by omega);have hx:L (s.extract a<|a+1)=[(L s)[a]]:=by
     rw[Kg,show a+1-a=1 by omega,AB h];rfl
    have fresh:∃l,Ah (λq:List AM×Int=>Cx s q.1 q.2) (c++ [AM.mk 0 0<|s.extract a<|a+1],((a+1:Nat):Int))=some l/\okL l/\Fk l=L s/\l.length<=64:=
     VD s hs n (a+1) _ (by omega) (by omega) (by simp;omega) (l9 d<|.inl ⟨rfl,rfl,by rw[hx];simp,by rw[hx];simp⟩) (by grind [PI,Ag,cL])
    rcases GZ c with e|⟨out0,t0,e⟩
    ·subst e;obtain⟨l,f1,f2⟩:=fresh;rw[Aw];have hb:Cx s [] (a:Int)=some (.inl ([AM.mk 0 0<|s.extract a<|a+1],((a+1:Nat):Int))):=by
      simp only[Cx];rw[Bu,cT,h1];simp only[Aa];rw[show decide ((((0:Nat):Int))>0)=false from rfl,Ad,ad1,f,show decide ((sb (ln ([]:List AM)) 1)>=0)=false from rfl];rfl
     grind
    rw[Km]at e;subst e;obtain⟨ok0,okt0⟩:=ABG d;have hol':out0.length+1<=a:=by simpa using g
    have j:ln (out0++ [t0])=((out0.length+1:Nat):Int):=by rw[Bc];simp
    have k:sb (ln<|out0++ [t0]) 1=(out0.length:Int):=by grind [BV]
    have m:gi (out0++ [t0]) (out0.length:Int)=some t0:=EU _ _;by_cases hm:t0.Back=0/\(L t0.Text).length<31
    ·have i:HG t0.Text (s.extract a<|a+1)=some (t0.Text++s.extract a (a+1)):=GL _ _ (by grind);have hb:Cx s (out0++ [t0]) (a:Int)=some (.inl (out0++ [AM.mk t0.Back t0.Size<|t0.Text++s.extract a (a+1)],((a+1:Nat):Int))):=by
      simp only[Cx];rw[Bu,cT,h1];simp only[Aa]
      grind [ad1,Bu,JM]
     have hX:L (t0.Text++s.extract a (a+1))=L t0.Text++ [(L s)[a]]:=by rw[Ha,hx]
     obtain⟨l,f1,f2⟩:=VD s hs n (a+1) (out0++ [AM.mk t0.Back t0.Size<|t0.Text++s.extract a (a+1)]) (by omega) (by omega) (by grind) (l9 ok0 (by
      rcases okt0 with⟨k1,k2,k3,k4⟩|⟨k1,_⟩
      ·exact .inl ⟨k1,k2,by rw[hX];simp,by grind⟩
      omega))<|by grind [PI,Ag,cL]
     grind [Aw]
    have hb:Cx s (out0++ [t0]) (a:Int)=some (.inl (out0++ [t0]++ [AM.mk 0 0<|s.extract a<|a+1],((a+1:Nat):Int))):=by grind [Bu,ad1,AY,Cx]
    grind [Aw]
   have hb:Cx s c (a:Int)=some (.inl (c++ [AM.mk (b:Int) (z:Int)<|bs []],((a+z:Nat):Int))):=by grind [Bu,AY,Ch,Cx]
   obtain⟨l,f1,f2⟩:=VD s hs n (a+z) (c++ [AM.mk (b:Int) (z:Int)<|bs []]) (by omega) h3 (by simp;omega) (l9 d<|.inr ⟨by simp;omega,by grind,by simp;omega,by simp;omega,DO _⟩)<|by grind [PI,jI,cL]
   grind [Aw]
  grind [Aw,Bu,Cx]
theorem ACJ (s:ByteArray) (hs:(L s).length<=64):∃l,Lt s=some l/\okL l/\Fk l=L s/\l.length<=64:=by
 obtain⟨l,h1,h2⟩:=VD s hs (L s).length 0 [] (by omega) (by omega) (by simp) (λi t h=>by simp at h)<|by simp[Fk]
 grind [Bu,Lt]
def OA (t:AM):List UInt8:=if t.Back=0 then UInt8.ofNat (L t.Text).length::L t.Text else [UInt8.ofNat (128+t.Size).toNat,UInt8.ofNat t.Back.toNat]
theorem xK {a:List UInt8} (h:okT a t) (ho:a.length<=64):(OA t).length<=32:=by
 unfold OA
 rcases h with⟨h1,h2,h3,h4⟩|⟨h1,h2,h3,h4,h5⟩
 ·grind
 grind
theorem ADW {a:List UInt8} (h:okT a t):a.length<=(cL a t).length:=by grind [rG,cL]
theorem Oi {l:List AM} (h:okL l):∀i,i<=l.length->(Fk (l.take i)).length<=(Fk l).length:=by
 have step:∀i,i<l.length->(Fk<|l.take i).length<=(Fk<|l.take<|i+1).length:=λi hi=>by
  rw[Ag hi,PI];exact ADW<|h i _<|Ab hi
 intro i hi;have:∀k,i+k<=l.length->(Fk<|l.take i).length<=(Fk<|l.take<|i+k).length:=by
  intro k
  induction k with
  |zero=>grind
  |succ k ih=>grind
 have:=this (l.length-i) (by omega);simp_all
theorem AFr (s:ByteArray) (hs:(L s).length<=64):∃l,okL l/\Fk l=L s/\l.length<=64/\((E9 s=some (bs (122::l.flatMap OA),true))\/E9 s=some (bs (114::L s),true)):=by
 obtain⟨l,h1,h2,h3,h4⟩:=ACJ s hs;refine⟨l,h2,h3,h4,?_⟩;unfold E9;rw[Bu,cF,h1];simp only[Aa];obtain⟨b,q1,q2⟩:=A9 (body:=λq:ByteArray×Int=>ER l q.1 q.2) (λz i=>(z,i)) l.length (λi z=>L z=122::(l.take i).flatMap OA/\(L z).length<=1+32*i) (λz=>L z=122::l.flatMap OA/\(L z).length<=3000)
  (λz i hi hz=>by
   have hx:=Ab hi;have c:=h2 i _ hx;have a:=Oi h2 i (by omega);rw[h3]at a;have d:=xK c (by omega);have et:(l.take<|i+1).flatMap OA=(l.take i).flatMap OA++OA l[i]:=by grind [Ag]
   simp only[ER,Do hi,Aq,hx,Aa];rw[ad1];refine .inl ?_
   rcases c with⟨k1,k2,k3,k4⟩|⟨k1,k2,k3,k4,k5⟩
   ·grind [GL,Ha,O4,Bu,IntKind.wrap_u8,OA]
   grind [Ch,GL,Ha,O4,IntKind.wrap_u8,OA])
  (λz hz=>⟨z,by simp[CQ,ER],by grind,by omega⟩) (s:=bs [122]) ⟨by rw[DO];rfl,by rw[DO];simp⟩
 rw[q1];simp only[Aa];have hb:b=bs (122::l.flatMap OA):=Jy<|by rw[q2.1,DO]
 cases decide (ad ((L s).length:Int) 1<=Gz b)with
 |false=>grind
 |true=>
  right;rw[GL _ _<|by grind [DO]];rfl
theorem WT (t:ByteArray) (ht:(L t).length<=10000):∀(l:List AM) (a:Nat) (c:List AM),(∀x∈l,∃o:List UInt8,okT o x/\o.length<=64)->(L t).drop a=l.flatMap OA->a<=(L t).length->c.length<=a->Ah (λq:List AM×Int=>BM t q.1 q.2) (c,(a:Int))=some (.inl (c++l))
 |[],a,c,hl,h,ha,ho=>by
  have:(L t).length=a:=by simp_all;grind
  grind [Aw,Bu,BM]
 |x::l,a,c,hl,h,ha,ho=>by
  obtain⟨o,k,p⟩:=hl x (by simp);rw[List.flatMap_cons]at h;have d:=Co List.length h;rw[Qk,AD]at d
  rcases k with⟨k1,k2,k3,k4⟩|⟨k1,k2,k3,k4,k5⟩
  ·have he:OA x=UInt8.ofNat (L x.Text).length::L x.Text:=by grind [OA]
   rw[he]at h d;rw[AX]at d;have f:a<(L t).length:=by omega
   have e:=AB f;rw[h,Ct]at e
   injection e with hx hd
   have j:(((L t)[a]).toNat:Int)=((L x.Text).length:Int):=by grind [GQ]
   have n:sub t ((a+1:Nat):Int) ((a+1+(L x.Text).length:Nat):Int)=some x.Text:=by
    rw[FM t (by omega)<|by omega]
    grind [Jy,Kg,List.take_left']
   have hb:BM t c (a:Int)=some (.inl (c++ [AM.mk 0 0 x.Text],((a+1+(L x.Text).length:Nat):Int))):=by grind [Bu,EI,O8,Ch,AY,BM]
   have i:AM.mk 0 0 x.Text=x:=by
    cases x with
    |mk b z u=>grind
   rw[i]at hb;rw[Aw];simp only[hb];have:=WT t ht l (a+1+(L x.Text).length) (c++ [x]) (λy hy=>hl y<|by simp[hy]) (by rw[<-Ey,<-hd,JJ rfl]) (by omega) (by simp;omega)
   grind
  have he:OA x=[UInt8.ofNat (128+x.Size).toNat,UInt8.ofNat x.Back.toNat]:=by unfold OA;grind
  rw[he]at h d;simp only[AX,Nf]at d;have f:a<(L t).length:=by omega
  have e:=AB f;rw[h]at e;simp only[Ct,Ax]at e
  injection e with hx hd
  have g:=AB (show a+1<(L t).length by omega);rw[<-hd]at g
  injection g with hx2 hd2
  have j:(((L t)[a]).toNat:Int)=128+x.Size:=by grind [GQ]
  have m:(((L t)[a+1]'(by omega)).toNat:Int)=x.Back:=by grind [GQ]
  have hb:BM t c (a:Int)=some (.inl (c++ [AM.mk x.Back x.Size<|bs []],((a+2:Nat):Int))):=by
   simp only[BM];rw[Bu,cT,EI t f,Aa,j,O8 (by omega) (by omega),cT,Ch (b:=2) (by omega) (by omega),cF,ad1,EI t (by omega),Aa,m,O8 (by omega) (by omega),BV,AY (by simp;omega),Aa,show 128+x.Size-128=x.Size by omega];rfl
  have i:AM.mk x.Back x.Size (bs [])=x:=by
   cases x with
   |mk b z u=>grind [Jy,DO]
  rw[i]at hb;rw[Aw];simp only[hb];have:=WT t ht l (a+2) (c++ [x]) (λy hy=>hl y<|by simp[hy]) (by grind) (by omega) (by simp;omega)
  grind
def Jk (l:List UInt8):List Int:=l.map λc=>(c.toNat:Int)
theorem zY (l:List UInt8):L (Fu (Jk l))=l:=by
 rw[O4,Jk,H7];have:((λn:Int=>UInt8.ofNat n.toNat)∘λc:UInt8=>(c.toNat:Int))=id:=by
  funext c;simp
 rw[this,Vy]
theorem AA8 (b:ByteArray):zJ b=Jk (L b):=rfl
theorem aL (x:AM) (b:1<=x.Back) (hs:0<=x.Size/\x.Size<=31):∀(n k:Nat) (a:List UInt8),(k:Int)+n=x.Size->x.Back<=(a.length:Int)->a.length+n<=1000->Ah (λq:List Int×Int=>D9 x q.1 q.2) (Jk a,(k:Int))=some (Jk (Yp n x.Back.toNat a))
 |0,k,a,hk,c,ho=>by
  rw[Aw];have hb:D9 x (Jk a) (k:Int)=some (.inr (Jk a)):=by grind [D9]
  simp only[hb];rfl
 |n+1,k,a,hk,c,ho=>by
  have d:ln (Jk a)=(a.length:Int):=by rw[Bc,Jk,Bw]
  have e:gi (Jk a) ((a.length:Int)-x.Back)=some (((a[a.length-x.Back.toNat]?).getD 0).toNat:Int):=by grind [Aq,Jk]
  have hb:D9 x (Jk a) (k:Int)=some (.inl (Jk<|a++ [(a[a.length-x.Back.toNat]?).getD 0],((k+1:Nat):Int))):=by grind [BV,AY,ad1,D9,Jk]
  rw[Aw];simp only[hb];rw[Yp];exact aL x b hs n (k+1) _ (by omega) (by simp;omega) (by simp;omega)
theorem tO (l:List AM) (hl:l.length<=64) (a:okL l) (h64:(Fk l).length<=64):Ah (λq:List Int×Int=>Ef l q.1 q.2) ([],0)=some (.inl (Jk (Fk l))):=by
 obtain⟨b,h1,h2⟩:=A9 (body:=λq:List Int×Int=>Ef l q.1 q.2) (λ(o:List UInt8) i=>(Jk o,i)) l.length (λi o=>o=Fk (l.take i)) (λb=>b= .inl (Jk<|Fk l))
  (λo i hi ho=>by
   have hx:=Ab hi;have hk:=a i _ hx;have hm:=Oi a i (by omega);have c:=Oi a (i+1) (by omega);have et:Fk (l.take<|i+1)=cL o l[i]:=by grind [Ag,PI]
   rw[<-ho]at hk hm;rw[et]at c
   have d:∀q:List UInt8,ln (Jk q)=(q.length:Int):=λq=>by rw[Bc,Jk,Bw]
   simp only[Ef,Do hi,Aq,hx,Aa];refine .inl ⟨cL o l[i],?_,et.symm⟩
   rcases hk with⟨k1,k2,k3,k4⟩|⟨k1,k2,k3,k4,k5⟩
   ·rw[show(l[i].Back==0)=true by simpa using k1,Ap,Bu,Dj,Ac<|by omega]
    grind [AA8,ad1,ap,Jk,cL]
   rw[show(l[i].Back==0)=false by simp;omega,Ad,d,Dj,Ac<|by omega];rw[Dj,Ac<|by omega];simp only[Aa,An,Ad];have e:seq l[i].Text (bs [])=true:=by grind [IV,Jy,DO]
   grind [aL,ad1,cL])
  (λo ho=>⟨.inl<|Jk o,by simp[CQ,Ef],by grind⟩) (s:=[]) rfl
 rw[<-h2];exact h1
theorem rX (s:ByteArray) (hs:(L s).length<=64):∃z,E9 s=some (z,true)/\FU z=some (s,true)/\1<=(L z).length:=by
 obtain⟨l,h1,h2,h3,h4⟩:=AFr s hs;have fin:∀z:ByteArray,E9 s=some (z,true)->((E9 s).bind λv3=>(cond (!v3.2) (some true) (some<|!(seq v3.1 z)):Option Bool).bind λj2=>cond j2 (some (bs [],false))<|some (s,true))=some (s,true):=by grind [seq]
 rcases h4 with h4|h4
 ·refine⟨_,h4,?_,by rw[DO];simp⟩;have hf:=fin _ h4;generalize hz:bs (122::l.flatMap OA)=z at h4 hf;have hL:L z=122::l.flatMap OA:=by rw[<-hz,DO]
  have f:(L z).length<=3000:=by
   have:∀m:List AM,(∀x∈m,∃o:List UInt8,okT o x/\o.length<=64)->(m.flatMap OA).length<=32*m.length:=by
    intro m
    induction m with
    |nil=>intro _;simp
    |cons x m ih=>
     intro hm;obtain⟨o,g,h⟩:=hm x<|by simp
     grind [xK]
   have:=this l (λx hx=>by
    obtain⟨i,hi,rfl⟩:=Ay hx;have hm:=Oi h1 i (by omega);rw[h2]at hm
    exact⟨_,h1 i _<|Ab hi,by omega⟩)
   grind
  unfold FU;have a:1<=(L z).length:=by rw[hL];simp
  rw[Bu,show(((L z).length:Int)==0)=false by grind,Ad];have b:sub z 1 ((L z).length:Int)=some (bs<|l.flatMap OA):=by
   rw[show(1:Int)=((1:Nat):Int)from rfl,FM z a<|A0 _]
   grind [Jy,Kg,DO]
  have c:sx z 0=some 122:=by
   rw[show(0:Int)=((0:Nat):Int)from rfl,EI z (i:=0) a];simp_all
  rw[b,c];simp only[Aa];rw[show((122:Int)==122)=true from rfl];have d:(L<|bs<|l.flatMap OA).length<=10000:=by rw[DO];grind
  have e:=WT (bs<|l.flatMap OA) d l 0 [] (λx hx=>by
    obtain⟨i,hi,rfl⟩:=Ay hx;have hm:=Oi h1 i (by omega);rw[h2]at hm
    exact⟨_,h1 i _<|Ab hi,by omega⟩) (by rw[DO];rfl) (by omega)<|by simp
  rw[show((0:Nat):Int)=0 from rfl,Ax]at e
  grind [tO,Jy,zY,Mo,G7]
 refine⟨_,h4,?_,by rw[DO];simp⟩;have hf:=fin _ h4;generalize hz:bs (114::L s)=z at h4 hf;have hL:L z=114::L s:=by rw[<-hz,DO]
 unfold FU;have a:1<=(L z).length:=by rw[hL];simp
 rw[Bu,show(((L z).length:Int)==0)=false by grind,Ad];have b:sub z 1 ((L z).length:Int)=some s:=by
  rw[show(1:Int)=((1:Nat):Int)from rfl,FM z a<|A0 _]
  grind [Jy,Kg]
 have c:sx z 0=some 114:=by
  rw[show(0:Int)=((0:Nat):Int)from rfl,EI z (i:=0) a];simp_all
 grind
theorem ACw (a b:List ByteArray):P3 (a++b)=P3 a++P3 b:=by unfold P3;grind
def Cd (seq tx:Int) (T:List ByteArray):List Page:=T.mapIdx λi t=>Page.mk 2 (seq+i) tx i T.length t
theorem AAv (a:List Cn) (hr:a.length<=1048576) (d:∀r∈a,Gi r=true):∃T:List ByteArray,Ah (λs:List ByteArray×Int=>Eb a s.1 s.2) ([bs []],0)=some (.inl T)/\1<=T.length/\T.length<=max 1 a.length/\P3 T=JV a/\∀t∈T,(L t).length<=90:=by
 obtain⟨b,h1,T,h2,h3⟩:=A9 (body:=λs:List ByteArray×Int=>Eb a s.1 s.2) (λ(o:List ByteArray) i=>(o,i)) a.length
  (λi T=>1<=T.length/\(T.length<=max 1 i/\(i=0->T=[bs []]))/\P3 T=JV (a.take i)/\∀t∈T,(L t).length<=90)
  (λb=>∃T:List ByteArray,b= .inl T/\1<=T.length/\T.length<=max 1 a.length/\P3 T=JV a/\∀t∈T,(L t).length<=90)
  (λT i hi hT=>by
   obtain⟨g,⟨h,q⟩,j,k⟩:=hT;have hx:=Ab hi;obtain⟨t,t1,t2⟩:=kW<|d _<|Av hi;have l:=ABm<|d _<|Av hi;rw[<-t2]at l;have et:JV (a.take<|i+1)=JV (a.take i)++L t:=by grind [Ag,JV]
   rcases GZ T with e|⟨T0,c,e⟩
   ·grind
   rw[Km]at e;subst e;have u:ln (T0++ [c])=((T0.length+1:Nat):Int):=by rw[Bc];simp
   rw[AD,CY]at g h;have m:sb (ln<|T0++ [c]) 1=(T0.length:Int):=by grind [BV]
   have n:gi (T0++ [c]) (T0.length:Int)=some c:=EU _ _;have p:=k c (by simp);rw[ACw]at j;simp only[Eb,Do hi,Aq,hx,Aa];rw[t1];rw[m,n];simp only[Aa];rw[Bu,Bu,Ch,ad1];refine .inl ?_;by_cases f:((L c).length:Int)+((L t).length:Int)>90
   ·have v:i≠0:=λe=>by grind [DO]
    grind [AY,P3]
   rw[Ai f,Ad,GL _ _<|by omega];simp only[Aa];rw[JM];refine⟨T0++ [c++t],rfl,by simp,⟨by simp;omega,by omega⟩,?_,λx w=>?_⟩
   ·grind [Ha,P3]
   grind [Ha])
  (λT hT=>⟨_,by simp[CQ,Eb],T,rfl,hT.1,hT.2.1.1,by grind,hT.2.2.2⟩) (s:=[bs []]) ⟨by simp,⟨by simp,λ_=>rfl⟩,by rfl,λt ht=>by grind [DO]⟩
 grind
theorem AAw (seq tx:Int) (a:List Cn) (hr:a.length<=1000) (c:∀r∈a,Gi r=true):∃T:List ByteArray,1<=T.length/\P3 T=JV a/\(∀t∈T,(L t).length<=90)/\T.length<=max 1 a.length/\
  ((I9 seq tx a=some (Cd seq tx T,true)/\T.length<=9/\1<=seq/\seq+T.length-1<=1000000000/\1<=tx/\tx<=1000000000)\/(I9 seq tx a=some ([],false)/\¬(T.length<=9/\1<=seq/\seq+T.length-1<=1000000000/\1<=tx/\tx<=1000000000))):=by
 obtain⟨T,h1,h2,h2',h3,h4⟩:=AAv a (by omega) c;refine⟨T,h2,h3,h4,h2',?_⟩;unfold I9;rw[h1];simp only[Aa,DM];rw[Bc];by_cases h9:(T.length:Int)>9
 ·grind
 rw[Ai h9];rw[BV,Ch,Dj,Dj];simp only[Aa];by_cases hs:1<=seq/\seq<=1000000000-(T.length:Int)+1
 ·rw[Ac hs];by_cases ht:1<=tx/\tx<=1000000000
  ·left;obtain⟨b,q1,q2⟩:=A9 (body:=λs:List Page×Int=>FV seq tx T s.1 s.2) (λ(o:List Page) i=>(o,i)) T.length (λi o=>o=(Cd seq tx T).take i) (λb=>b=Cd seq tx T)
    (λo i hi ho=>by grind [Aq,Ch,Bc,AY,D5,FV,Cd])
    (λo ho=>⟨o,by simp[CQ,FV],by grind [AP,Cd]⟩) (s:=[]) rfl
   grind
  grind
 grind
def Steps:Flash->List AG->Flash->Prop
 |f,[],g=>g=f
 |f,s::ss,g=>Qt f s/\Steps (MY f s) ss g
theorem H3:∀(f:Flash) (a b:List AG) (g:Flash),Steps f (a++b) g↔∃m,Steps f a m/\Steps m b g
 |f,[],b,g=>⟨λh=>⟨f,rfl,h⟩,λ⟨m,h1,h2⟩=>by rw[h1]at h2;exact h2⟩
 |f,s::a,b,g=>by
  rw[Ct];simp only[Steps,H3]
  grind
theorem Ue:∀{f:Flash} {a:List AG} {g:Flash},Bg f->Steps f a g->Bg g
 |f,[],g,hf,h=>by rw[h];exact hf
 |f,s::a,g,hf,h=>Ue (wK hf h.1) h.2
theorem vM {a:List AG} {m:Flash} {s:AG} (h:Steps f a m) (hs:Qt m s):Steps f (a++ [s]) (MY m s):=(H3 f a [s] _).2 ⟨m,h,hs,rfl⟩
theorem M1 {a:List AG} (hf:Bg f) (h:Steps f a g) (ha:a.length<=1048576):IB f a=some (g,(a.length:Int)):=by
 unfold IB;rw[Cu f hf.cap];simp only[Aa];obtain⟨b,h1,h2⟩:=A9 (body:=λs:Int×List Block=>DB a s.1 s.2) (λ(o:List Block) i=>(i,o)) a.length (λi o=>Steps f (a.take i) (Flash.mk o)/\Steps (Flash.mk o) (a.drop i) g) (λb=>b= .inl g.Blocks)
  (λo i hi hs=>by
   have hx:=Ab hi;obtain⟨s1,s2⟩:=hs;rw[AB hi]at s2;simp only[DB,Do hi,Aq,hx,Aa];have hP:=Ue hf s1
   rcases Q9 hP a[i]with⟨k1,k2⟩|⟨k1,k2⟩
   ·rw[k2];rw[ad1];refine .inl ⟨(MY (Flash.mk o) a[i]).Blocks,rfl,?_,s2.2⟩;rw[Ag hi];exact vM s1 k1
   exact absurd s2.1 k1)
  (λo hs=>⟨.inl o,by simp[CQ,DB],by
   have:=hs.2;rw[List.drop_length]at this
   rw[show g=Flash.mk o from this]⟩) (s:=f.Blocks) ⟨rfl,h⟩
 rw[h1,h2];rfl
def I4:Flash->List AG->List Page->Flash->Prop
 |f,[],[],g=>g=f
 |f,s::ss,p::ps,g=>s.Kind=1/\pY f s.Block s.Leaf s.Text/\Fi s.Text=some (p,true)/\I4 (MY f s) ss ps g
 |_,_,_,_=>False
theorem EV:∀{f:Flash} {ss:List AG} {ps:List Page} {g:Flash},I4 f ss ps g->Steps f ss g/\ss.length=ps.length
 |f,[],[],g,h=>⟨h,rfl⟩
 |f,s::ss,p::ps,g,h=>⟨⟨.inl ⟨h.1,h.2.1⟩,(EV h.2.2.2).1⟩,by rw[AX,AX,(EV h.2.2.2).2]⟩
 |f,[],p::ps,g,h=>h.elim
 |f,s::ss,[],g,h=>h.elim
theorem dN:∀{f:Flash} {ss:List AG} {ps:List Page} {g:Flash} {b l:Int} {t:ByteArray} {p:Page},I4 f ss ps g->pY g b l t->Fi t=some (p,true)->I4 f (ss++ [AG.mk 1 b l t]) (ps++ [p]) (Va g b l (Leaf.mk 1 t))
 |f,[],[],g,b,l,t,p,h,h1,h2=>by
  have:g=f:=h;subst this;exact⟨rfl,h1,h2,by unfold MY;rfl⟩
 |f,s::ss,q::ps,g,b,l,t,p,h,h1,h2=>⟨h.1,h.2.1,h.2.2.1,dN h.2.2.2 h1 h2⟩
 |f,[],q::ps,g,b,l,t,p,h,h1,h2=>h.elim
 |f,s::ss,[],g,b,l,t,p,h,h1,h2=>h.elim
def Cp (ss:List AG) (ps:List Page):List Al:=List.zipWith (λs p=>Al.mk s.Block s.Leaf p) ss ps
def Hl:Int->List Page->Prop
 |_,[]=>True
 |n,p::ps=>n<=p.Seq/\Hl (p.Seq+1) ps
theorem dO:∀{f:Flash} {ss:List AG} {ps:List Page} {g:Flash} {r:List Al} {n:Int},Bg f->SR (K7 0 f.Blocks) r->I4 f ss ps g->(∀y∈r,y.Page.Seq<n)->Hl n ps->SR (K7 0 g.Blocks) (r++Cp ss ps)
 |f,[],[],g,r,n,hf,a,h,hn,ha=>by
  have:g=f:=h;simp_all [Cp]
 |f,s::ss,p::ps,g,r,n,hf,a,h,hn,ha=>by
  obtain⟨h1,h2,h3,h4⟩:=h;obtain⟨k1,_,A,B,k2,k3,_⟩:=QJ hf h2;have c:MY f s=Va f s.Block s.Leaf (Leaf.mk 1 s.Text):=by grind [MY]
  rw[c]at h4;have b:SR (K7 0 (Va f s.Block s.Leaf<|Leaf.mk 1 s.Text).Blocks) (r++ [Al.mk s.Block s.Leaf p]):=by
   rw[k3 p<|pM h3]
   refine SR.add (by grind) λx hx=>?_
   have:=hn x hx;have:=ha.1;show x.Page.Seq<p.Seq;omega
  have:=dO k1 b h4 (n:=p.Seq+1) (λy hy=>by
   rw[A6,Ck]at hy
   rcases hy with hy|rfl
   ·have:=hn y hy;have:=ha.1;omega
   grind) ha.2
  rw[BR]at this;exact this
 |f,[],q::ps,g,r,n,hf,a,h,hn,ha=>h.elim
 |f,s::ss,[],g,r,n,hf,a,h,hn,ha=>h.elim
theorem Vu:∀{f:Flash} {ss:List AG} {ps:List Page} {g:Flash} (k:Nat),I4 f ss ps g->∃m,I4 f (ss.take k) (ps.take k) m
 |f,[],[],g,k,h=>⟨f,by simp[I4]⟩
 |f,s::ss,p::ps,g,0,h=>⟨f,rfl⟩
 |f,s::ss,p::ps,g,k+1,h=>by
  obtain⟨m,hm⟩:=Vu k h.2.2.2;exact⟨m,h.1,h.2.1,h.2.2.1,hm⟩
 |f,[],q::ps,g,k,h=>h.elim
 |f,s::ss,[],g,k,h=>h.elim
theorem ABu (hg:Bg g) (h:I4 f ss ps g) (hs:ss.length<=1000) (p:Page):
  (∃s g',Dw g ss p=some (g',ss++ [s],true)/\I4 f (ss++ [s]) (ps++ [p]) g'/\Bg g'/\Jj p/\Vb g s.Block s.Leaf)\/Dw g ss p=some (g,ss,false):=by
 by_cases hp:Jj p
 ·obtain⟨t,t1,t2,t3,t4⟩:=zS hp
  rcases ZO hg ss (by omega) p t1 (λ_=>⟨t2,t3⟩)with⟨_,b,l,q1,_,q2⟩|q
  ·left;have hm:pY g b l t:=by
    obtain⟨x,a1,a2,a3,a4⟩:=q1;exact⟨x,a1,a2,a3,a4,t2,t3⟩
   exact⟨_,_,q2,dN h hm t4,(QJ hg hm).1,hp,q1⟩
  exact .inr q
 rcases ZO hg ss (by omega) p (ABy hp) (λhh=>by cases hh)with⟨hh,_⟩|q
 ·cases hh
 exact .inr q
theorem aM (hf:Bg f) (ps:List Page) (rt:Bool) (c:ps.length<=9) (a:List Page) (ss0:List AG) (g0:Flash) (ok0:Bool) (h0:ok0=true->I4 f ss0 a g0/\Bg g0/\ss0.length<=1):
  ∃ss ok,Ah (λs:List AG×Bool×Int×List Block=>BL (ps,rt) s.1 s.2.1 s.2.2.1 s.2.2.2) (ss0,ok0,0,g0.Blocks)=some (ss,ok)/\(ok=true->ok0=true/\∃g,I4 f ss (a++ps) g/\Bg g/\∀p∈ps,Jj p):=by
 obtain⟨b,h1,h2⟩:=A9 (body:=λs:List AG×Bool×Int×List Block=>BL (ps,rt) s.1 s.2.1 s.2.2.1 s.2.2.2) (λ(o:List AG×Bool×List Block) i=>(o.1,o.2.1,i,o.2.2)) ps.length
  (λi o=>o.2.1=true->ok0=true/\I4 f o.1 (a++ps.take i) (Flash.mk o.2.2)/\Bg (Flash.mk o.2.2)/\o.1.length<=i+1/\∀p∈ps.take i,Jj p)
  (λb=>b.2=true->ok0=true/\∃g,I4 f b.1 (a++ps) g/\Bg g/\∀p∈ps,Jj p)
  (λo i hi hs=>by
   obtain⟨ss,ok,bl⟩:=o;have hx:=Ab hi;simp only[BL,Fl,Ac hi,Ap,Aa]
   cases ok with
   |false=>grind
   |true=>
    obtain⟨k0,k1,k2,k3,k4⟩:=hs rfl;simp only[Ap,Aq,hx,Aa];refine .inl ?_
    rcases ABu k2 k1 (by omega) ps[i]with⟨s,g',q1,q2,q3,q4,_⟩|q
    ·rw[q1];rw[ad1];refine⟨(ss++ [s],true,g'.Blocks),rfl,λ_=>⟨k0,?_,q3,by simp;omega,λp hp=>?_⟩⟩
     ·simp_all
     grind [Ag]
    rw[q];rw[ad1]
    simp)
  (λo hs=>⟨(o.1,o.2.1),by grind [Fl,BL],λhh=>by grind⟩) (s:=(ss0,ok0,g0.Blocks)) (λhh=>by simp_all)
 grind
def C7 (d:Device) (c:Int) (a:ByteArray):List Page:=if L a=[]then []else [Page.mk 1 d.Seq c 0 1 a]
def IW (d:Device) (a:ByteArray):Int:=if L a=[]then d.Seq else d.Seq+1
theorem nN (hf:Bg d.Flash) (j:0<=d.Seq/\d.Seq<=1000000001) (b:List Cn) (h:b≠ []) (hr:b.length<=1000) (i:∀r∈b,Gi r=true) (a:ByteArray):
  CT d b a=some ([],false)\/∃steps T g c,b[b.length-1]?=some c/\CT d b a=some (steps,true)/\1<=T.length/\T.length<=9/\P3 T=JV b/\(∀t∈T,(L t).length<=90)/\
   I4 d.Flash steps (C7 d c.Chunk a++Cd (IW d a) d.Tx T) g/\Bg g/\(∀p∈C7 d c.Chunk a++Cd (IW d a) d.Tx T,Jj p)/\T.length<=max 1 b.length:=by
 have k:0<b.length:=MN.2 h;obtain⟨c,e⟩:∃c,b[b.length-1]?=some c:=⟨_,Ab<|by omega⟩;unfold CT;rw[show(ln b==0)=false by grind [Bc]];have first:∃ss0 g0 ok0,(cond (!(seq a<|bs [])) (((gi b<|sb (ln b) 1).bind λx1=>(Dw d.Flash []<|Page.mk 1 d.Seq x1.Chunk 0 1 a).bind λv1=>some (v1.2.1,v1.2.2,v1.1.Blocks):Option (List AG×Bool×List Block)).bind λj2=>some (j2.1,ad d.Seq 1,j2.2.1,j2.2.2)) (some ([],d.Seq,true,d.Flash.Blocks)):Option (List AG×Int×Bool×List Block))=some (ss0,IW d a,ok0,Flash.Blocks g0)/\(ok0=true->I4 d.Flash ss0 (C7 d c.Chunk a) g0/\Bg g0/\ss0.length<=1/\∀p∈C7 d c.Chunk a,Jj p):=by
  by_cases ht:L a=[]
  ·have:seq a (bs [])=true:=by grind [IV,Jy,DO]
   rw[this];refine⟨[],d.Flash,true,?_,λ_=>⟨?_,hf,by simp,?_⟩⟩
   ·grind [IW]
   ·unfold C7;rw[Cc ht];rfl
   unfold C7;grind
  have:seq a (bs [])=false:=by grind [IV,DO]
  rw[this];rw[Bc,BV,show(b.length:Int)-1=((b.length-1:Nat):Int) by omega,Aq,e,Aa,Ch];have e1:IW d a=d.Seq+1:=by grind [IW]
  have e2:C7 d c.Chunk a=[Page.mk 1 d.Seq c.Chunk 0 1 a]:=by grind [C7]
  rw[e1,e2]
  rcases ABu (f:=d.Flash) (ss:=[]) (ps:=[]) hf rfl (by simp) (Page.mk 1 d.Seq c.Chunk 0 1 a)with⟨s,g',q1,q2,q3,q4,_⟩|q
  ·rw[q1];refine⟨_,g',true,rfl,λ_=>⟨q2,q3,by simp,λp hp=>?_⟩⟩
   grind
  rw[q];exact⟨_,d.Flash,false,rfl,λhh=>by cases hh⟩
 obtain⟨ss0,g0,ok0,e0,h0⟩:=first
 rw[e0];simp only[Aa];obtain⟨T,t1,t2,t3,tm,t4⟩:=AAw (IW d a) d.Tx b hr i
 rcases t4 with⟨t4,t5,t6,t7,t8,t9⟩|⟨t4,_⟩
 ·rw[t4];simp only[Aa];obtain⟨ss,ok,q1,q2⟩:=aM hf (Cd (IW d a) d.Tx T) true (by unfold Cd;grind) (C7 d c.Chunk a) ss0 g0 ok0 λhh=>⟨(h0 hh).1,(h0 hh).2.1,(h0 hh).2.2.1⟩;rw[q1];simp only[Aa]
  grind
 rw[t4];obtain⟨ss,ok,q1,q2⟩:=aM hf [] false (by simp) (C7 d c.Chunk a) ss0 g0 ok0 λhh=>⟨(h0 hh).1,(h0 hh).2.1,(h0 hh).2.2.1⟩
 grind
theorem R4 (hf:Bg d.Flash) (q:0<=d.Seq/\d.Seq<=1000000001) (h:List Cn) (u:h≠ []) (hr:h.length<=1000) (v:∀r∈h,Gi r=true) (i:ByteArray):
  CT d h i=some ([],false)\/∃steps T g j,h[h.length-1]?=some j/\CT d h i=some (steps,true)/\1<=T.length/\T.length<=9/\P3 T=JV h/\(∀t∈T,(L t).length<=90)/\
   I4 d.Flash steps (C7 d j.Chunk i++Cd (IW d i) d.Tx T) g/\Bg g/\∀p∈C7 d j.Chunk i++Cd (IW d i) d.Tx T,Jj p:=
 (nN hf q h u hr v i).imp id λ⟨s,T,g,l,a,b,c,e,f,k,m,n,o,_⟩=>⟨s,T,g,l,a,b,c,e,f,k,m,n,o⟩
def KY (r:List Al) (c:Int):Option Al:=(r.filter<|IX c).getLast?
noncomputable def Z3 (t:ByteArray):Option ByteArray:=match FU t with
 |some (s,true)=>some s
 |_=>none
noncomputable def BT (r:List Al) (c:Int):Option ByteArray:=(KY r c).bind λy=>Z3 y.Page.Text
theorem Wx {c:Int}:IX c y=true↔y.Page.Kind=1/\y.Page.Tx=c:=by
 unfold IX
 grind
theorem aU {c:Int} (h:KY r c=some y):y∈r/\y.Page.Kind=1/\y.Page.Tx=c:=by
 have:=List.mem_of_getLast? h
 grind [Wx]
theorem PM (r:List Al) (y:Al) (c:Int):KY (r++ [y]) c=if y.Page.Kind=1/\y.Page.Tx=c then some y else KY r c:=by simp_all [Wx,KY];grind
theorem iO (r m:List Al) (h:∀y∈m,y.Page.Kind≠1) (c:Int):KY (r++m) c=KY r c:=by grind [Wx,KY]
theorem cA {α:Type} {y:α} (l:List α) (p:α->Bool) (h:l.getLast? =some y) (hp:p y=true):(l.filter p).getLast? =some y:=by
 rcases GZ l with e|⟨m,x,e⟩
 ·grind
 grind
theorem pW {c:Int} (p:Al->Bool) (h:KY r c=some y) (hp:p y=true):KY (r.filter p) c=some y:=by
 unfold KY at h⊢;rw[DU];have:r.filter (λa=>IX c a&&p a)=(r.filter<|IX c).filter p:=by grind [DU]
 grind [cA]
theorem aS {c:Int} {o:Option Nat} (h:RE c r r.length o):KY r c=o.bind λj=>r[j]? :=by
 cases o with
 |none=>
  unfold KY;have:r.filter (IX c)=[]:=by
   rw[BI];intro y hy;obtain⟨j,hj,rfl⟩:=Ay hy;have:=h j r[j] hj<|Ab hj;rw[this];simp
  rw[this];rfl
 |some j=>
  obtain⟨h1,⟨y,h2,h3⟩,h4⟩:=h;unfold KY;obtain⟨e1,e2⟩:=JB h2;have:(r.drop<|j+1).filter (IX c)=[]:=by
   rw[BI];intro z hz;obtain⟨k,hk,rfl⟩:=Ay hz;rw[Qk]at hk;rw[List.getElem_drop];have:=h4 (j+1+k) _ (by omega) (by omega) (Ab<|by omega);rw[this];simp
  grind
theorem tK (hr:r.length<=1048576) (c:Int):∃y ok,Ml r c=some (y,ok)/\KY r c=(if ok=true then some y else none):=by
 obtain⟨o,h1,h2⟩:=iN r hr c;have h3:=aS h2
 cases o with
 |none=>grind
 |some j=>
  obtain⟨_,⟨y,k1,_⟩,_⟩:=h2
  grind [KR]
theorem ZR (hr:Gp r) (c:Int):∃u ok,JN r c=some (u,ok)/\BT r c=(if ok=true then some u else none):=by
 obtain⟨y,ok,h1,h2⟩:=tK hr.len c;unfold JN BT;rw[h1,h2]
 cases ok with
 |false=>simp
 |true=>
  have hy:=(aU (by rw[h2];rfl)).1;obtain⟨u,ok2,k1,_,_⟩:=UC y.Page.Text (by have:=hr.text y hy;omega)
  grind [Z3]
structure J0 (r:List Al):Prop where
 pages:Gp r
 inc:r.Pairwise λx y=>x.Page.Seq<y.Page.Seq
 mu:sF r
def Dt (l:Vs) (c:Int):Prop:=0<c/\∃p∈l,c∈p.2
structure GN (r:List Al) (P:Int->Prop):Prop where
 data:∀c,P c->∃s,BT r c=some s
 dist:∀c c',P c->P c'->BT r c=BT r c'->c=c'
theorem GN.mono {Q:Int->Prop} (h:GN r P) (hq:∀c,Q c->P c):GN r Q:=⟨λc hc=>h.data c<|hq c hc,λc c' hc hc'=>h.dist c c' (hq c hc)<|hq c' hc'⟩
theorem GN.congr (h:GN r P) (he:∀c,P c->BT r' c=BT r c):GN r' P:=⟨λc hc=>by rw[he c hc];exact h.data c hc,λc c' hc hc' e=>h.dist c c' hc hc'<|by grind⟩
theorem GN.metas {m:List Al} (h:GN r P) (hm:∀y∈m,y.Page.Kind≠1):GN (r++m) P:=h.congr λc _=>by grind [iO,BT]
theorem sN (h:GN r P) (hy:¬P y.Page.Tx):GN (r++ [y]) P:=h.congr λc hc=>by grind [PM,BT]
theorem sO (h:GN r P) (hy:Z3 y.Page.Text=BT r y.Page.Tx):GN (r++ [y]) P:=h.congr λc hc=>by grind [PM,BT]
theorem AAD {s:ByteArray} (h:GN r P) (hk:y.Page.Kind=1) (hn:¬P y.Page.Tx) (ht:Z3 y.Page.Text=some s) (hs:∀c,P c->BT r c≠some s):GN (r++ [y]) (λc=>P c\/c=y.Page.Tx):=by
 have b:BT (r++ [y]) y.Page.Tx=some s:=by grind [PM,BT]
 have a:∀c,P c->BT (r++ [y]) c=BT r c:=λc hc=>by grind [PM,BT]
 refine⟨λc hc=>?_,λc c' hc hc' e=>?_⟩
 ·rcases hc with hc|rfl
  ·rw[a c hc];exact h.data c hc
  grind
 rcases hc with hc|rfl<;>rcases hc' with hc'|rfl
 ·exact h.dist c c' hc hc'<|by grind
 ·grind
 ·grind
 rfl
theorem J0.filter (h:J0 r) (p:Al->Bool):J0 (r.filter p):=by
 refine⟨⟨by have:=Ba p r;have:=h.pages.len;omega,λy hy=>h.pages.text y (AR.1 hy).1,λy hy=>h.pages.seq y (AR.1 hy).1,λy hy=>h.pages.tx y (AR.1 hy).1,λy hy=>h.pages.cnt y (AR.1 hy).1,λy hy=>h.pages.part y (AR.1 hy).1⟩,h.inc.filter _,⟨λy hy z hz=>h.mu.uniq y (AR.1 hy).1 z (AR.1 hz).1⟩⟩
theorem J0.add (h:J0 r) (hl:r.length<=1000000) (hb:Jj y.Page) (hs:D1 r<=y.Page.Seq) (hm:y.Page.Kind=2->∀z∈r,z.Page.Kind=2->z.Page.Tx=y.Page.Tx->z.Page.Part≠y.Page.Part):J0 (r++ [y]):=by
 obtain⟨b1,b2,b3,b4,b5,b6,b7⟩:=hb
 have all:∀{P:Al->Prop},(∀z∈r,P z)->P y->∀z∈r++ [y],P z:=λh1 h2 z hz=>by grind
 refine⟨⟨by simp;omega,all h.pages.text b6,all h.pages.seq b2,all h.pages.tx b3,all h.pages.cnt b4,all h.pages.part b5⟩,?_,⟨λu hu v hv k1 k2 e1 e2=>?_⟩⟩
 ·rw[Bk];refine⟨h.inc,List.pairwise_singleton _ _,λu hu v hv=>?_⟩;rw[Ck]at hv;rw[hv];have:=(NS r).1 u hu;omega
 rw[A6,Ck]at hu hv
 rcases hu with hu|rfl<;>rcases hv with hv|rfl
 ·exact h.mu.uniq u hu v hv k1 k2 e1 e2
 ·grind
 ·grind
 rfl
theorem gR (h:D1 r<=y.Page.Seq):D1 (r++ [y])=y.Page.Seq+1:=by rw[YS,Cc h]
theorem J0.metas {t:Int} (h:J0 r) (ht:∀y∈r,y.Page.Kind=2->y.Page.Tx<t):∀(m:List Al) (k:Nat),r.length+m.length<=1000000->(∀(i:Nat) y,m[i]?=some y->y.Page.Kind=2/\y.Page.Tx=t/\y.Page.Part=i/\y.Page.Seq=D1 r+i/\Jj y.Page)->k<=m.length->J0 (r++m.take k)/\D1 (r++m.take k)=D1 r+k
 |m,0,_,_,_=>by simpa using h
 |m,k+1,hl,hm,hk=>by
  obtain⟨ih1,ih2⟩:=J0.metas h ht m k hl hm (by omega);have hx:m[k]?=some m[k]:=Ab (by omega);obtain⟨k1,k2,k3,k4,k5⟩:=hm k _ hx;rw[Ag (by omega),<-BR];refine⟨J0.add ih1 (by simp;omega) k5 (by grind) λ_ z hz a b=>?_,?_⟩
  ·grind [Ay]
  grind [gR]
theorem xH (i:Int):∀(k:Int) (l:List Leaf),(XX i k l).length<=l.length
 |_,[]=>A0 _
 |k,x::l=>by
  rw[XX,AD,AX];have:=xH i (k+1) l
  grind [pg]
theorem xI:∀(i:Int) (l:List Block),(K7 i l).length<=nl l
 |_,[]=>A0 _
 |i,b::l=>by
  rw[K7,AD];have:=xI (i+1) l
  grind [xH,nl]
theorem AFn (hf:Bg f) (h:SR (K7 0 f.Blocks) r):r.length<=40:=by
 have h1:=xI 0 f.Blocks;have h2:=hf.few;have h3:=h.2.len;omega
theorem Ow:∀{ss:List AG} {ps:List Page} {i:Nat} {y:Al},(Cp ss ps)[i]?=some y->ps[i]?=some y.Page
 |[],_,i,y,h=>by simp[Cp]at h
 |s::ss,[],i,y,h=>by simp[Cp]at h
 |s::ss,p::ps,0,y,h=>by grind [Cp]
 |s::ss,p::ps,i+1,y,h=>by grind [Cp]
theorem cE (h:ss.length=ps.length):(Cp ss ps).length=ps.length:=by unfold Cp;grind
theorem Yi (ss:List AG) (ps:List Page) (k:Nat):Cp (ss.take k) (ps.take k)=(Cp ss ps).take k:=by unfold Cp;grind
theorem rJ:∀(T:List ByteArray),(∀t∈T,(L t).length<=90)->(P3 T).length<=90*T.length
 |[],_=>by simp[P3]
 |t::T,h=>by
  have:=rJ T λx hx=>h x<|by simp[hx]
  grind [P3]
theorem iQ {r1 m:List Al} (h:J0 r1) (hl:r1.length<=1000) {a:List Cn} (c:1<=T.length) (d:T.length<=9) (e:∀t∈T,(L t).length<=90) (f:P3 T=JV a) (g:∀r∈a,Gi r=true) (hm:∀(i:Nat) y,m[i]?=some y->(Cd (D1 r1) (ED r1) T)[i]?=some y.Page) (j:m.length=T.length) (l:∀p∈Cd (D1 r1) (ED r1) T,Jj p) (k:Nat) (hk:k<=T.length):
  J0 (r1++m.take k)/\(∀y∈m.take k,y.Page.Kind≠1)/\(k<T.length->AT (r1++m.take k)=AT r1)/\(k=T.length->∃q,AT (r1++m.take k)=AT r1++ [Tx.mk (ED r1) q a]):=by
 have n:∀(i:Nat) y,m[i]?=some y->∃t,T[i]?=some t/\y.Page=Page.mk 2 (D1 r1+i) (ED r1) i T.length t:=by grind [Cd]
 have b:=kE r1;obtain⟨c1,_⟩:=J0.metas h b.1 m k (by omega) (λi y hy=>by grind) (by omega);have hN:jZ (m.take k) (ED r1) T.length T:=by
  refine⟨by grind,⟨c,d⟩,rfl,λi y hy=>?_⟩
  grind
 obtain⟨g1,g2⟩:=uM r1 (λy hy=>(h.pages.tx y hy).1) b.1 b.2.1 hN;refine⟨c1,λy hy=>by rw[(hN.all hy).1];omega,λhh=>g1 (by grind),λhh=>g2 (by grind) a ?_⟩
 grind [tL,rJ]
structure IY (d:Device) (r:List Al):Prop where
 dev:GM d r
 core:J0 r
 data:GN r (Dt (AF d.Store))
theorem IY.few (h:IY d r):r.length<=40:=AFn h.dev.fl h.dev.sr
theorem MJ (hg:Bg g) (a:SR (K7 0 g.Blocks) r):∃d,Cr g=some (d,true)/\GM d r/\d.Flash=g:=by
 obtain⟨d,r',h1,h2,h3⟩:=Wa hg;have:r'=r:=by
  have h4:=h2.sr;rw[h3]at h4;exact h4.uniq a
 grind
theorem U8 (seq tx:Int) (T:List ByteArray):Hl seq (Cd seq tx T):=by
 have a:∀(l:List ByteArray) (i:Nat) (n:Int),n<=seq+i->Hl n (l.mapIdx λj t=>Page.mk 2 (seq+(i+j:Nat)) tx (i+j:Nat) T.length t):=by
  intro l
  induction l with
  |nil=>intro i n _;trivial
  |cons x l ih=>
   intro i n hn;rw[List.mapIdx_cons];refine⟨by simpa using hn,?_⟩;have:=ih (i+1) (seq+(i:Int)+1)<|by omega
   grind
 have:=a T 0 seq<|by omega
 grind [Cd]
theorem uX (c:Int) (a:ByteArray) (tx:Int) (T:List ByteArray):Hl d.Seq (C7 d c a++Cd (IW d a) tx T):=by
 unfold C7 IW;by_cases e:L a=[]
 ·grind [U8]
 rw[B9 e,B9 e];exact⟨La _,U8 _ _ _⟩
theorem M5 (ss:List AG) (ps:List Page) (k:Nat):∀y∈(Cp ss ps).take k,y.Page∈ps:=by
 intro y hy;obtain⟨i,hi,rfl⟩:=Ay<|List.mem_of_mem_take hy;exact Ao<|Ow<|Ab hi
def FK (f:Flash) (n:Int):Prop:=∀b∈f.Blocks,b.Wear<=n
theorem j9 {l:List Block} {n:Int} {x:Block} (h:∀y∈l,y.Wear<=n) (hx:x.Wear<=n):∀y∈si l b x,y.Wear<=n:=by grind [si]
theorem gL {s:AG} {n m:Int} (h:FK f n) (hm:n<=m) (hs:s.Kind=1\/n+1<=m):FK (MY f s) m:=by
 have h0:∀y∈f.Blocks,y.Wear<=m:=λy hy=>by have:=h y hy;omega
 unfold MY Va XF FK;by_cases e:s.Kind=1
 ·rw[Cc e]
  cases hg:gi f.Blocks s.Block with
  |none=>exact h0
  |some x=>exact j9 h0<|h0 x<|Ao (Cm hg).2
 rw[B9 e]
 cases hg:gi f.Blocks s.Block with
 |none=>exact h0
 |some x=>exact j9 h0 (by have:=h x<|Ao (Cm hg).2;grind)
theorem Vt {n:Int}:∀{f:Flash} {ss:List AG} {ps:List Page} {g:Flash},I4 f ss ps g->FK f n->FK g n
 |f,[],[],g,h,hw=>by rw[show g=f from h];exact hw
 |f,s::ss,p::ps,g,h,hw=>Vt h.2.2.2 (gL hw (La _) (.inl h.1))
 |f,[],q::ps,g,h,_=>h.elim
 |f,s::ss,[],g,h,_=>h.elim
theorem R6:∀{f:Flash} {ss:List AG} {ps:List Page} {g:Flash},I4 f ss ps g->∀s∈ss,s.Kind=1
 |f,[],[],g,h,s,hs=>by cases hs
 |f,s::ss,p::ps,g,h,x,hs=>by
  rcases Gx.1 hs with rfl|hs
  ·exact h.1
  exact R6 h.2.2.2 x hs
 |f,[],q::ps,g,h,_,_=>h.elim
 |f,s::ss,[],g,h,_,_=>h.elim
def Zw (f g:Flash):Prop:=∀n,FK f n->FK g n
theorem WQ (h:IY d r) {l:List Cn} (x:∀r∈l,Gi r=true) {a:ByteArray} {b:Cn} {steps:List AG} (z:1<=T.length) (h0:T.length<=9) (h1:P3 T=JV l) (v:∀t∈T,(L t).length<=90) (hp:I4 d.Flash steps (C7 d b.Chunk a++Cd (IW d a) d.Tx T) g) (o:∀p∈C7 d b.Chunk a++Cd (IW d a) d.Tx T,Jj p) (a6:L a≠ []->¬Dt (AF d.Store) b.Chunk) (k:Nat) (hk:k<=steps.length):
  ∃m d' r',Steps d.Flash (steps.take k) m/\Bg m/\Cr m=some (d',true)/\GM d' r'/\d'.Flash=m/\r'=r++(Cp steps (C7 d b.Chunk a++Cd (IW d a) d.Tx T)).take k/\Zw d.Flash m/\J0 r'/\GN r' (Dt (AF d.Store))/\
   (k<steps.length->AT r'=AT r)/\(k=steps.length->(∃q,AT r'=AT r++ [Tx.mk d.Tx q l])/\∀s,Z3 a=some s->L a≠ []->(∀c,Dt (AF d.Store) c->BT r c≠some s)->GN r' (λc=>Dt (AF d.Store) c\/c=b.Chunk)):=by
 obtain⟨a7,f⟩:=EV hp;obtain⟨m,hm⟩:=Vu k hp;obtain⟨h2,_⟩:=EV hm;have h3:=Ue h.dev.fl h2;have a5:=h.few
 have h4:∀y∈r,y.Page.Seq<d.Seq:=λy hy=>by rw[h.dev.seq];simp_all [NS]
 have h5:=uX (d:=d) b.Chunk a d.Tx T;have ascT:∀(ps:List Page) (n:Int) (k:Nat),Hl n ps->Hl n (ps.take k):=by
  intro ps
  induction ps with
  |nil=>grind
  |cons p ps ih=>
   intro n k ha
   cases k with
   |zero=>trivial
   |succ k=>exact⟨ha.1,ih _ k ha.2⟩
 have h6:=dO h.dev.fl h.dev.sr hm h4<|ascT _ _ k h5;rw[Yi]at h6;obtain⟨d',u1,u2,u3⟩:=MJ h3 h6;refine⟨m,d',r++(Cp steps<|C7 d b.Chunk a++Cd (IW d a) d.Tx T).take k,h2,h3,u1,u2,u3,rfl,λ_=>Vt hm,?_⟩;have w:(Cd (IW d a) d.Tx T).length=T.length:=by unfold Cd;grind
 have u:=cE f;by_cases e:L a=[]
 ·
  have e1:C7 d b.Chunk a=[]:=by grind [C7]
  have e2:IW d a=d.Seq:=by grind [IW]
  rw[e1,e2,Ax]at u f o⊢;rw[e2]at w;rw[h.dev.seq,h.dev.tx]at u f o w⊢;obtain⟨a1,a2,a3,a4⟩:=iQ h.core (by omega) z h0 v h1 x (m:=Cp steps<|Cd (D1 r) (ED r) T) (λi y hy=>Ow hy) (by omega) o k (by omega);exact⟨a1,h.data.metas a2,λhh=>a3 (by omega),λhh=>⟨a4 (by omega),λs _ h7=>absurd e h7⟩⟩
 have e1:C7 d b.Chunk a=[Page.mk 1 d.Seq b.Chunk 0 1 a]:=by grind [C7]
 have e2:IW d a=d.Seq+1:=by grind [IW]
 rw[e1,e2]at u f o⊢;rw[e2]at w;rw[Kl]at u f o⊢;rw[AX]at f u
 match hsteps:steps,f with
 |[],f=>simp at f
 |s0::ss,f=>
  have ef:Cp (s0::ss) (Page.mk 1 d.Seq b.Chunk 0 1 a::Cd (d.Seq+1) d.Tx T)=Al.mk s0.Block s0.Leaf (Page.mk 1 d.Seq b.Chunk 0 1 a)::Cp ss (Cd (d.Seq+1) d.Tx T):=rfl;rw[ef]
  cases k with
  |zero=>
   rw[List.take_zero,AU];exact⟨h.core,h.data,λ_=>rfl,λhh=>by simp at hh⟩
  |succ k=>
   rw[List.take_succ_cons];generalize h8:Al.mk s0.Block s0.Leaf (Page.mk 1 d.Seq b.Chunk 0 1 a)=y0;have j:y0.Page=Page.mk 1 d.Seq b.Chunk 0 1 a:=by rw[<-h8]
   have c1:J0 (r++ [y0]):=J0.add h.core (by omega) (by grind) (by rw[j,h.dev.seq];exact La _) (λhh=>by grind);have g1:AT (r++ [y0])=AT r:=Yh r (by rw[j];simp);have s1:D1 (r++ [y0])=d.Seq+1:=by rw[gR (by rw[j,h.dev.seq];exact La _),j]
   have t1:ED (r++ [y0])=d.Tx:=by rw[YQ,B9 (by rw[j];simp),h.dev.tx]
   have h9:(Cp ss<|Cd (d.Seq+1) d.Tx T).length=T.length:=by grind
   rw[List.append_cons];obtain⟨a1,a2,a3,a4⟩:=iQ c1 (by simp;omega) z h0 v h1 x (m:=Cp ss<|Cd (d.Seq+1) d.Tx T) (by grind [Ow]) h9 (by grind) k (by omega);have dz:GN (r++ [y0]) (Dt<|AF d.Store):=sN h.data (by grind);rw[g1,t1]at a4;rw[g1]at a3;have a8:ss.length=T.length:=by simp at f;omega
   refine⟨a1,dz.metas a2,λhh=>a3 (by simp at hh;omega),λhh=>⟨a4 (by simp at hh;omega),λs hs _ a0=>?_⟩⟩;have:=AAD h.data (y:=y0) (s:=s) (by rw[j]) (by grind) (by grind) a0;rw[j]at this;exact this.metas a2
theorem nE (h:Cq s):MT s.Arena:=by unfold MT;have:=h.few;omega
theorem ABJ (h:Cq s) (x:Int):x∈GP s s.Vols.length↔∃p∈AF s,x∈p.2:=by
 unfold GP AF;simp only[List.mem_flatten,A8]
 have a:∀v∈s.Vols,(H9 s.Arena v.Root).getD []=Et s.Arena.Knots v.Root:=λv hv=>by
  rw[Oe _ (by have:=h.few;omega) h.ar<|h.root _<|A8.2 ⟨v,hv,rfl⟩];rfl
 grind
theorem Gg (h:Cq s):∃l,EF s=some l/\asc l/\(∀x,x∈l↔Dt (AF s) x)/\l.length<=16777216:=by
 have:=h.len;obtain⟨l,h1,h2,h3⟩:=XT s (by omega)<|nE h;refine⟨l,h1,h2.1,λx=>?_,h3⟩;rw[h2.2 x,ABJ h]
 grind [Dt]
theorem Zb {c:Int} (h:Cq s) (hc:Dt (AF s) c):0<c/\c<s.Next:=by
 obtain⟨h0,p,hp,hx⟩:=hc;unfold AF at hp;obtain⟨v,hv,rfl⟩:=A8.1 hp;exact⟨h0,h.lt _ (A8.2 ⟨v,hv,rfl⟩) c hx⟩
def Cv (r:List Al) (live:List Int) (a:Int):List Bool:=live.foldl (e8 r)<|r.map<|Dz a
theorem JW (r:List Al) (live:List Int) (a:Int):(Cv r live a).length=r.length:=by unfold Cv;rw[cG,Bw]
theorem PN (r:List Al) (live:List Int) (a:Int) (hy:r[j]?=some y):(Cv r live a)[j]?=some (Dz a y||live.any (λc=>RM c r r.length==some j)):=by grind [aW,Cv]
theorem AC5 {c:Int} (h:RM c r r.length=some j):KY r c=r[j]? :=by
 rw[aS<|PB c r r.length<|A0 _,h];rfl
theorem ADB {c:Int} (h:KY r c=some y):∃j,RM c r r.length=some j/\r[j]?=some y:=by
 have:=aS<|PB c r r.length<|A0 _;rw[h]at this
 cases ht:RM c r r.length with
 |none=>grind
 |some j=>grind
theorem yU {p:Nat->Bool} (h:cn n p=0):∀j,j<n->p j=false:=by grind [BI,cn]
theorem ADr {live:List Int} {a b:Int} (h:cn r.length (λj=>(Cv r live a)[j]?.getD false&&bk r b j)=0):∀y∈r,y.Block=b->(y.Page.Kind=2->y.Page.Tx<a)/\∀c∈live,KY r c≠some y:=by
 intro y hy hb;obtain⟨j,hj,rfl⟩:=Ay hy;have hx:=Ab hj;have h1:=yU h j hj;rw[PN r live a hx]at h1;have h2:bk r b j=true:=by unfold bk;grind
 rw[h2,Bool.and_true,Dy,Bool.or_eq_false_iff]at h1;refine⟨λhk=>?_,λc hc hn=>?_⟩
 ·grind [Dz]
 
 obtain⟨i,i1,i2⟩:=ADB hn
 grind [yU,PN,bk]
theorem aE (h:GM d r):∃l,IC d=some l/\l.length<=10/\∀b∈l,∃x,gi d.Flash.Blocks b=some x/\x.Bad=false/\∀y∈r,y.Block=b->(y.Page.Kind=2->y.Page.Tx<d.Base)/\∀c,Dt (AF d.Store) c->KY r c≠some y:=by
 obtain⟨live,l1,l2,l3,l4⟩:=Gg h.st;have hn:=h.fl.n;unfold IC;rw[h.scan.s,l1];simp only[Aa];rw[Nq r live d.Base h.scan.len l4];have e:live.foldl (e8 r) (r.map<|Dz d.Base)=Cv r live d.Base:=rfl;rw[e];obtain⟨b,q1,q2⟩:=A9 (body:=λs:List Int×Int=>DI d r (Cv r live d.Base) s.1 s.2) (λ(o:List Int) i=>(o,i)) d.Flash.Blocks.length
  (λi o=>o.length<=i/\∀b∈o,∃x,gi d.Flash.Blocks b=some x/\x.Bad=false/\∀y∈r,y.Block=b->(y.Page.Kind=2->y.Page.Tx<d.Base)/\∀c,Dt (AF d.Store) c->KY r c≠some y)
  (λo=>o.length<=10/\∀b∈o,∃x,gi d.Flash.Blocks b=some x/\x.Bad=false/\∀y∈r,y.Block=b->(y.Page.Kind=2->y.Page.Tx<d.Base)/\∀c,Dt (AF d.Store) c->KY r c≠some y)
  (λo i hi ho=>by
   have hx:=Ab hi;have hP:=h.fl.blk _<|Av hi;obtain⟨nbl,_,bl⟩:=rN d.Flash.Blocks[i] (by rw[hP.four];omega);simp only[DI,Do hi,Aq,hx,Aa];rw[bl,aO r _ (i:Int) h.scan.len<|JW _ _ _,ad1];simp only[Aa];refine .inl ?_
   cases a:d.Flash.Blocks[i].Bad with
   |true=>grind
   |false=>
    simp only[CC,Ap]
    cases g:(!(!decide (nbl<ln d.Flash.Blocks[i].Leaves)))with
    |false=>grind
    |true=>
     cases hz:((((cn r.length (λj=>(Cv r live d.Base)[j]?.getD false&&bk r (i:Int) j):Nat)):Int)==0)with
     |false=>grind
     |true=>
      rw[AY (by simp;omega)];refine⟨_,rfl,by simp;omega,λb hb=>?_⟩;rw[A6,Ck]at hb
      rcases hb with hb|rfl
      ·exact ho.2 b hb
      refine⟨_,by grind [Aq],a,λy hy f=>?_⟩;have hz':cn r.length (λj=>(Cv r live d.Base)[j]?.getD false&&bk r (i:Int) j)=0:=by grind
      obtain⟨a1,a2⟩:=ADr hz' y hy f
      grind)
  (λo ho=>⟨o,by simp[CQ,DI],by omega,ho.2⟩) (s:=[]) ⟨by simp,λb hb=>by cases hb⟩
 grind
theorem HO (h:GM d r) (h':GM d' r') (e:C9 (AT r')=C9 (AT r)):AF d'.Store=AF d.Store/\d'.Store.Next=d.Store.Next/\d'.Base=d.Base:=by
 have h1:=h'.ab;rw[e,<-h.ab]at h1
 injection h1 with h1 h2
 exact⟨h1,h2,by rw[h'.base,h.base,e]⟩
theorem AC0 (h:IY d r) (hb:∀y∈r,y.Block=b->(y.Page.Kind=2->y.Page.Tx<d.Base)/\∀c,Dt (AF d.Store) c->KY r c≠some y) (hg:Bg g) (hp:K7 0 g.Blocks=(K7 0 d.Flash.Blocks).filter λy=>y.Block !=b):
  ∃d',Cr g=some (d',true)/\d'.Flash=g/\IY d' (r.filter λy=>y.Block !=b)/\AF d'.Store=AF d.Store/\d'.Store.Next=d.Store.Next/\d'.Base=d.Base/\∀c,Dt (AF d.Store) c->BT (r.filter λy=>y.Block !=b) c=BT r c:=by
 have a:SR (K7 0 g.Blocks) (r.filter λy=>y.Block !=b):=by rw[hp];exact h.dev.sr.filter _
 obtain⟨d',u1,u2,u3⟩:=MJ hg a
 have hs:=kG r h.core.pages h.core.mu (λy=>y.Block !=b) (λy hy hk ht=>by
  have:y.Block≠b:=λe=>by
   have:=(hb y hy e).1 hk;rw[h.dev.base]at this;omega
  simpa using this)
 obtain⟨e1,e2,e3⟩:=HO h.dev u2 hs
 have ht:∀c,Dt (AF d.Store) c->BT (r.filter λy=>y.Block !=b) c=BT r c:=λc hc=>by grind [pW,BT,KY]
 refine⟨d',u1,u3,⟨u2,h.core.filter _,?_⟩,e1,e2,e3,ht⟩;rw[e1];exact h.data.congr ht
def Hf (id:Int):Nat->List Int->List Cn
 |_,[]=>[]
 |k,x::row=>(if x>0 then [Cn.mk 4 id k x]else [])++Hf id (k+1) row
def Qq (p:Int×List Int):List Cn:=Cn.mk 2 p.1 0 0::Hf p.1 0 p.2
def Nc (l:Vs) (nx:Int):List Cn:=Cn.mk 1 0 nx 0::l.flatMap Qq
theorem QC (id x:Int):∀(k:Nat) (a:List Int),Hf id k (a++ [x])=Hf id k a++(if x>0 then [Cn.mk 4 id (k+a.length:Nat) x]else [])
 |k,[]=>by simp[Hf]
 |k,y::a=>by
  rw[Ct,Hf,QC id x (k+1) a,Hf,BR,AX,show k+1+a.length=k+(a.length+1) by omega]
theorem XU (id:Int):∀(k:Nat) (a:List Int),(Hf id k a).length<=a.length
 |_,[]=>A0 _
 |k,x::a=>by
  rw[Hf,AD,AX];have:=XU id (k+1) a
  grind
theorem lI (K:Ks) (r:Int):(Et K r).length=16:=by unfold Et;simp
theorem qY:∀(l:Vs),(∀p∈l,p.2.length=16)->(l.flatMap Qq).length<=17*l.length
 |[],_=>A0 _
 |p::l,h=>by
  have:=qY l λq hq=>h q<|by simp[hq]
  grind [XU,Qq]
theorem We (h:Cq s):L4 s=some (Nc (AF s) s.Next):=by
 have hl:=h.len;unfold L4;obtain⟨b,h1,h2⟩:=A9 (body:=λq:List Cn×Int=>Ek s q.1 q.2) (λ(o:List Cn) i=>(o,i)) s.Vols.length (λi o=>o=Nc ((AF s).take i) s.Next/\o.length<=1+17*i) (λo=>o=Nc (AF s) s.Next)
  (λo i hi ho=>by
   have hx:=Ab hi;have hr:=h.root _<|A8.2 ⟨s.Vols[i],Av hi,rfl⟩;have et:(AF s).take (i+1)=(AF s).take i++ [(s.Vols[i].Id,Et s.Arena.Knots s.Vols[i].Root)]:=by grind [D5,AF]
   simp only[Ek,Do hi,Aq,hx,Aa];rw[AY (by simp;omega),Aa,Oe _ (by have:=h.few;omega) h.ar hr];simp only[Aa];obtain⟨u,u1,u2,u3⟩:=A9 (body:=λq:List Cn×Int=>ET s (i:Int) (Et s.Arena.Knots s.Vols[i].Root) q.1 q.2) (λ(l:List Cn) k=>(l,k)) (Et s.Arena.Knots s.Vols[i].Root).length
    (λk u=>u=o++ [Cn.mk 2 s.Vols[i].Id 0 0]++Hf s.Vols[i].Id 0 ((Et s.Arena.Knots s.Vols[i].Root).take k)/\u.length<=o.length+1+k) (λu=>u=o++ [Cn.mk 2 s.Vols[i].Id 0 0]++Hf s.Vols[i].Id 0 (Et s.Arena.Knots s.Vols[i].Root)/\u.length<=o.length+17)
    (λu k hk hu=>by
     obtain⟨c,d⟩:=hu;have a:=Ab hk;have f:=lI s.Arena.Knots s.Vols[i].Root;have etk:=Ag hk;simp only[ET,Do hk,Aq,a,hx,Aa];rw[ad1];refine .inl ?_;by_cases e:(Et s.Arena.Knots s.Vols[i].Root)[k]>0
     ·rw[Ac e,Ap,AY (by simp;omega)]
      grind [QC]
     grind [QC])
    (λu hu=>⟨u,by rfl,by grind,by grind [lI]⟩) (s:=o++ [Cn.mk 2 s.Vols[i].Id 0 0]) ⟨by simp[Hf],by simp⟩
   grind [ad1,Nc,Qq])
  (λo ho=>⟨o,by simp[CQ,Ek],by grind [KT]⟩) (s:=[Cn.mk 1 0 s.Next 0]) ⟨rfl,by simp⟩
 grind
structure VsP (l:Vs) (nx:Int):Prop where
 len:l.length<=3
 nxt:1<=nx/\nx<=1000000000
 ids:∀p∈l,1<=p.1/\p.1<=9
 asc:l.Pairwise λp q=>p.1<q.1
 row:∀p∈l,p.2.length=16
 num:∀p∈l,∀x∈p.2,0<=x/\x<nx
theorem rI {r:Int} (hK:C5 K=true) (hr:Dc K r=true):∀x∈Et K r,0<=x:=by grind [BN,FZ,AB2,Et,RJ]
theorem Cq.vs (h:Cq s):VsP (AF s) s.Next:=by
 have mem:∀p∈AF s,∃v∈s.Vols,p=(v.Id,Et s.Arena.Knots v.Root):=λp hp=>by
  obtain⟨v,hv,rfl⟩:=A8.1 hp
  grind
 refine⟨by rw[KT];exact h.len,h.nx,λp hp=>?_,?_,λp hp=>?_,λp hp x hx=>?_⟩
 ·obtain⟨v,hv,rfl⟩:=mem p hp;exact h.ids v hv
 ·have:=h.asc;unfold AF
  grind
 ·grind [lI]
 obtain⟨v,hv,rfl⟩:=mem p hp;have hm:v.Root∈Bq s:=A8.2 ⟨v,hv,rfl⟩;exact⟨rI h.ar (h.root _ hm) x hx,h.lt _ hm x hx⟩
theorem ABn {id k x:Int} (h1:1<=id/\id<=9) (h2:0<=k/\k<16) (h3:1<=x/\x<=1000000000):Gi (Cn.mk 4 id k x)=true:=by grind [Gi]
theorem AEZ {id a:Int} (h1:1<=id/\id<=9) (h2:0<=a/\a<=9):Gi (Cn.mk 2 id a 0)=true:=by grind [Gi]
theorem zI {P:Vs} {id:Int} {a:List Int} (h:∀p∈P,p.1<id) (k:Nat) (x:Int):eA (P++ [(id,a)]) id k x=P++ [(id,a.set k x)]:=by
 unfold eA;rw[JI];congr 1
 ·conv=>rhs;rw[<-Vy P]
  apply D4
  grind
 simp
theorem pK {P:Vs} {id nx:Int} (hP:∀p∈P,p.1<id) (a:1<=id/\id<=9) (b:nx<=1000000000):∀(todo done:List Int),done.length+todo.length=16->(∀x∈todo,0<=x/\x<nx)->CK (P++ [(id,done++List.replicate todo.length 0)]) nx (Hf id done.length todo)=some (P++ [(id,done++todo)],nx)
 |[],done,hl,hx=>by rfl
 |x::todo,done,hl,hx=>by
  have h1:=hx x (by simp);rw[AX]at hl;have ih:=pK hP a b todo (done++ [x]) (by simp;omega) (λy hy=>hx y<|by simp[hy]);rw[Hf];have c:(done++List.replicate (todo.length+1) 0).set done.length x=done++ [x]++List.replicate todo.length 0:=by grind
  by_cases e:x>0
  ·rw[Cc e,Kl,GJ];have d:CJ (P++ [(id,done++List.replicate (x::todo).length 0)]) nx (Cn.mk 4 id done.length x)=some (P++ [(id,done++ [x]++List.replicate todo.length 0)],nx):=by
    unfold CJ;rw[ABn a (by omega)<|by omega]
    grind [zI,Cf,IQ]
   grind
  grind
theorem AAg {P:Vs} {id:Int} {a:List Int} (h:∀p∈P,p.1<id):bG P id a=P++ [(id,a)]:=by grind [I6,BI,bG]
theorem gB (a:nx<=1000000000):∀(l P:Vs),(P++l).length<=3->(P++l).Pairwise (λp q=>p.1<q.1)->(∀p∈l,(1<=p.1/\p.1<=9)/\p.2.length=16/\∀x∈p.2,0<=x/\x<nx)->CK P nx (l.flatMap Qq)=some (P++l,nx)
 |[],P,_,_,_=>by simp[CK]
 |p::l,P,e,f,hall=>by
  obtain⟨h1,h2,h3⟩:=hall p<|by simp
  have c:∀q∈P,q.1<p.1:=λq hq=>by grind
  rw[List.flatMap_cons,Md];unfold Qq;rw[GJ];have d:CJ P nx (Cn.mk 2 p.1 0 0)=some (P++ [(p.1,NJ)],nx):=by grind [AEZ,AAg,CJ,IQ]
  rw[d];simp only[Aa];have hz:NJ=[]++List.replicate p.2.length 0:=by rw[h2];rfl
  have b:=pK c h1 a p.2 [] (by simpa using h2) h3;rw[<-hz,Nf,Ax]at b;rw[b];simp only[Aa];have hP:P++ [(p.1,p.2)]=P++ [p]:=rfl;have:=gB a l (P++ [p]) (by grind) (by grind) (λq hq=>hall q<|by simp[hq]);rw[hP,show(l.flatMap λp=>Cn.mk 2 p.1 0 0::Hf p.1 0 p.2)=l.flatMap Qq from rfl,this,BR];rfl
theorem jQ (h:VsP l nx) (l0:Vs) (n0:Int):CK l0 n0 (Nc l nx)=some (l,nx):=by
 unfold Nc;rw[GJ];have a:CJ l0 n0 (Cn.mk 1 0 nx 0)=some ([],nx):=by
  unfold CJ;have hb:Gi (Cn.mk 1 0 nx 0)=true:=by
   have:=h.nxt
   grind [Gi]
  rw[hb];have:=h.nxt
  grind
 rw[a];have:=gB h.nxt.2 l [] (by simpa using h.len) (by simpa using h.asc) λp hp=>⟨h.ids p hp,h.row p hp,h.num p hp⟩
 grind
theorem jP (h:VsP l nx):(∀r∈Nc l nx,Gi r=true)/\(Nc l nx).length<=1000:=by
 refine⟨λr hr=>?_,?_⟩
 ·
  cases hb:Gi r with
  |true=>rfl
  |false=>
   exfalso;obtain⟨i,hi,rfl⟩:=Ay hr;have h1:=jQ h [] 1;obtain⟨e1,e2⟩:=JB<|Ab hi;rw[e1,Md]at h1
   cases hq:CK [] 1 ((Nc l nx).take i)with
   |none=>grind
   |some q=>grind [GJ,CJ]
 unfold Nc;rw[AX];have:=qY l h.row;have:=h.len;omega
structure AGU (d d':Device):Prop where
 ab:AF d'.Store=AF d.Store
 nx:d'.Store.Next=d.Store.Next
theorem Q4 (h:GM d r) {steps:List AG} (hs:Steps d.Flash steps g) (hl:steps.length<=1048576) (hm:Cr g=some (d',true)):Hd d steps=some d':=by
 unfold Hd;rw[M1 h.fl hs hl,Aa,hm];rfl
theorem WH:∀{n:Int} {ps:List Page} {p:Page},Hl n ps->(∀q∈ps,q.Seq<p.Seq)->n<=p.Seq->Hl n (ps++ [p])
 |n,[],p,_,_,h=>⟨h,trivial⟩
 |n,q::ps,p,ha,hq,h=>⟨ha.1,WH ha.2 (λx hx=>hq x (by simp[hx])) (by grind)⟩
def tX (d:Device) (r:List Al) (p:Page):Prop:=p.Kind=1/\Dt (AF d.Store) p.Tx/\∃y,KY r p.Tx=some y/\p.Text=y.Page.Text
theorem aV (h:GM d r) {live:List Int} (hl:∀x,x∈live↔Dt (AF d.Store) x) (hy:r[j]?=some y) (hn:(Cv r live 1000000001)[j]?=some true):y.Page.Kind=1/\Dt (AF d.Store) y.Page.Tx/\KY r y.Page.Tx=some y:=by
 rw[PN r live _ hy]at hn
 injection hn with hn
 have a:=h.pages;have ht:=a.tx y<|Ao hy;have:Dz 1000000001 y=false:=by
  unfold Dz
  grind
 rw[this,Bool.false_or,Ff]at hn;obtain⟨c,hc,b⟩:=hn;have e:RM c r r.length=some j:=by simpa using b
 have h1:=AC5 e;rw[hy]at h1;obtain⟨_,k1,k2⟩:=aU h1
 grind
theorem eV (h:GM d r) (k:r.length<=40) (b:Int):GW d b=some ([],false)\/∃steps ps g,GW d b=some (steps,true)/\I4 d.Flash steps ps g/\Bg g/\Hl d.Seq ps/\steps.length<=160/\(∀p∈ps,tX d r p/\Jj p)/\∀p∈ps,p.Seq<d.Seq+160:=by
 obtain⟨live,l1,l2,l3,l4⟩:=Gg h.st;have l:1<=d.Seq/\d.Seq<=1000000001:=by
  rw[h.seq];have h1:=NS r;refine⟨h1.2.1,h1.2.2 _ (by omega) λy hy=>?_⟩;have:=(h.pages.seq y hy).2;omega
 unfold GW;rw[h.scan.s,l1];simp only[Aa];rw[Nq r live _ h.scan.len l4];have m:live.foldl (e8 r) (r.map<|Dz 1000000001)=Cv r live 1000000001:=rfl
 let I:Nat->(List AG×Int×List Block)->Prop:=λn o=>∃ps,I4 d.Flash o.1 ps (Flash.mk o.2.2)/\Bg (Flash.mk o.2.2)/\Hl d.Seq ps/\(∀p∈ps,p.Seq<o.2.1)/\d.Seq<=o.2.1/\o.2.1<=d.Seq+n/\o.1.length<=n/\∀p∈ps,tX d r p/\Jj p
 have I0:I (40*0) ([],d.Seq,d.Flash.Blocks):=by
  refine⟨[],rfl,h.fl,trivial,?_,?_,?_,?_,?_⟩
  ·grind
  ·exact La _
  ·grind
  ·exact A0 _
  grind
 obtain⟨a,h1,h2⟩:=A9 (body:=λs:List AG×Int×Int×List Block=>Fj b r (Cv r live 1000000001) s.1 s.2.1 s.2.2.1 s.2.2.2) (λ(o:List AG×Int×List Block) i=>(o.1,o.2.1,i,o.2.2)) 4
  (λi o=>I (40*i) o) (λa=>a= .inr ([],false)\/∃steps sq bl,a= .inl steps/\I 160 (steps,sq,bl))
  (λo i hi ho=>by
   simp only[Fj];rw[cT];obtain⟨q,q1,q2⟩:=A9 (body:=λs:List AG×Int×Int×List Block=>Es b r (Cv r live 1000000001) (i:Int) s.1 s.2.1 s.2.2.1 s.2.2.2) (λ(o:List AG×Int×List Block) j=>(o.1,o.2.1,j,o.2.2)) r.length
    (λj o=>I (40*i+j) o) (λq=>q= .inr (.inr<|.inr ([],false))\/∃o,q= .inl o/\I (40*i+40) o)
    (λo j hj hs=>by
     obtain⟨ss,sq,bl⟩:=o;obtain⟨ps,p1,p2,p3,p4,p5,p6,p7,p8⟩:=hs;simp only at p1 p2 p4 p5 p6 p7;have hx:=Ab hj;have e:j<(Cv r live 1000000001).length:=by grind [JW]
     have c:=Ab e;simp only[Es,Do hj,Aq,hx,c,Aa];rw[ad1];have skip:I (40*i+(j+1)) (ss,sq,bl):=⟨ps,p1,p2,p3,p4,p5,by show sq<=_;omega,by grind,p8⟩
     cases f:(Cv r live 1000000001)[j]with
     |false=>
      exact .inl ⟨(ss,sq,bl),rfl,skip⟩
     |true=>
      simp only[An,Ad]
      cases hb:(r[j].Block !=b)with
      |true=>
       exact .inl ⟨(ss,sq,bl),rfl,skip⟩
      |false=>
       simp only[Ad,Aa]
       cases t:(r[j].Leaf !=(i:Int))with
       |true=>
        exact .inl ⟨(ss,sq,bl),rfl,skip⟩
       |false=>
        obtain⟨m1,m2,m3⟩:=aV h l3 hx<|by rw[c,f]
        rcases ABu p2 p1 (by omega) (Page.mk r[j].Page.Kind sq r[j].Page.Tx r[j].Page.Part r[j].Page.Count r[j].Page.Text)with⟨s,g',w1,w2,w3,w4,_⟩|w
        ·rw[w1];simp only[Aa,An,Ad];rw[Bc,AD,CY,BV,show((ss.length+1:Nat):Int)-1=(ss.length:Int) by omega,EU];simp only[Aa]
         cases u:(s.Block==b)with
         |true=>simp
         |false=>
          rw[Ch];refine .inl ⟨(ss++ [s],sq+1,g'.Blocks),rfl,_,w2,w3,WH p3 (λq hq=>p4 q hq) p5,λp hp=>?_,by grind,by grind,by simp;omega,λp hp=>?_⟩
          ·grind
          rw[A6,Ck]at hp
          rcases hp with hp|rfl
          ·exact p8 p hp
          exact⟨⟨m1,m2,_,m3,rfl⟩,w4⟩
        grind)
    (λo hs=>⟨.inl (o.1,o.2.1,o.2.2),by simp[CQ,Es],.inr ⟨o,rfl,by grind⟩⟩) (s:=o) (by omega)
   rw[q1]
   rcases q2 with rfl|⟨o',rfl,q2⟩
   ·simp
   grind [ad1])
  (λo ho=>⟨.inl o.1,by rfl,.inr ⟨o.1,o.2.1,o.2.2,rfl,ho⟩⟩) (s:=([],d.Seq,d.Flash.Blocks)) I0
 grind
theorem ABR (h:IY d r) {steps:List AG} (hp:I4 d.Flash steps ps g) (ha:Hl d.Seq ps) (hl:steps.length<=160) (hm:∀p∈ps,tX d r p/\Jj p) (k:Nat):
  ∃m d',Steps d.Flash (steps.take k) m/\Bg m/\Cr m=some (d',true)/\d'.Flash=m/\IY d' (r++(Cp steps ps).take k)/\AGU d d'/\d'.Base=d.Base/\Zw d.Flash m/\∀c,Dt (AF d.Store) c->BT (r++(Cp steps ps).take k) c=BT r c:=by
 have b:=(EV hp).2;have u:=h.few
 have e:∀y∈r,y.Page.Seq<d.Seq:=λy hy=>by rw[h.dev.seq];simp_all [NS]
 obtain⟨m,a⟩:=Vu k hp;have f:=Ue h.dev.fl (EV a).1;have ascT:∀(ps:List Page) (n:Int) (k:Nat),Hl n ps->Hl n (ps.take k):=by
  intro ps
  induction ps with
  |nil=>grind
  |cons p ps ih=>
   intro n k ha
   cases k with
   |zero=>trivial
   |succ k=>exact⟨ha.1,ih _ k ha.2⟩
 have l:=dO h.dev.fl h.dev.sr a e<|ascT _ _ k ha;rw[Yi]at l;obtain⟨d',u1,u2,u3⟩:=MJ f l;have v:=cE b;have ascG:∀(ps:List Page) (n:Int) (i:Nat) (p:Page),Hl n ps->ps[i]?=some p->n<=p.Seq/\∀j q,j<i->ps[j]?=some q->q.Seq<p.Seq:=by
  intro ps
  induction ps with
  |nil=>grind
  |cons x ps ih=>
   intro n i p ha hp
   cases i with
   |zero=>
    simp only[List.getElem?_cons_zero,Az]at hp;rw[<-hp];exact⟨ha.1,λj q hj=>by omega⟩
   |succ i=>
    obtain⟨i1,i2⟩:=ih _ i p ha.2 (by simpa using hp);have:=ha.1;refine⟨by omega,λj q hj hq=>?_⟩
    grind
 have main:∀n,n<=(Cp steps ps).length->J0 (r++(Cp steps ps).take n)/\GN (r++(Cp steps ps).take n) (Dt<|AF d.Store)/\AT (r++(Cp steps ps).take n)=AT r/\∀c,Dt (AF d.Store) c->BT (r++(Cp steps ps).take n) c=BT r c:=by
  intro n
  induction n with
  |zero=>intro _;rw[List.take_zero,AU];exact⟨h.core,h.data,rfl,λ_ _=>rfl⟩
  |succ n ih=>
   intro hn;obtain⟨i1,i2,i3,i4⟩:=ih (by omega);have hx:(Cp steps ps)[n]?=some (Cp steps ps)[n]:=Ab (by omega);have o:=Ow hx;obtain⟨⟨m1,m2,y,m3,m4⟩,m5⟩:=hm _<|Ao o;obtain⟨a1,a2⟩:=ascG ps d.Seq n _ ha o;rw[Ag (by omega),<-BR];have w:Z3 (Cp steps ps)[n].Page.Text=BT r (Cp steps ps)[n].Page.Tx:=by grind [BT]
   have s:D1 (r++(Cp steps ps).take n)<=(Cp steps ps)[n].Page.Seq:=by
    refine(NS _).2.2 _ (m5.2.1.1) (λz hz=>?_)
    rcases A6.1 hz with hz|hz
    ·grind
    obtain⟨j,hj,rfl⟩:=Ay hz;rw[Fe]at hj;rw[List.getElem_take];exact a2 j _ (by omega)<|Ow<|Ab<|by omega
   refine⟨J0.add i1 (by simp;omega) m5 s (λhh=>by omega),sO i2 (by grind),by grind [Yh],λc hc=>?_⟩
   grind [PM,BT]
 have t:J0 (r++(Cp steps ps).take k)/\GN (r++(Cp steps ps).take k) (Dt<|AF d.Store)/\AT (r++(Cp steps ps).take k)=AT r/\∀c,Dt (AF d.Store) c->BT (r++(Cp steps ps).take k) c=BT r c:=by grind [Cp]
 obtain⟨k1,k2,k3,k4⟩:=t;obtain⟨e1,e2,e3⟩:=HO h.dev u2 (by rw[k3]);exact⟨m,d',(EV a).1,f,u1,u3,⟨u2,k1,by rw[e1];exact k2⟩,⟨e1,e2⟩,e3,λ_=>Vt a,k4⟩
theorem R8 (h:GM d r) {live:List Int} (hl:live.length<=16777216) (t:ByteArray):∃v,Ia d.Flash live t=some v/\((v=0/\∀c∈live,BT r c≠some t)\/(v∈live/\BT r v=some t)):=by
 have hr:=h.pages;unfold Ia Tv;rw[h.scan.s];obtain⟨b,h1,h2⟩:=A9 (body:=λs:Int=>EJ r live t s) (λ(_:Unit) i=>i) live.length (λi _=>∀c∈live.take i,BT r c≠some t) (λb=>(b= .inl ()/\∀c∈live,BT r c≠some t)\/∃v,b= .inr v/\v∈live/\BT r v=some t)
  (λ_ i hi hs=>by
   have hx:=Ab hi;simp only[EJ,Do hi,Aq,hx,Aa];obtain⟨u,ok,k1,k2⟩:=ZR hr live[i];rw[k1,Aa,ad1]
   have no:BT r live[i]≠some t->∀c∈live.take (i+1),BT r c≠some t:=λa c hc=>by grind [Ag]
   cases ok with
   |false=>simp_all
   |true=>
    cases e:seq u t with
    |true=>grind [IV]
    |false=>simp_all [IV])
  (λ_ hs=>⟨_,by simp[CQ,EJ],.inl ⟨rfl,by grind⟩⟩) (s:=()) (by simp)
 grind
structure AEh (q:Ask):Prop where
 kind:1<=q.Kind/\q.Kind<=6
 vol:1<=q.Vol/\q.Vol<=9
 text:(L q.Text).length<=64
 sec:0<=q.Sector/\q.Sector<=15
 of_:0<=q.Of/\q.Of<=9
 cl:q.Kind=4->1<=q.Of
 no:q.Kind≠4->q.Of=0
 tx:q.Kind≠1->L q.Text=[]
theorem PF (q:Ask):∃v,He q=some v/\(v=true->AEh q):=by
 unfold He;simp only[Dj,Aa];by_cases h1:1<=q.Kind/\q.Kind<=6
 ·rw[Ac h1];by_cases h2:1<=q.Vol/\q.Vol<=9
  ·rw[Ac h2];by_cases h3:Gz q.Text>64
   ·simp_all
   rw[Ai h3];rw[Bu]at h3;simp only[An,Ad];have ht:(cond (q.Kind !=1) (some<|!(seq q.Text<|bs [])) (some false):Option Bool)=some (decide<|q.Kind≠1/\L q.Text≠ []):=by grind [RC,DO]
   rw[ht];simp only[Aa];by_cases h4:q.Kind≠1/\L q.Text≠ []
   ·grind
   rw[Ai h4]
   have a:q.Kind≠1->L q.Text=[]:=λhk=>Classical.byContradiction λhh=>h4 ⟨hk,hh⟩
   by_cases h5:q.Kind=4
   ·rw[show(q.Kind==4)=true by simpa using h5];by_cases h6:q.Sector=0
    ·rw[show(q.Sector==0)=true by simpa using h6];refine⟨_,rfl,λhh=>?_⟩;rw[Bm]at hh;exact⟨h1,h2,by omega,by omega,by omega,λ_=>hh.1,λhk=>absurd h5 hk,a⟩
    grind
   rw[show(q.Kind==4)=false by simpa using h5];by_cases h6:q.Of=0
   ·rw[show(q.Of !=0)=false by simp[h6]];by_cases h7:q.Kind=3\/q.Kind=5
    ·have:(cond (q.Kind==3) (some true) (some<|q.Kind==5):Option Bool)=some true:=by grind
     rw[this];refine⟨_,rfl,λhh=>?_⟩;rw[HE]at hh;exact⟨h1,h2,by omega,by omega,by omega,λhk=>absurd hk h5,λ_=>h6,a⟩
    have:(cond (q.Kind==3) (some true) (some<|q.Kind==5):Option Bool)=some false:=by grind
    rw[this];refine⟨_,rfl,λhh=>?_⟩;rw[Bm]at hh;exact⟨h1,h2,by omega,hh,by omega,λhk=>absurd hk h5,λ_=>h6,a⟩
   grind
  simp_all [Ai]
 simp_all [Ai]
def pN (d:Device) (r:List Al) (q:Ask) (x:Cn) (a:ByteArray):Prop:=Gi x=true/\x.Kind≠1/\x.Vol=q.Vol/\((L a=[]/\(x.Kind=4->Dt (AF d.Store) x.Chunk/\BT r x.Chunk=some q.Text))\/(x.Kind=4/\x.Chunk=d.Store.Next/\L a≠ []/\Z3 a=some q.Text/\∀c,Dt (AF d.Store) c->BT r c≠some q.Text))
theorem sD (h:GM d r) (q:Ask):∃a text no,Ep d q=some (a,text,no)/\((a=[]/\text=bs [])\/(no=0/\∃x,a=[x]/\pN d r q x text))/\(no≠0->a=[]):=by
 have i:=h.st.len;have b:=h.st.nx;obtain⟨v,a1,a2⟩:=PF q;unfold Ep;rw[a1];simp only[Aa]
 cases v with
 |false=>exact⟨_,_,_,rfl,.inl ⟨rfl,rfl⟩,λ_=>rfl⟩
 |true=>
  have hq:=a2 rfl;simp only[An,Ad];obtain⟨w,hw⟩:∃w,CM d.Store q.Vol=some w:=by
   rcases E8 d.Store (by omega) q.Vol with⟨e,_⟩|⟨k,_,e,_⟩<;>exact⟨_,e⟩
  rw[hw];by_cases h34:q.Kind=3\/q.Kind=4
  ·have:(cond (q.Kind==3) (some true) (some<|q.Kind==4):Option Bool)=some true:=by grind
   rw[this];simp only[Aa,Ap]
   cases decide (w>=0)with
   |true=>grind
   |false=>
    obtain⟨j2,g⟩:∃j2,(cond (q.Kind==4) ((CM d.Store q.Of).bind λv3=>some<|decide<|v3<0) (some false):Option Bool)=some j2:=by grind [E8]
    rw[g];simp only[Aa]
    cases j2 with
    |true=>grind
    |false=>
     cases decide (ln d.Store.Vols>=3)with
     |true=>grind
     |false=>
      refine⟨_,_,_,rfl,.inr ⟨rfl,_,rfl,AEZ hq.vol hq.of_,by simp,rfl,.inl ⟨DO _,λhh=>by simp at hh⟩⟩,λhh=>absurd rfl hh⟩
  have:(cond (q.Kind==3) (some true) (some<|q.Kind==4):Option Bool)=some false:=by grind
  rw[this];simp only[Aa,Ad]
  cases decide (w>=0)with
  |false=>exact⟨_,_,_,rfl,.inl ⟨rfl,rfl⟩,λ_=>rfl⟩
  |true=>
   simp only[An,Ad]
   cases k1:(q.Kind==1)with
   |true=>
    obtain⟨live,l1,l2,l3,l4⟩:=Gg h.st;obtain⟨c,f1,f2⟩:=R8 h l4 q.Text;rw[l1,Aa,f1];simp only[Aa]
    rcases f2 with⟨rfl,f2⟩|⟨f2,f3⟩
    ·obtain⟨z,z1,z2,z3⟩:=rX q.Text hq.text;rw[show((0:Int)==0)=true from rfl,z1];refine⟨_,_,_,rfl,.inr ⟨rfl,_,rfl,ABn hq.vol (by have:=hq.sec;omega) ⟨b.1,b.2⟩,by simp,rfl,.inr ⟨rfl,rfl,?_,?_,λc hc=>f2 c<|(l3 c).2 hc⟩⟩,λhh=>absurd rfl hh⟩
     ·grind
     grind [Z3]
    have f:=(l3 c).1 f2;have j:=Zb h.st f;rw[show(c==0)=false by grind];refine⟨_,_,_,rfl,.inr ⟨rfl,_,rfl,ABn hq.vol (by have:=hq.sec;omega) (by omega),by simp,rfl,.inl ⟨DO _,λ_=>⟨f,f3⟩⟩⟩,λhh=>absurd rfl hh⟩
   |false=>
    cases k2:(q.Kind==2)with
    |true=>
     refine⟨_,_,_,rfl,.inr ⟨rfl,_,rfl,?_,by simp,rfl,.inl ⟨DO _,λhh=>by simp at hh⟩⟩,λhh=>absurd rfl hh⟩;have:=hq.vol;have:=hq.sec
     grind [Gi]
    |false=>
     cases k5:(q.Kind==5)with
     |true=>
      refine⟨_,_,_,rfl,.inr ⟨rfl,_,rfl,?_,by simp,rfl,.inl ⟨DO _,λhh=>by simp at hh⟩⟩,λhh=>absurd rfl hh⟩;have:=hq.vol
      grind [Gi]
     |false=>grind
theorem Yl (h:CJ l nx x=some (l',nx')) (hk:x.Kind≠1):(∀c,Dt l' c->Dt l c\/c=x.Chunk)/\nx<=nx'/\nx'<=max nx (x.Chunk+1):=by
 unfold CJ at h;split at h
 ·cases h
 split at h
 ·split at h
  ·cases h
  injection h with h
  injection h with h1 h2
  subst h1 h2;refine⟨λc hc=>?_,by omega,by omega⟩;obtain⟨h0,p,hp,hx⟩:=hc;unfold bG at hp;simp only[A6,AR,Ck]at hp
  rcases hp with(hp|rfl)|hp
  ·exact .inl ⟨h0,p,hp.1,hx⟩
  ·have zz:c∉NJ:=λhz=>by have:=DG hz;omega
   split at hx
   ·cases hg:IQ l x.Arg with
    |none=>grind
    |some row=>
     rw[hg]at hx;obtain⟨w,a,d⟩:=AI.1 hg;have b:=List.mem_of_find?_eq_some a;exact .inl ⟨h0,w,b,by grind⟩
   exact absurd hx zz
  exact .inl ⟨h0,p,hp.1,hx⟩
 split at h
 ·cases h
 split at h
 ·injection h with h
  injection h with h1 h2
  subst h1 h2;refine⟨λc hc=>?_,by omega,by omega⟩;obtain⟨h0,p,hp,hx⟩:=hc;exact .inl ⟨h0,p,(AR.1 hp).1,hx⟩
 injection h with h
 injection h with h1 h2
 subst h1 h2;refine⟨λc hc=>?_,by omega,by omega⟩;obtain⟨h0,p,hp,hx⟩:=hc;obtain⟨w,hw,rfl⟩:=A8.1 hp;split at hx
 ·rcases C3 hx with hx|hx
  ·exact .inl ⟨h0,w,hw,hx⟩
  exact .inr hx
 exact .inl ⟨h0,w,hw,hx⟩
theorem uT (h:CJ l nx x=some (l',nx')) (hk:x.Kind≠1):∀p∈l',(∃p'∈l,p'.1=p.1)\/p.1=x.Vol:=by
 unfold CJ at h;split at h
 ·cases h
 split at h
 ·grind [bG]
 split at h
 ·cases h
 split at h
 ·injection h with h
  injection h with h1 h2
  subst h1 h2
  exact λp hp=> .inl ⟨p,(AR.1 hp).1,rfl⟩
 grind [eA]
theorem eE (h:GM d r):∃v,Ln d=some v:=by
 have hr:=h.pages;unfold Ln
 cases(d.Base !=sb d.Tx 1)with
 |true=>exact⟨_,rfl⟩
 |false=>
  rw[h.scan.s,Aa,OV r hr];simp only[Aa];obtain⟨g1,_⟩:=Vk hr;obtain⟨b,h1,_⟩:=A9 (body:=λs:Int=>Gf d (AT r) s) (λ(_:Unit) i=>i) (AT r).length (λ_ _=>True) (λ_=>True)
   (λ_ i hi _=>by
    have hx:=Ab hi;simp only[Gf,Do hi,Aq,hx,Aa];rw[ad1]
    cases((AT r)[i].Num==d.Base)with
    |false=>simp
    |true=>
     cases a:(AT r)[i].Recs with
     |nil=>exact .inr ⟨_,rfl,trivial⟩
     |cons q m=>grind [gi])
   (λ_ _=>⟨.inl (),by simp[CQ,Gf],trivial⟩) (s:=()) trivial
  rw[h1]
  cases b with
  |inl u=>exact⟨_,rfl⟩
  |inr v=>exact⟨v,rfl⟩
theorem eJ (h:GM d r):∃v,Lr d=some v:=by
 have hn:=h.fl.n;obtain⟨live,l1,_,_,l4⟩:=Gg h.st;unfold Lr;rw[h.scan.s,l1];simp only[Aa];rw[Nq r live d.Base h.scan.len l4,Nq r live 1000000000 h.scan.len l4]
 have a:∀b,live.foldl (e8 r) (r.map<|Dz b)=Cv r live b:=λ_=>rfl
 rw[a,a];obtain⟨b,h1,_⟩:=A9 (body:=λs:Int×Int×Int=>Dg d r (Cv r live d.Base) (Cv r live 1000000000) s.1 s.2.1 s.2.2) (λ(o:Int×Int) i=>(o.1,o.2,i)) d.Flash.Blocks.length (λ_ _=>True) (λ_=>True)
  (λo i hi _=>by
   have hx:=Ab hi;have hP:=h.fl.blk _<|Av hi;simp only[Dg,Do hi,Aq,hx,Aa];rw[aO r _ (i:Int) h.scan.len<|JW _ _ _,aO r _ (i:Int) h.scan.len<|JW _ _ _,K3 _ hP.four,ad1];simp only[Aa,ML]
   cases(bif !d.Flash.Blocks[i].Bad then _ else false)with
   |true=>simp
   |false=>grind)
  (λo _=>⟨o.1,by simp[CQ,Dg],trivial⟩) (s:=(-1,4)) trivial
 grind
theorem GM.seqs (h:GM d r):0<=d.Seq/\d.Seq<=1000000001:=by
 rw[h.seq];have h1:=NS r;refine⟨by omega,h1.2.2 _ (by omega) λy hy=>?_⟩;have:=(h.pages.seq y hy).2;omega
theorem kD (h:∀y∈r',y.Page.Kind=2->y.Page.Tx<ED r+n):ED r'<=ED r+n:=(kE r').2.2 _ (by have:=(kE r).2.1;omega) h
theorem YP (n:Nat) (hy:y∈r) (hk:y.Page.Kind=2):y.Page.Tx<ED r+n:=by have:=(kE r).1 y hy hk;omega
theorem iI {seq tx:Int} (h:p∈Cd seq tx T):p.Tx=tx:=by grind [Cd]
theorem kJ (h:∀y∈r',y.Page.Seq<D1 r+n):D1 r'<=D1 r+n:=(NS r').2.2 _ (by have:=(NS r).2.1;omega) h
theorem YR (n:Nat) (hy:y∈r):y.Page.Seq<D1 r+n:=by have:=(NS r).1 y hy;omega
theorem tR {seq tx:Int} (h:p∈Cd seq tx T):p.Seq<seq+T.length:=by grind [Cd]
theorem f9 {c:Int} {a:ByteArray} (h:p∈C7 d c a++Cd (IW d a) d.Tx T):p.Seq<d.Seq+1+T.length:=by
 rcases A6.1 h with h|h
 ·grind [C7]
 have h1:=tR h
 grind [IW]
theorem Pa {seq tx:Int} (h:p∈Cd seq tx T):p.Kind=2:=by grind [Cd]
def AAN (m:Flash) (s:AG) (g:Flash):Prop:=Bg g/\Zw m g/\((s.Kind=1/\K7 0 g.Blocks=K7 0 m.Blocks)\/(s.Kind=2/\K7 0 g.Blocks=(K7 0 m.Blocks).filter λy=>y.Block !=s.Block))
def Yo (f:Flash) (ss:List AG) (k:Nat) (g:Flash):Prop:=∃m,Steps f (ss.take k) m/\(g=m\/∃s,ss[k]?=some s/\Qt m s/\AAN m s g)
theorem Qh:∀{f:Flash} {a:List AG} {g m:Flash},Steps f a g->Steps f a m->g=m
 |f,[],g,m,h,k=>by rw[show g=f from h,show m=f from k]
 |f,s::a,g,m,h,k=>Qh h.2 k.2
theorem jG {m:Flash} {a b:List AG} (h:Yo f (a++b) k g) (hs:Steps f a m):(k<a.length/\Yo f a k g)\/(a.length<=k/\Yo m b (k-a.length) g):=by
 obtain⟨x,h1,h2⟩:=h;by_cases e:k<a.length
 ·left;rw[List.take_append_of_le_length<|by omega]at h1;rw[Mg e]at h2;exact⟨e,x,h1,h2⟩
 right;rw[List.take_append,AP<|by omega]at h1;rw[Ds<|by omega]at h2;obtain⟨y,y1,y2⟩:=(H3 _ _ _ _).1 h1;rw[Qh y1 hs]at y2;exact⟨by omega,x,y2,h2⟩
structure Jz (n:Nat) (d:Device) (r:List Al) (d':Device) (r':List Al):Prop where
 good:IY d' r'
 ab:AF d'.Store=AF d.Store
 nx:d'.Store.Next=d.Store.Next
 pg:∀y∈r',y.Page.Kind=1->∃z∈r,z.Page.Kind=1/\z.Page.Tx=y.Page.Tx/\z.Page.Text=y.Page.Text
 tx:ED r'<=ED r+n
 wear:∀w:Int,FK d.Flash w->FK d'.Flash (w+n)
 text:∀c,Dt (AF d.Store) c->BT r' c=BT r c
 sq:D1 r'<=D1 r+200*n
structure As (d:Device) (r:List Al) (d':Device) (r':List Al):Prop where
 good:IY d' r'
 ab:AF d'.Store=AF d.Store
 nx:d'.Store.Next=d.Store.Next
 tx:ED r'<=ED r+1
 wear:∀w:Int,FK d.Flash w->FK d'.Flash (w+1)
 text:∀c,Dt (AF d.Store) c->BT r' c=BT r c
theorem As.torn {b:List Al} (h:As d a e b) (hg:Bg g) (hp:K7 0 g.Blocks=K7 0 e.Flash.Blocks) (hw:Zw e.Flash g):∃x,Cr g=some (x,true)/\x.Flash=g/\As d a x b:=by
 obtain⟨x,u1,u2,u3⟩:=MJ hg (r:=b) (by rw[hp];exact h.good.dev.sr);obtain⟨e1,e2,_⟩:=HO h.good.dev u2 rfl;exact⟨x,u1,u3,⟨⟨u2,h.good.core,by rw[e1];exact h.good.data⟩,by rw[e1,h.ab],by rw[e2,h.nx],h.tx,λw hh=>by rw[u3];exact hw _<|h.wear w hh,h.text⟩⟩
theorem YM (h:Zw f g) (w:Int) (hw:FK f w):FK g (w+n):=λb hb=>by have:=h w hw b hb;omega
theorem Jz.refl (h:IY d r):Jz n d r d r:=⟨h,rfl,rfl,λy hy hk=>⟨y,hy,hk,rfl,rfl⟩,by omega,YM λ_ h=>h,λ_ _=>rfl,by omega⟩
theorem Jz.trans {g:Device} {b c:List Al} (h:Jz n d a e b) (k:Jz m e b g c):Jz (n+m) d a g c:=⟨k.good,by rw[k.ab,h.ab],by rw[k.nx,h.nx],λy hy hk=>by
 obtain⟨z,z1,z2,z3,z4⟩:=k.pg y hy hk;obtain⟨w,w1,w2,w3,w4⟩:=h.pg z z1 z2
 grind,by have:=h.tx;have:=k.tx;omega,λw hw=>by
 have:=k.wear _<|h.wear w hw
 grind,λc hc=>by rw[k.text c (by rw[h.ab];exact hc),h.text c hc],by have:=h.sq;have:=k.sq;omega⟩
theorem Jz.mono {b:List Al} (h:Jz n d a e b) (hm:n<=m):Jz m d a e b:={h with
 tx:=by have:=h.tx;omega
 wear:=λw hw x hx=>by have:=h.wear w hw x hx;omega
 sq:=by have:=h.sq;omega}
theorem Jz.torn {b:List Al} (h:Jz n d a e b) (hg:Bg g) (hp:K7 0 g.Blocks=K7 0 e.Flash.Blocks) (hw:Zw e.Flash g):∃x,Cr g=some (x,true)/\x.Flash=g/\Jz n d a x b:=by
 obtain⟨x,u1,u2,u3⟩:=MJ hg (r:=b) (by rw[hp];exact h.good.dev.sr);obtain⟨e1,e2,_⟩:=HO h.good.dev u2 rfl;exact⟨x,u1,u3,⟨⟨u2,h.good.core,by rw[e1];exact h.good.data⟩,by rw[e1,h.ab],by rw[e2,h.nx],h.pg,h.tx,λw hh=>by rw[u3];exact hw _<|h.wear w hh,h.text,h.sq⟩⟩
def Lg (n:Nat) (d:Device) (r:List Al) (steps:List AG):Prop:=(∃m,Steps d.Flash steps m)/\∀k g,k<=steps.length->Yo d.Flash steps k g->∃x rx,Cr g=some (x,true)/\x.Flash=g/\Jz n d r x rx
theorem iE {steps:List AG} (h1:∀s∈steps,s.Kind=1) (hc:∀k,k<=steps.length->∃x rx,Steps d.Flash (steps.take k) x.Flash/\Cr x.Flash=some (x,true)/\Jz n d r x rx):Lg n d r steps:=by
 refine⟨?_,λk g hk hg=>?_⟩
 ·obtain⟨x,rx,c1,_⟩:=hc steps.length (A0 _)
  grind
 obtain⟨x,rx,c1,c2,c3⟩:=hc k hk;obtain⟨m,m1,m2⟩:=hg;have:=Qh m1 c1;subst this
 rcases m2 with rfl|⟨s,s1,_,s2,s3,⟨_,s4⟩|⟨s4,_⟩⟩
 ·grind
 ·obtain⟨y,y1,y2,y3⟩:=c3.torn s2 s4 s3
  grind
 grind
theorem Lg.full {steps:List AG} (h:IY d r) (hc:Lg n d r steps) (hl:steps.length<=1000000):∃x rx,Hd d steps=some x/\Steps d.Flash steps x.Flash/\Jz n d r x rx:=by
 obtain⟨⟨m,hm⟩,hk⟩:=hc;obtain⟨x,rx,x1,x2,x3⟩:=hk steps.length m (A0 _) ⟨m,by grind,.inl rfl⟩;exact⟨x,rx,Q4 h.dev hm (by omega) x1,by rw[x2];exact hm,x3⟩
theorem AAE {re:List Al} {a b:List AG} (hk:Jz n d r e re) (hs:Steps d.Flash a e.Flash) (ha:Lg n d r a) (hb:Lg m e re b):Lg (n+m) d r (a++b):=by
 refine⟨?_,λk g c hg=>?_⟩
 ·obtain⟨x,hx⟩:=hb.1;simp_all [H3];grind
 rw[AD]at c
 rcases jG hg hs with⟨e1,e2⟩|⟨e1,e2⟩
 ·obtain⟨x,rx,x1,x2,x3⟩:=ha.2 k g (by omega) e2;exact⟨x,rx,x1,x2,x3.mono<|by omega⟩
 obtain⟨x,rx,x1,x2,x3⟩:=hb.2 _ g (by omega) e2;exact⟨x,rx,x1,x2,hk.trans x3⟩
theorem aT (r m:List Al) (c:Int) (h:∀y∈m,¬(y.Page.Kind=1/\y.Page.Tx=c)):KY (r++m) c=KY r c:=by grind [Wx,KY]
theorem dW (h:IY d r) (hw:FK d.Flash 999999999):∃steps ok,L0 d=some (steps,ok)/\steps.length<=200/\(ok=false->steps=[])/\(ok=true->Lg 1 d r steps):=by
 have hv:=h.dev.st.vs;obtain⟨dead,d1,d2,d3⟩:=aE h.dev;unfold L0;rw[d1];simp only[Aa]
 cases hd:dead with
 |cons b m=>
  rw[Ac (by grind [Bc]:ln (b::m)>0),show gi (b::m) 0=some b from Aq (i:=0)];refine⟨_,_,rfl,by simp,(λhh=>by cases hh),λ_=>?_⟩;obtain⟨x,x1,x2,x3⟩:=d3 b (by rw[hd];simp);have hc:ACz d.Flash b:=⟨x,x1,x2,λe=>by have:=hw x<|Ao (Cm x1).2;omega⟩;have hs:Qt d.Flash (AG.mk 2 b 0<|bs []):= .inr ⟨rfl,hc⟩;obtain⟨w1,w2⟩:=XE h.dev.fl hc;have he:MY d.Flash (AG.mk 2 b 0<|bs [])=XF d.Flash b:=by rfl
  have wp:∀g,Bg g->K7 0 g.Blocks=((K7 0 d.Flash.Blocks).filter λy=>y.Block !=b)->(∀w:Int,FK d.Flash w->FK g (w+1))->∃x rx,Cr g=some (x,true)/\x.Flash=g/\Jz 1 d r x rx:=by
   intro g g1 g2 g3;obtain⟨d',u1,u2,u3,u4,u5,_,u6⟩:=AC0 h x3 g1 g2;exact⟨d',_,u1,u2,u3,u4,u5,λy hy hk=>⟨y,(AR.1 hy).1,hk,rfl,rfl⟩,kD λy hy hk=>YP _ (AR.1 hy).1 hk,by rw[u2];exact g3,u6,kJ (n:=200*1) λy hy=>YR _ (AR.1 hy).1⟩
  refine⟨⟨_,hs,rfl⟩,λk g hk hg=>?_⟩;obtain⟨q,q1,q2⟩:=hg
  cases k with
  |zero=>
   rw[show q=d.Flash from q1]at q2
   rcases q2 with rfl|⟨s,s1,_,s2,s3,⟨s4,_⟩|⟨_,s4⟩⟩
   ·obtain⟨x,u1,u2,u3⟩:=(Jz.refl (n:=1) h).torn h.dev.fl rfl λ_ hh=>hh
    grind
   ·grind
   simp only[List.getElem?_cons_zero,Az]at s1;rw[<-s1]at s4
   exact wp g s2 s4 λw hh y hy=>by have:=s3 w hh y hy;omega
  |succ k=>grind [gL,Steps]
 |nil=>
  rw[show decide (ln ([]:List Int)>0)=false from rfl];obtain⟨v,v1⟩:=eE h.dev;rw[v1];simp only[Aa]
  cases v with
  |false=>
   unfold M2;rw[We h.dev.st];simp only[Aa];obtain⟨b1,b2⟩:=jP hv
   rcases R4 h.dev.fl h.dev.seqs (Nc (AF d.Store) d.Store.Next) (by unfold Nc;simp) b2 b1 (bs [])with w|⟨steps,T,g,a,w1,w2,w3,w4,w5,w6,w7,w8,w9⟩
   ·grind
   rw[w2];simp only[Aa];have j:=(EV w7).2;have l:(Cd (IW d<|bs []) d.Tx T).length=T.length:=by unfold Cd;grind
   have o:C7 d a.Chunk (bs [])=[]:=by rfl
   rw[o,Ax,l]at j;refine⟨_,_,rfl,by omega,(λhh=>by cases hh),λ_=>iE (R6 w7) λk hk=>?_⟩;obtain⟨m,d',r',c1,c2,c3,c4,c5,rfl,cw,c6,c7,c8,c9⟩:=WQ h b1 w3 w4 w5 w6 w7 w9 (λhh=>absurd (DO _) hh) k hk;have f:AF d'.Store=AF d.Store/\d'.Store.Next=d.Store.Next:=by
    by_cases e:k<steps.length
    ·obtain⟨e1,e2,_⟩:=HO h.dev c4 (by rw[c8 e]);exact⟨e1,e2⟩
    obtain⟨q,hq⟩:=(c9<|by omega).1;have hB:uC (Tx.mk d.Tx q<|Nc (AF d.Store) d.Store.Next)=true:=rfl;have f:=c4.ab
    grind [Tq,jQ,Ol]
   have hX:∀y∈(Cp steps<|C7 d a.Chunk (bs [])++Cd (IW d<|bs []) d.Tx T).take k,y.Page.Kind=2/\y.Page.Tx=d.Tx:=λy hy=>by grind [M5,Pa,iI]
   refine⟨d',_,by rw[c5];exact c1,by rw[c5];exact c3,⟨c4,c6,by grind⟩,f.1,f.2,λy hy hk=>?_,kD λy hy hk=>?_,by rw[c5];exact YM (n:=1) cw,λc hc=>?_,kJ (n:=200*1) λy hy=>?_⟩
   ·grind
   ·rcases A6.1 hy with hh|hh
    ·exact YP _ hh hk
    rw[(hX y hh).2,h.dev.tx];omega
   ·grind [aT,BT]
   rcases A6.1 hy with hh|hh
   ·exact YR _ hh
   have:=f9<|M5 _ _ _ y hh;rw[h.dev.seq]at this;omega
  |true=>
   simp only[An,Ad];obtain⟨vi,vi1⟩:=eJ h.dev;rw[vi1];simp only[Aa]
   cases decide (vi<0)with
   |true=>grind
   |false=>
    rcases eV h.dev h.few vi with w|⟨steps,ps,g,w1,w2,w3,w4,w5,w6,w7⟩
    ·grind
    rw[w1];refine⟨steps,true,rfl,by omega,(λhh=>by cases hh),λ_=>iE (R6 w2) λk hk=>?_⟩;obtain⟨m,d',c1,c2,c3,c4,c5,c6,_,cw,c7⟩:=ABR h w2 w4 w5 w6 k;refine⟨d',_,by rw[c4];exact c1,by rw[c4];exact c3,c5,c6.ab,c6.nx,λy hy hk=>?_,kD λy hy hk=>?_,by rw[c4];exact YM (n:=1) cw,c7,kJ (n:=200*1) λy hy=>?_⟩
    ·rcases A6.1 hy with hh|hh
     ·grind
     obtain⟨⟨_,_,z,z1,z2⟩,_⟩:=w6 _<|M5 _ _ _ _ hh
     grind [aU]
    ·rcases A6.1 hy with hh|hh
     ·exact YP _ hh hk
     have:=(w6 _<|M5 _ _ _ _ hh).1.1;omega
    rcases A6.1 hy with hh|hh
    ·exact YR _ hh
    have:=w7 _<|M5 _ _ _ _ hh;rw[h.dev.seq]at this;omega
theorem Qi (h:Bg f):∃v:Int,Mt f=some v:=by
 obtain⟨v,v1,_⟩:=XB f h.cap (by have:=h.few;omega);exact⟨v,v1⟩
theorem dX (h:IY d r) (hw:FK d.Flash 999999000) (most:Int):∃d' all r',Ie d most=some (d',all)/\Jz 20 d r d' r'/\all.length<=4000/\Steps d.Flash all d'.Flash/\Lg 20 d r all:=by
 unfold Ie;rw[Mk h.dev];simp only[Aa]
 have j:∀{n:Nat} {a:List AG},n<=20->Lg n d r a->Lg 20 d r a:=λhn hc=>⟨hc.1,λk g hk hg=>by
  obtain⟨x,rx,x1,x2,x3⟩:=hc.2 k g hk hg
  exact⟨x,rx,x1,x2,x3.mono hn⟩⟩
 obtain⟨b,h1,d',all,r',h2,h3,h4,h5,h6⟩:=A9 (body:=λs:List AG×Int×List Block×List Vol×List Bf×Int×Int×Int×Int=>Ej most s.1 s.2.1 s.2.2.1 s.2.2.2.1 s.2.2.2.2.1 s.2.2.2.2.2.1 s.2.2.2.2.2.2.1 s.2.2.2.2.2.2.2.1 s.2.2.2.2.2.2.2.2)
  (λ(o:List AG×Device) i=>(o.1,i,o.2.Flash.Blocks,o.2.Store.Vols,o.2.Store.Arena.Knots,o.2.Store.Next,o.2.Seq,o.2.Tx,o.2.Base)) 20
  (λi o=>o.1.length<=200*i/\∃r',Jz i d r o.2 r'/\Steps d.Flash o.1 o.2.Flash/\Lg i d r o.1)
  (λb=>∃d' all r',(b= .inr (d',all)\/b= .inl (all,d'.Flash.Blocks,d'.Store.Vols,d'.Store.Arena.Knots,d'.Store.Next,d'.Seq,d'.Tx,d'.Base))/\Jz 20 d r d' r'/\all.length<=4000/\Steps d.Flash all d'.Flash/\Lg 20 d r all)
  (λo i hi hs=>by
   obtain⟨all,e⟩:=o;obtain⟨l,r',hg,c,f⟩:=hs;simp only at l hg c f;have m:Device.mk (Flash.mk e.Flash.Blocks) (Store.mk e.Store.Vols (Arena.mk e.Store.Arena.Knots) e.Store.Next) e.Seq e.Tx e.Base=e:=rfl;have p:Flash.mk e.Flash.Blocks=e.Flash:=rfl;simp only[Ej];rw[m,p];obtain⟨v,v1⟩:=Qi hg.good.dev.fl;rw[v1,Ac (by omega:(i:Int)<20)];simp only[Ap,Aa,ML]
   cases(bif decide ((i:Int)<most)then decide (v<12)else false)with
   |false=>
    exact .inr ⟨_,rfl,e,all,r',.inr rfl,hg.mono (by omega),by omega,c,j (by omega) f⟩
   |true=>
    obtain⟨steps,ok,c1,c2,_,c3⟩:=dW hg.good (λx hx=>by have:=hg.wear _ hw x hx;omega);rw[c1];simp only[Aa]
    cases ok with
    |false=>
     exact .inr ⟨_,rfl,e,all,r',.inl rfl,hg.mono (by omega),by omega,c,j (by omega) f⟩
    |true=>
     obtain⟨d',r2,k1,k2,k3⟩:=(c3 rfl).full hg.good (by omega);rw[k1,Aa,AY (by omega),ad1]
     exact .inl ⟨(all++steps,d'),rfl,by simp;omega,r2,hg.trans k3,(H3 _ _ _ _).2 ⟨_,c,k2⟩,AAE hg c f<|c3 rfl⟩)
  (λo hs=>by simp_all [Ej];grind) (s:=([],d)) ⟨by simp,r,Jz.refl h,rfl,⟨⟨_,rfl⟩,λk g hk hg=>by
   obtain⟨q,q1,q2⟩:=hg;rw[List.take_nil]at q1;rw[show q=d.Flash from q1]at q2
   rcases q2 with rfl|⟨s,s1,_⟩
   ·obtain⟨x,u1,u2,u3⟩:=(Jz.refl (n:=0) h).torn h.dev.fl rfl λ_ hh=>hh
    grind
   simp at s1⟩⟩
 rw[h1]
 rcases h2 with rfl|rfl
 ·grind
 exact⟨d',all,r',rfl,h3,h4,h5,h6⟩
theorem ABh {r:Int} (h:k<16):(Et K r)[k]?=some (RJ K r k):=by grind [Et]
theorem pH (h:Cq s) (vol:Int) (hk:k<16):∃c,L3 s vol (k:Int)=some c/\((IQ (AF s) vol=none/\c=0)\/∃a,IQ (AF s) vol=some a/\a[k]?=some c/\0<=c/\(c≠0->Dt (AF s) c)):=by
 have hl:=h.len;unfold L3
 rcases E8 s (by omega) vol with⟨e,e2⟩|⟨i,v,e,e2,e3,_⟩
 ·grind [IP]
 rw[e];simp only[Aa];have hm:=Ao e2;have hr:=h.root _<|A8.2 ⟨v,hm,rfl⟩;rw[cF,Aq,e2,Aa,aA _ (by have:=h.few;omega) h.ar hr hk];have hg:=LE h.asc hm;rw[e3]at hg;have h0:=rI h.ar hr _<|cX hk;exact⟨_,rfl,.inr ⟨_,hg,ABh hk,h0,λb=>⟨by omega,_,A8.2 ⟨v,hm,rfl⟩,cX hk⟩⟩⟩
theorem XN (h:IY d r) (vol:Int) (hk:k<16):(IQ (AF d.Store) vol=none/\EX r d.Store vol (k:Int)=some (bs [],false))\/
  ∃a c,IQ (AF d.Store) vol=some a/\a[k]?=some c/\L3 d.Store vol (k:Int)=some c/\((c=0/\EX r d.Store vol (k:Int)=some (bs [],true))\/(0<c/\Dt (AF d.Store) c/\∃u,BT r c=some u/\EX r d.Store vol (k:Int)=some (u,true))):=by
 have hl:=h.dev.st.len;obtain⟨c,c1,c2⟩:=pH h.dev.st vol hk;unfold EX;rw[c1]
 rcases E8 d.Store (by omega) vol with⟨e,e2⟩|⟨i,v,e,e2,e3,_⟩
 ·grind [IP]
 have hg:=LE h.dev.st.asc<|Ao e2;rw[e3]at hg
 rcases c2 with⟨c2,_⟩|⟨a,c2,c3,c4,c5⟩
 ·grind
 rw[e];simp only[Aa];rw[cF];right;by_cases e0:c=0
 ·grind
 rw[show(c==0)=false by simpa using e0];have b:=c5 e0;obtain⟨u,hu⟩:=h.data.data c b;obtain⟨w,ok,t1,t2⟩:=ZR h.dev.pages c
 grind
theorem dP (h:GM d r) {a:List Cn} {b:ByteArray} (hp:Ep d q=some (a,b,0)):AEh q:=by
 obtain⟨v,a1,a2⟩:=PF q
 grind [Ep]
def sH (r r':List Al) (c:Int) (a:ByteArray):Prop:=(∀y∈r',y.Page.Kind=1->(∃z∈r,z.Page.Kind=1/\z.Page.Tx=y.Page.Tx/\z.Page.Text=y.Page.Text)\/(L a≠ []/\y.Page.Tx=c/\y.Page.Text=a))/\ED r'<=ED r+1/\D1 r'<=D1 r+10
theorem ACZ (h:IY d r) {a:ByteArray} (hx:pN d r q x a):CT d [x] a=some ([],false)\/∃steps d' r',CT d [x] a=some (steps,true)/\steps.length<=10/\Hd d steps=some d'/\IY d' r'/\
  (AF d'.Store,d'.Store.Next)=(CJ (AF d.Store) d.Store.Next x).getD (AF d.Store,d.Store.Next)/\d.Store.Next<=d'.Store.Next/\d'.Store.Next<=d.Store.Next+1/\sH r r' x.Chunk a/\Zw d.Flash d'.Flash/\Steps d.Flash steps d'.Flash/\((∀c,Dt (AF d.Store) c->BT r' c=BT r c)/\(L a≠ []->BT r' x.Chunk=Z3 a))/\1<=steps.length/\∀k g,k<steps.length->Yo d.Flash steps k g->∃y ry,Cr g=some (y,true)/\y.Flash=g/\As d r y ry/\sH r ry x.Chunk a:=by
 obtain⟨x1,x2,xv,x3⟩:=hx;have h6:=h.dev.st.nx
 have i:∀z∈ [x],Gi z=true:=λz hz=>by grind
 rcases R4 h.dev.fl h.dev.seqs [x] (by simp) (by simp) i a with w|⟨steps,T,g,b,w1,w2,w3,w4,w5,w6,w7,w8,w9⟩
 ·exact .inl w
 right;have j:b=x:=by simpa using w1.symm
 subst j;have o:=(EV w7).2;have h2:(Cd (IW d a) d.Tx T).length=T.length:=by unfold Cd;grind
 have h7:(C7 d b.Chunk a).length<=1:=by grind [C7]
 rw[AD,h2]at o
 have t:L a≠ []->¬Dt (AF d.Store) b.Chunk:=λht h3=>by
  rcases x3 with⟨x3,_⟩|⟨_,x4,_⟩
  ·exact ht x3
  have:=Zb h.dev.st h3;omega
 have tk:∀k c,Dt (AF d.Store) c->BT (r++(Cp steps<|C7 d b.Chunk a++Cd (IW d a) d.Tx T).take k) c=BT r c:=λk c hc=>by grind [aT,M5,Pa,BT,C7]
 have tn:L a≠ []->BT (r++(Cp steps<|C7 d b.Chunk a++Cd (IW d a) d.Tx T).take steps.length) b.Chunk=Z3 a:=λe=>by
  rw[AP (by unfold Cp;grind),show C7 d b.Chunk a=[Page.mk 1 d.Seq b.Chunk 0 1 a] by grind [C7]]
  cases steps with
  |nil=>grind
  |cons s ss=>
   show BT (r++Al.mk s.Block s.Leaf (Page.mk 1 d.Seq b.Chunk 0 1 a)::Cp ss (Cd (IW d a) d.Tx T)) b.Chunk=_;unfold BT;rw[List.append_cons,iO _ _ (λy hy=>by have:=Pa (M5 ss _ _ y (by rw[IS];exact hy));omega),PM,Cc ⟨rfl,rfl⟩];rfl
 have fw:∀k,sH r (r++(Cp steps<|C7 d b.Chunk a++Cd (IW d a) d.Tx T).take k) b.Chunk a:=λk=>by
  have cP:∀y∈r++(Cp steps<|C7 d b.Chunk a++Cd (IW d a) d.Tx T).take k,y∈r\/y.Page∈C7 d b.Chunk a++Cd (IW d a) d.Tx T:=λy hy=>(A6.1 hy).imp id<|M5 _ _ _ y
  refine⟨λy hy hk=>?_,kD (n:=1) λy hy hk=>?_,kJ (n:=10) λy hy=>?_⟩
  ·grind [Pa,C7]
  ·rcases cP y hy with hh|hh
   ·exact YP _ hh hk
   rcases A6.1 hh with hh|hh
   ·grind [C7]
   rw[iI hh,h.dev.tx];omega
  rcases cP y hy with hh|hh
  ·exact YR _ hh
  have:=f9 hh;rw[h.dev.seq]at this;omega
 have cut:∀k g,k<steps.length->Yo d.Flash steps k g->∃y ry,Cr g=some (y,true)/\y.Flash=g/\As d r y ry/\sH r ry b.Chunk a:=λk g hk hg=>by
  obtain⟨m,y,ry,c1,c2,c3,c4,c5,hr',cw,c6,c7,c8,_⟩:=WQ h i w3 w4 w5 w6 w7 w9 t k (by omega);obtain⟨e1,e2,_⟩:=HO h.dev c4 (by rw[c8 hk]);subst hr';have h4:As d r y (r++(Cp steps<|C7 d b.Chunk a++Cd (IW d a) d.Tx T).take k):=⟨⟨c4,c6,by rw[e1];exact c7⟩,e1,e2,(fw k).2.1,by grind [YM],tk k⟩;obtain⟨q,q1,q2⟩:=hg;have:=Qh q1 c1;subst this
  rcases q2 with rfl|⟨s,s1,_,s2,s3,⟨_,s4⟩|⟨s4,_⟩⟩
  ·grind
  ·obtain⟨z,z1,z2,z3⟩:=h4.torn s2 (by rw[c5];exact s4) (by rw[c5];exact s3)
   grind
  grind [R6]
 obtain⟨m,d',r',c1,c2,c3,c4,c5,hr',cw,c6,c7,_,c9⟩:=WQ h i w3 w4 w5 w6 w7 w9 t steps.length<|A0 _;rw[<-c5]at cw;rw[IS]at c1;have u:Steps d.Flash steps d'.Flash:=by rw[c5];exact c1
 have v:sH r r' b.Chunk a:=by grind
 have tt:(∀c,Dt (AF d.Store) c->BT r' c=BT r c)/\(L a≠ []->BT r' b.Chunk=Z3 a):=by grind
 obtain⟨⟨qn,hq⟩,c10⟩:=c9 rfl;have hB:¬uC (Tx.mk d.Tx qn [b])=true:=by grind [uC]
 have f:=c4.ab;rw[hq,Tq,B9 hB,aY,<-h.dev.ab]at f;have h5:CK (AF d.Store) d.Store.Next [b]=CJ (AF d.Store) d.Store.Next b:=by rfl
 simp only[h5]at f;have h0:=Q4 h.dev c1 (by omega) c3
 cases l:CJ (AF d.Store) d.Store.Next b with
 |none=>
  rw[l]at f;have e1:AF d'.Store=AF d.Store:=Co Prod.fst f;have e2:d'.Store.Next=d.Store.Next:=Co Prod.snd f;exact⟨steps,d',r',w2,by omega,h0,⟨c4,c6,by rw[e1];exact c7⟩,by grind,by omega,by omega,v,cw,u,tt,by omega,cut⟩
 |some p=>
  obtain⟨l',nx'⟩:=p;rw[l]at f;have e1:AF d'.Store=l':=Co Prod.fst f;have e2:d'.Store.Next=nx':=Co Prod.snd f;obtain⟨v1,v2,v3⟩:=Yl l x2
  have hz:∀c,Dt l' c->c=b.Chunk->b.Kind≠4->False:=λc hc h8 hk=>by
   have:b.Chunk=0:=by grind [Gi]
   have:=hc.1;omega
  have h1:b.Chunk<=d.Store.Next:=by
   by_cases hk:b.Kind=4
   ·rcases x3 with⟨_,x4⟩|⟨_,x4,_⟩
    ·have:=Zb h.dev.st (x4 hk).1;omega
    omega
   grind [Gi]
  refine⟨steps,d',r',w2,by omega,h0,⟨c4,c6,?_⟩,by grind,by omega,by omega,v,cw,u,tt,by omega,cut⟩;rw[e1]
  rcases x3 with⟨x3,x4⟩|⟨x3,x4,x5,x6,x7⟩
  ·refine c7.mono λc hc=>?_
   grind
  exact(c10 _ x6 x5 x7).mono v1
def ACQ (d d':Device) (v:Int):Prop:=∀p∈AF d'.Store,(∃p'∈AF d.Store,p'.1=p.1)\/p.1=v
theorem qD (h:AF d'.Store=AF d.Store) (v:Int):ACQ d d' v:=λp hp=> .inl ⟨p,by grind,rfl⟩
structure LL (c:BA):Prop where
 i0:0<=c.i_
 i1:c.i_<=(c.b_.length:Int)
 len:c.b_.length<=1048576
theorem ACD (a:Int):0<=ban .i64 a 255/\ban .i64 a 255<=255:=by
 unfold ban;have h:(BitVec.ofInt IntKind.i64.bits a&&&BitVec.ofInt IntKind.i64.bits 255).toNat<=255:=by
  refine Jw Nat.and_le_right ?_;exact Nat.le_of_eq rfl
 grind [O8]
theorem dY (h:LL c):∃v c',JP c=some (v,c')/\LL c'/\0<=v/\v<=255:=by
 have:=h.i0;have:=h.i1;have:=h.len;unfold JP;by_cases e:c.i_<ln c.b_
 ·rw[Ac e,Ap,Le h.i0<|by grind [Bc]];rw[Bc]at e;rw[Aa,Ch (a:=c.i_) (by omega)<|by omega];exact⟨_,_,rfl,⟨by grind,by grind,h.len⟩,ACD _⟩
 rw[Ai e,Ad];exact⟨_,_,rfl,⟨h.i0,h.i1,h.len⟩,ACD _⟩
theorem AFN {a n:Int} (h0:0<=a) (hn:0<n):∃v,rm .i64 a n=some v/\0<=v/\v<n:=by
 unfold rm;rw[B9 (by omega),Int.tmod_eq_emod_of_nonneg h0];exact⟨_,rfl,Int.emod_nonneg _ (by omega),Int.emod_lt_of_pos _ hn⟩
theorem Ul (h:LL c) (n:Int):∃v c',D8 c n=some (v,c')/\LL c'/\0<=v/\(0<n->v<n):=by
 unfold D8;by_cases h0:n<=0
 ·simp_all;grind
 by_cases h1:n<=256
 ·grind [dY,AFN]
 rw[Ai h1,Ad];obtain⟨v1,c1,a1,a2,a3,a4⟩:=dY h;obtain⟨v2,c2,b1,b2,b3,b4⟩:=dY a2;obtain⟨v3,c3,d1,d2,d3,d4⟩:=dY b2;obtain⟨v4,c4,e1,e2,e3,e4⟩:=dY d2;rw[a1,Aa,b1,Aa,d1,Aa,e1,Aa,PP (by omega) (by omega),PP (by omega) (by omega),PP (by omega) (by omega),Ch (a:=v1*16777216) (b:=v2*65536) (by omega) (by omega),Ch (a:=v1*16777216+v2*65536) (b:=v3*256) (by omega) (by omega),Ch (a:=v1*16777216+v2*65536+v3*256) (b:=v4) (by omega)<|by omega];obtain⟨w,w1,w2,w3⟩:=AFN (a:=v1*16777216+v2*65536+v3*256+v4) (n:=n) (by omega)<|by omega
 grind
theorem Uk (h:LL c) (hn:0<n):∃(v:Nat) (c':BA),D8 c (n:Int)=some ((v:Int),c')/\LL c'/\v<n:=by
 obtain⟨v,c',k1,k2,k3,k4⟩:=Ul h (n:Int);exact⟨v.toNat,c',by grind,k2,by omega⟩
theorem jX {l:List Int} (h:LL c) (hl:0<l.length):∃v c',I8 c l=some (v,c')/\LL c'/\v∈l:=by
 unfold I8
 grind [Uk,Bc,Aq]
theorem AFq {l:List ByteArray} (h:LL c) (hl:0<l.length):∃v c',Tw c l=some (v,c')/\LL c'/\v∈l:=by
 unfold Tw;obtain⟨v,c',k1,k2,k3⟩:=Uk h hl;simp_all [Bc,Aq];grind
theorem nT (h:LL c) (n:Int):∃v c',G5 c n=some (v,c')/\LL c':=by
 unfold G5;obtain⟨v,c',k1,k2,_⟩:=Ul h n;rw[k1];exact⟨_,_,rfl,k2⟩
theorem R0 (h:LL c):LL (BA.mk c.b_ c.i_ c.h_):=h
theorem AGj {code:List Int} (h:code.length<=1048576):∃c,VU code=some c/\LL c:=by
 unfold VU;obtain⟨b,h1,_⟩:=A9 (body:=λs:Int×Int=>Mp code s.1 s.2) (λ(o:Int) i=>(o,i)) code.length (λ_ _=>True) (λ_=>True)
  (λo i hi _=>by
   have hx:=Ab hi;simp only[Mp,Fl,Ac hi,Ap,Aa,Aq,hx];rw[ad1 (i:=i)<|by omega]
   cases decide ((i:Int)<4000)with
   |true=>grind
   |false=>grind)
  (λo _=>⟨o,by grind [Fl,Mp],trivial⟩) (s:=ad 36501<|ln code) trivial
 rw[h1];exact⟨_,rfl,⟨La _,by grind,h⟩⟩
def ten:List ByteArray:=[bs [],bs [97],bs [98,98],bs [97,98,99,100,97,98,99,100,97,98,99,100],bs [104,101,108,108,111],bs [104,101,108,108,111,32,104,101,108,108,111,32,104,101,108,108,111],bs [122,122,122,122,122,122,122,122,122,122,122,122],bs [113,49],bs [113,50],bs [113,51]]
theorem AFk (h:LL c):∃v c',Tt c=some (v,c')/\LL c'/\v∈ten:=by
 unfold Tt;obtain⟨v,c',k1,k2,k3⟩:=AFq h (l:=ten)<|by simp[ten]
 grind [ten]
structure ACS (q:Ask):Prop where
 kind:1<=q.Kind/\q.Kind<=6
 vol:1<=q.Vol/\q.Vol<=3
 rest:(q.Kind=1/\q.Text∈ten/\(0<=q.Sector/\q.Sector<=15)/\q.Of=0)\/(q.Kind≠1/\L q.Text=[]/\(((q.Kind=2\/q.Kind=6)/\(0<=q.Sector/\q.Sector<=15)/\q.Of=0)\/(q.Sector=0/\((q.Kind=4/\1<=q.Of/\q.Of<=9)\/((q.Kind=3\/q.Kind=5)/\q.Of=0)))))
theorem AFs (h:LL c) (d:Device) (hv:d.Store.Vols.length<=3) (o:∀v∈d.Store.Vols,1<=v.Id/\v.Id<=3):∃q c',Tu c d=some (q,c')/\LL c'/\ACS q:=by
  unfold Tu;obtain⟨k,c1,a1,a2,a3⟩:=jX h (l:=[1,1,1,1,1,1,2,3,4,5,6]) (by simp);rw[a1];simp only[Aa];obtain⟨v2,c2,b1,b2,b3,b4⟩:=Ul a2 3;have g:1<=k/\k<=6:=by simp at a3;omega
  have r:ad 1 v2=1+v2:=Ch (by omega) (by omega);rw[b1];simp only[Aa]
  have J1:∃x y c3,(cond ((ln d.Store.Vols)==0) (some (3,ad 1 v2,c2.b_,c2.i_,c2.h_)) ((cond (k !=3) (cond (k !=4) ((G5 c2 8).bind λv3=>
 some (!v3.1,v3.2.b_,v3.2.i_,v3.2.h_))<|some (false,c2.b_,c2.i_,c2.h_)) (some (false,c2.b_,c2.i_,c2.h_)):Option (Bool×List Int×Int×Int)).bind λj2=>
 cond j2.1 ((D8 (BA.mk j2.2.1 j2.2.2.1 j2.2.2.2)<|ln d.Store.Vols).bind λv4=>
 (gi d.Store.Vols v4.1).bind λx1=>
 some (k,x1.Id,v4.2.b_,v4.2.i_,v4.2.h_)) (some (k,ad 1 v2,j2.2.1,j2.2.2.1,j2.2.2.2))):Option (Int×Int×List Int×Int×Int))=some (x,y,BA.b_ c3,c3.i_,c3.h_)/\LL c3/\(1<=x/\x<=6)/\1<=y/\y<=3:=by
   cases hz:(ln d.Store.Vols==0)with
   |true=>exact⟨_,_,c2,rfl,b2,by omega,by omega,by omega⟩
   |false=>
    have j:0<d.Store.Vols.length:=by grind [Bc]
    have J2:∃b c3,(cond (k !=3) (cond (k !=4) ((G5 c2 8).bind λv3=>some (!v3.1,v3.2.b_,v3.2.i_,v3.2.h_))<|some (false,c2.b_,c2.i_,c2.h_)) (some (false,c2.b_,c2.i_,c2.h_)):Option (Bool×List Int×Int×Int))=some (b,BA.b_ c3,c3.i_,c3.h_)/\LL c3:=by
     cases(k !=3)with
     |false=>grind
     |true=>
      cases(k !=4)with
      |false=>grind
      |true=>
       obtain⟨v3,c3,d1,d2⟩:=nT b2 8;rw[d1];exact⟨_,c3,rfl,d2⟩
    obtain⟨b,c3,e1,e2⟩:=J2;rw[e1];simp only[Aa]
    cases b with
    |false=>exact⟨_,_,c3,rfl,e2,g,by omega,by omega⟩
    |true=>
     obtain⟨v4,c4,f1,f2,f3⟩:=Uk (R0 e2) j;rw[Bc,f1,Aa,Aq,Ab f3];exact⟨_,_,c4,rfl,f2,g,o _<|Av f3⟩
  obtain⟨x,y,c3,j1,j1c,jx,jy⟩:=J1;rw[j1];simp only[Aa];have J3:∃b c4,(cond (x==5) ((G5 (BA.mk c3.b_ c3.i_ c3.h_) 3).bind λv8=>some (!v8.1,v8.2.b_,v8.2.i_,v8.2.h_)) (some (false,c3.b_,c3.i_,c3.h_)):Option (Bool×List Int×Int×Int))=some (b,BA.b_ c4,c4.i_,c4.h_)/\LL c4:=by
   cases(x==5)with
   |false=>grind
   |true=>
    obtain⟨v8,c4,d1,d2⟩:=nT (R0 j1c) 3;rw[d1];exact⟨_,c4,rfl,d2⟩
  obtain⟨b,c4,j3,j3c⟩:=J3;rw[j3];simp only[Aa,ML];have a:1<=(bif b then(1:Int)else x)/\(bif b then(1:Int)else x)<=6:=by grind
  generalize (bif b then(1:Int)else x)=j4 at a
  cases m:(j4==1)with
  |true=>
   obtain⟨t,c5,t1,t2,t3⟩:=AFk<|R0 j3c;rw[t1];simp only[Aa];obtain⟨v10,c6,u1,u2,u3,u4⟩:=Ul t2 16;rw[u1];have hj:=HE.1 m;exact⟨_,_,rfl,u2,⟨a,jy,.inl ⟨hj,t3,by grind,rfl⟩⟩⟩
  |false=>
   have e:j4≠1:=by simpa using m
   have p:(cond (j4==2) (j4==2)<|j4==6)=decide (j4=2\/j4=6):=by grind
   rw[p];by_cases f:j4=2\/j4=6
   ·rw[Ac f];obtain⟨v11,c6,u1,u2,u3,u4⟩:=Ul (R0 j3c) 16;rw[u1];exact⟨_,_,rfl,u2,⟨a,jy,.inr ⟨e,DO _,.inl ⟨f,by grind,rfl⟩⟩⟩⟩
   rw[Ai f]
   cases n:(j4==4)with
   |true=>
    obtain⟨v12,c6,u1,u2,u3,u4⟩:=Ul (R0 j3c) 3;have h44:=HE.1 n;rw[u1]
    cases s:d.Store.Vols with
    |nil=>
     exact⟨_,_,rfl,u2,⟨a,jy,.inr ⟨e,DO _,.inr ⟨rfl,.inl ⟨h44,by grind [Ch]⟩⟩⟩⟩⟩
    |cons v vs=>
     rw[Ac (by grind [Bc]:ln (v::vs)>0),show gi (v::vs) 0=some v from Aq (i:=0)];exact⟨_,_,rfl,u2,⟨a,jy,.inr ⟨e,DO _,.inr ⟨rfl,.inl ⟨h44,by grind⟩⟩⟩⟩⟩
   |false=>
    exact⟨_,_,rfl,R0 j3c,⟨a,jy,.inr ⟨e,DO _,.inr ⟨rfl,.inr ⟨by grind,rfl⟩⟩⟩⟩⟩
theorem rO (h:3<=n/\n<=10):Bg (Flash.mk (List.replicate n (Block.mk false 0 JG))):=by
 refine⟨by simpa using h,λb hb=>?_⟩
 grind [rP]
theorem Wb (h:3<=n/\n<=10):Lw (n:Int)=some (Flash.mk (List.replicate n (Block.mk false 0 JG)),true):=by
 unfold Lw;rw[Dj,Ac<|by omega];simp only[Aa,An,Ad];have q:=uA (body:=λs:Int×List Block=>Gh (n:Int) s.1 s.2) n (λ_=>Block.mk false 0 JG)
  (λi a hi ho=>by grind [T8,AY,ad1,Gh])
  (λa=>by grind [Gh])
 rw[q,Aa,Nd,FJ]
theorem iG:∀(n:Nat) (i:Int),K7 i (List.replicate n (Block.mk false 0 JG))=[]
 |0,i=>rfl
 |n+1,i=>by
  rw[List.replicate_succ,K7,iG n (i+1),Wn i 0 _ (λy hy=>by rw[DG hy];simp)];rfl
theorem Y7 (h:3<=n/\n<=10):∃d,Ib (n:Int)=some (d,true)/\IY d []/\AF d.Store=[]/\d.Store.Next=1/\d.Flash=Flash.mk (List.replicate n (Block.mk false 0 JG)):=by
 have hP:=rO h;have b:SR (K7 0 (Flash.mk<|List.replicate n<|Block.mk false 0 JG).Blocks) []:=by
  rw[iG];exact⟨List.Pairwise.nil,λ_=>rfl⟩
 obtain⟨d,u1,u2,u3⟩:=MJ hP b;have a:=u2.ab;have:Ol (C9<|AT [])=([],1):=rfl;rw[this]at a
 injection a with e1 e2
 refine⟨d,?_,⟨u2,⟨⟨by simp,by simp,by simp,by simp,by simp,by simp⟩,List.Pairwise.nil,⟨λy hy=>by cases hy⟩⟩,?_⟩,e1,e2,u3⟩
 ·grind [Wb,Ib]
 rw[e1];refine⟨λc hc=>?_,λc c' hc=>?_⟩
 ·obtain⟨_,p,hp,_⟩:=hc;cases hp
 obtain⟨_,p,hp,_⟩:=hc;cases hp
theorem ACS.text (h:ACS q):q.Text∈ten:=by
 rcases h.rest with⟨_,h2,_⟩|⟨_,h2,_⟩
 ·exact h2
 grind [Jy,DO,ten]
theorem kM (a b:List ByteArray) (h:a.length<=1048576):dG (HP a b) a b:=
 rA (λx y=>some<|seq x y) a b (by omega) (λx _ y _=>zD x y) (λ_=>rfl) rfl
def Qv (a:List Shelf):Prop:=a.length<=1048576/\∀x∈a,x.Texts.length<=1048576
theorem ZU (a b:List Shelf) (h:Qv a):dG (OS a b) a b:=by
 have c:=h.1;refine rA (λx y=>bif x.Vol !=y.Vol then some false else HP x.Texts y.Texts) a b (by omega) (λx hx y _=>?_) (body:=λi=>bif decide (i<ln a)then((gi a i).bind λx=>(gi b i).bind λy=>(bif x.Vol !=y.Vol then some false else HP x.Texts y.Texts).bind λv=>bif !v then some (.inr<|.inr false)else some<|.inl<|ad i 1)else some<|.inr<|.inl ()) (λ_=>rfl) ?_
 ·obtain⟨v,h1,h2⟩:=kM x.Texts y.Texts<|h.2 x hx;rw[h1]
  cases x with
  |mk av at_=>
  cases y with
  |mk bv bt=>
  by_cases hv:av=bv
  ·subst hv;exact⟨v,by simp,by simpa using h2⟩
  have:(av !=bv)=true:=by simpa using hv
  simp only[this];exact⟨false,rfl,by simp[hv]⟩
 unfold OS;congr 2;congr 1;funext i;unfold Oa
 cases hi:decide (i<ln a)with
 |false=>rfl
 |true=>
  cases ha:gi a i with
  |none=>rfl
  |some x=>
   cases hb:gi b i with
   |none=>rfl
   |some y=>simp_all;grind
theorem bQ (a b:List Shelf) (h:Qv a):dG (MA a b) a b:=by
 have g:=h.1;by_cases hl:a.length=b.length
 ·have e:(ln a !=ln b)=false:=by simp[ln,hl]
  have j:∀(i:Nat) (x y:Shelf),a[i]?=some x->b[i]?=some y->x.Texts.length=y.Texts.length->x.Texts.length<=1048576->
    Ah (λs:Int=>GI a b (i:Int) x s) 0=some (bif(x.Texts.zip y.Texts).all (λz=>seq z.1 z.2)then .inl ()else .inr<|.inr<|.inr false):=by
   intro i x y hx hy f hM;have:=On (body:=λs:Int=>GI a b (i:Int) x s) (λ(_:Unit) i=>i) (x.Texts.zip y.Texts) (λ_ _ z=>bif seq z.1 z.2 then .inl ()else .inr<|.inr<|.inr<|.inr false) (λ_=> .inl ()) (λ_ _=>True)
    (λs k z hz _=>by
     refine⟨?_,λ_ _=>trivial⟩;obtain⟨z1,z2⟩:=z;obtain⟨c,hz'⟩:=Ae.1 hz;rw[List.getElem_zip]at hz'
     injection hz' with e1 e2
     have k1:k<x.Texts.length:=by simp at c;omega
     have k2:k<y.Texts.length:=by simp at c;omega
     simp only[GI,Fl,Ac k1,Ap,Aq,hx,hy,Aa,Ab k1,Ab k2,e1,e2]
     grind [ad1])
    (λs _=>by
     have:(x.Texts.zip y.Texts).length=x.Texts.length:=by simp[f]
     rw[this]
     simp[CQ,GI]) (s:=()) trivial
   rw[this];have d:∀(m:List (ByteArray×ByteArray)) (i:Nat),Po (λ(_:Unit) _ z=>bif seq z.1 z.2 then .inl ()else .inr<|.inr<|.inr<|.inr false) (λ_=>(.inl ():Unit⊕Int⊕Unit⊕Bool)) m i ()=bif m.all (λz=>seq z.1 z.2)then .inl ()else .inr (.inr<|.inr false):=by
    intro m
    induction m with
    |nil=>intro i;rfl
    |cons z m ih=>grind [Po]
   rw[d]
  have hp:∀(x y:Shelf),(bif x.Vol !=y.Vol then false else bif x.Texts.length !=y.Texts.length then false else(x.Texts.zip y.Texts).all λz=>seq z.1 z.2)=true↔x=y:=by
   intro x y
   cases x with
   |mk av at_=>
   cases y with
   |mk bv bt=>
   by_cases hv:av=bv
   ·subst hv;by_cases hl:at_.length=bt.length
    ·simp only[H6,Ad,hl,Shelf.mk.injEq,true_and];exact Vz (p:=seq) (λx _ y _=>by rw[IV,Bm]) hl
    grind
   grind
  have:=Zj (body:=λs:Int=>Iv a b s) a b (λx y=>bif x.Vol !=y.Vol then false else bif x.Texts.length !=y.Texts.length then false else(x.Texts.zip y.Texts).all λz=>seq z.1 z.2) hl (by omega)
   (λi x y hx hy=>by
    have c:=(Ae.1 hx).1;have hz:=h.2 x<|Ao hx;simp only[Iv,Do c,Aq,hx,hy,Aa]
    grind [ad1,ln])
   (by simp[CQ,Iv])
  refine⟨(a.zip b).all λz=>bif z.1.Vol !=z.2.Vol then false else bif z.1.Texts.length !=z.2.Texts.length then false else(z.1.Texts.zip z.2.Texts).all λz=>seq z.1 z.2,?_,Vz (p:=λx y=>bif x.Vol !=y.Vol then false else bif x.Texts.length !=y.Texts.length then false else(x.Texts.zip y.Texts).all λz=>seq z.1 z.2) (λx _ y _=>hp x y) hl⟩
  grind [MA]
 have e:(ln a !=ln b)=true:=by simp[ln];omega
 unfold MA;rw[e,Ap];exact⟨false,rfl,by grind⟩
theorem jW (d:Device) (h:fU d.Flash r) (hs:HH d.Store<=1048576) (id:Int) (k:Nat) (hk:k<16):∃u ok,EX r d.Store id (k:Int)=some (u,ok)/\PW d id (k:Int)=some (u,ok):=by
 unfold HH WP at hs;have hl:=UG (z:=XD) (l:=d.Store.Arena.Knots);have ha:MT d.Store.Arena:=by unfold MT;omega
 unfold EX PW;obtain⟨v,h1,h2,h3⟩:=V6 d.Store id (by omega);rw[h1,h2];simp only[Aa]
 cases decide (v<0)with
 |true=>grind
 |false=>
  obtain⟨c,c1,c2⟩:=wA d.Store (by omega) ha id k hk;rw[c1,c2];simp only[Aa]
  cases c==0 with
  |true=>grind
  |false=>
   obtain⟨u,ok,t1,t2⟩:=R9 h c
   grind
theorem XC (d:Device) (hz:Ko d<=1048576):∃m,DH d=some m/\FI d=some m:=by
 unfold Ko at hz;obtain⟨r,hr⟩:=Zr d.Flash (by omega);have hs:HH d.Store<=1048576:=by omega
 have hv:d.Store.Vols.length<=1048576:=by grind [HH]
 unfold DH FI;rw[hr.s];obtain⟨m,h1,h2,_⟩:=K9 (body:=λs:List Shelf×Int=>CN d r s.1 s.2) (body':=λs:List Shelf×Int=>Fp d s.1 s.2) (λ(o:List Shelf) i=>(o,i)) (λ(o:List Shelf) i=>(o,i)) d.Store.Vols.length (λi o=>o.length=i) (λ_=>True)
  (λo i hi ho=>by
   have hg:d.Store.Vols[i]?=some d.Store.Vols[i]:=Ab hi;simp only[CN,Fp,Fl,Ac hi,Ap,Aq,hg,Aa];obtain⟨l,q1,q2,q3⟩:=K9 (body:=λs:Int×List ByteArray=>DX d r d.Store.Vols[i] s.1 s.2) (body':=λs:Int×List ByteArray=>Hk d d.Store.Vols[i] s.1 s.2) (λ(o:List ByteArray) k=>(k,o)) (λ(o:List ByteArray) k=>(k,o)) 16 (λk o=>o.length=k) (λ_=>True)
    (λu k hk hu=>by
     obtain⟨t,ok,g1,g2⟩:=jW d hr hs d.Store.Vols[i].Id k hk
     grind [AY,ad1,DX,Hk])
    (λu hu=>⟨u,by rfl,by rfl,trivial⟩) (s:=[]) rfl
   grind [AY,ad1])
  (λo ho=>⟨o,by grind [Fl,CN],by grind [Fl,Fp],trivial⟩) (s:=[]) rfl
 grind
theorem AAI (h:Cq s):HH s<=1048576:=by
 have h1:=h.len;have h2:=h.small;have a:∀l:List Bf,(∀k∈l,k.Kids.length=4)->(l.map XD).sum=4*l.length:=by
  intro l
  induction l with
  |nil=>intro _;rfl
  |cons k l ih=>grind [XD]
 have:=a s.Arena.Knots (λk hk=>by
  obtain⟨i,hi,rfl⟩:=Ay hk;have:=(Gn.1 h.ar i hi).1
  grind [PR])
 unfold HH WP zl;omega
theorem uI (h:IY d r) (vol:Int) (hk:k<16):PW d vol (k:Int)=EX r d.Store vol (k:Int):=by
 obtain⟨u,ok,h1,h2⟩:=jW d h.dev.scan (AAI h.dev.st) vol k hk;rw[h1,h2]
theorem AC6:∀t∈ten,(L t).length<=64:=by simp[DO,ten]
theorem AEi (h:ACS q):He q=some true:=by
 obtain⟨h1,h2,h3⟩:=h;have hl:(L q.Text).length<=64:=AC6 _<|ACS.text ⟨h1,h2,h3⟩;unfold He;rw[Dj,Dj,Bu,Ac h1,Ac (by omega:1<=q.Vol/\q.Vol<=9),Ai (by omega:¬((L q.Text).length:Int)>64)]
 rcases h3 with⟨k1,_,k3,k4⟩|⟨k1,k2,k3⟩
 ·simp_all [Dj]
 have a:seq q.Text (bs [])=true:=by grind [IV,Jy,DO]
 simp_all [BB];grind
theorem bU (h:Cq s) {live:List Int} (hl:EF s=some live):Jq s=some live:=by
 obtain⟨l,e1,e2,_,_⟩:=Qj s (by have:=h.len;omega)<|nE h
 grind
theorem sE (h:GM d r) {live:List Int} (hl:EF d.Store=some live) (l2:asc live) (l4:live.length<=16777216) (a b:Int):ZY d.Flash d.Store a b=some ((cn r.length (λj=>(Cv r live a)[j]?.getD false&&bk r b j):Nat):Int)/\Hj d.Flash d.Store a b=some ((cn r.length (λj=>(Cv r live a)[j]?.getD false&&bk r b j):Nat):Int):=by
 obtain⟨n,n1,n2⟩:=Y5 h.scan d.Store (bU h.st hl) l2 l4 a b;have c:=aO r (Cv r live a) b h.scan.len<|JW _ _ _;have e:Cv r live a=live.foldl (e8 r) (r.map<|Dz a):=rfl;rw[e]at c;rw[n1]at c;unfold ZY;rw[h.scan.s,hl];simp only[Aa];rw[Nq r live _ h.scan.len l4]
 grind
theorem ADS (h:GM d r) (hy:y∈r):Jj y.Page:=by
 obtain⟨b,x,g1,g2,_,g3⟩:=h.scan.page y hy;obtain⟨_,k1⟩:=Cm g1;obtain⟨_,k2⟩:=Cm g2;have hx:=h.fl.text b (Ao k1) x<|Ao k2;obtain⟨p,ok,m1,_,_,m2⟩:=I3 x.Text (by omega);rw[g3]at m1
 injection m1 with m1
 obtain⟨v,q1,q2⟩:=UR p
 grind
theorem AGw (hc:JF g) (ss:List AG) (hs:ss.length<=1000) (p:Page) (b:Int):
  (∃s g',Dw g ss p=some (g',ss++ [s],true)/\JF g'/\CA (FN.mk g ss) p b=some (if(s.Block==b)=true then(false,FN.mk g ss)else(true,FN.mk g' (ss++ [s]))))\/
  (∃g' st,Dw g ss p=some (g',st,false)/\∃w,CA (FN.mk g ss) p b=some (false,w)):=by
 obtain⟨t,ok,t1,t2⟩:=Y2 p;obtain⟨bb,l,room,p1,p2,p3⟩:=dQ g hc;unfold Dw CA;rw[t1,t2,p1,p2]
 cases ok with
 |false=>simp
 |true=>
  cases room with
  |false=>simp
  |true=>
   obtain⟨g2,v,g1,g3,g4⟩:=Uj g (AG.mk 1 bb l t) hc;have a:JF g2:=by grind [V3.cap]
   simp only[An,Ad,Aa,g1,g3];rw[AY<|by grind]
   cases v with
   |true=>
    refine .inl ⟨AG.mk 1 bb l t,g2,rfl,a,?_⟩
    cases hb:(bb==b)with
    |true=>rfl
    |false=>rfl
   |false=>
    refine .inr ⟨g2,_,rfl,?_⟩
    cases hb:(bb==b)with
    |true=>grind
    |false=>simp
abbrev MvS:=Int×List AG×List Block
def e7 (sq:Int) (y:Al):Page:=Page.mk 1 sq y.Page.Tx 0 1 y.Page.Text
noncomputable def mv (b:Int):List Al->MvS->Option (Option MvS)
 |[],o=>some (some o)
 |y::ys,o=>(Dw (Flash.mk o.2.2) o.2.1 (e7 o.1 y)).bind λv=>if v.2.2=true then(match v.2.1.getLast? with
  |some s=>if(s.Block==b)=true then some none else mv b ys (o.1+1,v.2.1,v.1.Blocks)
  |none=>some none)else some none
theorem ABP (b:Int):∀(xs ys:List Al) (o:MvS),mv b (xs++ys) o=(mv b xs o).bind λq=>match q with
  |some o'=>mv b ys o'
  |none=>some none
 |[],ys,o=>rfl
 |x::xs,ys,o=>by
  simp only[Ct,mv]
  cases Dw (Flash.mk o.2.2) o.2.1 (e7 o.1 x)with
  |none=>rfl
  |some v=>
   simp only[Aa];split
   ·split
    ·split
     ·rfl
     exact ABP b xs ys _
    rfl
   rfl
def MvI (m:Nat) (o:MvS):Prop:=JF (Flash.mk o.2.2)/\o.2.1.length<=m/\0<=o.1/\o.1<=1000000001+m
theorem tW {o:MvS} (h:MvI m o) (hm:m<=1000):
  (∃s g',Dw (Flash.mk o.2.2) o.2.1 (e7 o.1 y)=some (g',o.2.1++ [s],true)/\(s.Block==b)=false/\(∀ys,mv b (y::ys) o=mv b ys (o.1+1,o.2.1++ [s],g'.Blocks))/\MvI (m+1) (o.1+1,o.2.1++ [s],g'.Blocks)/\CA (FN.mk (Flash.mk o.2.2) o.2.1) (e7 o.1 y) b=some (true,FN.mk g' (o.2.1++ [s])))\/
  ((∀ys,mv b (y::ys) o=some none)/\(∃w,CA (FN.mk (Flash.mk o.2.2) o.2.1) (e7 o.1 y) b=some (false,w))/\((∃s g',Dw (Flash.mk o.2.2) o.2.1 (e7 o.1 y)=some (g',o.2.1++ [s],true)/\(s.Block==b)=true)\/∃g' st,Dw (Flash.mk o.2.2) o.2.1 (e7 o.1 y)=some (g',st,false))):=by
 obtain⟨h1,h2,h3,h4⟩:=h
 rcases AGw h1 o.2.1 (by omega) (e7 o.1 y) b with⟨s,g',a1,a2,a3⟩|⟨g',st,a1,w,a2⟩
 ·cases hb:(s.Block==b)with
  |true=>grind [mv]
  |false=>
   rw[hb]at a3;refine .inl ⟨s,g',a1,hb,λys=>by grind [mv],⟨a2,?_,?_,?_⟩,by rw[a3];rfl⟩
   ·grind
   ·omega
   omega
 grind [mv]
theorem ABO:∀(xs:List Al) {m:Nat} {o:MvS},MvI m o->m+xs.length<=1000->∃v,mv b xs o=some v/\∀o',v=some o'->MvI (m+xs.length) o'
 |[],m,o,h,_=>⟨some o,rfl,λo' e=>by grind⟩
 |x::xs,m,o,h,hm=>by
  rw[AX]at hm
  rcases tW (b:=b) (y:=x) h (by omega)with⟨s,g',a1,a2,a3,a4,a5⟩|⟨a1,_⟩
  ·obtain⟨v,v1,v2⟩:=ABO xs a4 (by omega);exact⟨v,by rw[a3,v1],λo' e=>by grind⟩
  simp_all
def Ll (b i:Int) (nd:List Bool) (r:List Al):List Al:=((nd.zip r).filter λq=>q.1&&(q.2.Block==b)&&(q.2.Leaf==i)).map Prod.snd
theorem wP (hr:r.length<=40) (hk:∀y∈r,y.Page.Kind=1->y.Page.Count=1/\y.Page.Part=0) (d:nd.length=r.length) (hn:∀(j:Nat) y,r[j]?=some y->nd[j]?=some true->y.Page.Kind=1) (b i:Int):∀(n j:Nat),j+n=r.length->∀{m:Nat} {o:MvS},MvI m o->m+n<=1000->
  Ah (λs:List AG×Int×Int×List Block=>Es b r nd i s.1 s.2.1 s.2.2.1 s.2.2.2) (o.2.1,o.1,(j:Int),o.2.2)=(mv b (Ll b i (nd.drop j) (r.drop j)) o).map λq=>match q with
   |some o'=> .inl (o'.2.1,o'.1,o'.2.2)
   |none=> .inr (.inr (.inr ([],false)))
 |0,j,hj,m,o,ho,hm=>by
  rw[Aw];simp only[Es,Fl];rw[cF,List.drop_of_length_le (by omega),List.drop_of_length_le (by omega)];rfl
 |n+1,j,hj,m,o,ho,hm=>by
  have a:j<r.length:=by omega
  have hx:=Ab a;have c:=Ab (show j<nd.length by omega);have hd:nd.drop j=nd[j]::nd.drop (j+1):=AB (by omega);have e:r.drop j=r[j]::r.drop (j+1):=AB a
  have go:∀{m':Nat} {o':MvS},MvI m' o'->m'+n<=1000->_:=λ{m' o'} h1 h2=>wP hr hk d hn b i n (j+1) (by omega) (m:=m') (o:=o') h1 h2
  rw[Aw];simp only[Es,Do a,Aq,hx,c,Aa];rw[ad1,hd,e];have es:Ll b i (nd[j]::nd.drop (j+1)) (r[j]::r.drop (j+1))=if(nd[j]&&(r[j].Block==b)&&(r[j].Leaf==i))=true then r[j]::Ll b i (nd.drop<|j+1) (r.drop<|j+1)else Ll b i (nd.drop<|j+1) (r.drop<|j+1):=by grind [List.zip_cons_cons,Ll]
  rw[es]
  cases f:nd[j]with
  |false=>
   exact go ho<|by omega
  |true=>
   cases hb:(r[j].Block==b)with
   |false=>
    simp only[bne,hb,CC,Ap,Aa,Bool.false_and,N2,uE];exact go ho<|by omega
   |true=>
    simp only[bne,hb,An,Ad,Aa,Bool.true_and]
    cases g:(r[j].Leaf==i)with
    |false=>
     exact go ho<|by omega
    |true=>
     simp only[An,Ad,C4];have h1:=hn j r[j] hx (by rw[c,f]);obtain⟨h2,h3⟩:=hk r[j] (Av a) h1;have ep:Page.mk r[j].Page.Kind o.1 r[j].Page.Tx r[j].Page.Part r[j].Page.Count r[j].Page.Text=e7 o.1 r[j]:=by rw[h1,h2,h3];rfl
     rw[ep];obtain⟨c1,c2,c3,c4⟩:=ho
     rcases tW (b:=b) (y:=r[j]) ⟨c1,c2,c3,c4⟩ (by omega)with⟨s,g',a1,a2,a3,a4,_⟩|⟨a1,_,⟨s,g',a2,a3⟩|⟨g',st,a2⟩⟩
     ·rw[a1,a3];simp only[Aa,An,Ad];rw[Bc,AD,CY,BV,show((o.2.1.length+1:Nat):Int)-1=(o.2.1.length:Int) by omega,EU];simp only[Aa,a2,Ad];rw[Ch];exact go a4<|by omega
     ·grind [Bc,BV,EU]
     grind
theorem Zu (k:IntKind) (n:Nat) (h:n<=12) (hk:k= .u8\/k= .u64):k.wrap (n:Int)=(n:Int):=by
 have:n=0\/n=1\/n=2\/n=3\/n=4\/n=5\/n=6\/n=7\/n=8\/n=9\/n=10\/n=11\/n=12:=by omega
 rcases hk with rfl|rfl<;>rcases this with rfl|rfl|rfl|rfl|rfl|rfl|rfl|rfl|rfl|rfl|rfl|rfl|rfl<;>rfl
set_option maxRecDepth 20000 in
theorem fR (n:Nat) (h:n<=12):∃v,Xk (IntKind.u64.wrap (n:Int))=some v:=by
 rw[Zu _ n h<|.inr rfl];unfold Xk bA;generalize hT:(bs _)=T;have a:13<=(L T).length:=by rw[<-hT,DO];decide
 rw[cF,Aa,cF,Aa,cF,Aa,Zu _ n h<|.inl rfl,EI (i:=n) _<|by omega];exact⟨_,rfl⟩
theorem gQ {γ:Type} (a:γ->Int) (l:List γ) (hl:l.length<=12):∃r,Lj (NC a) l=some r/\srt a r/\BC a l r:=by
 obtain⟨v,hv⟩:=fR l.length hl;obtain⟨r,h1,h2,h3⟩:=IH a [] l [] (by simp;omega);unfold Lj
 grind [Bc,Aw,BV,E0,FP]
def nD (l:List Al):Prop:=l.Pairwise λx y=>x.Page.Tx≠y.Page.Tx
theorem cI {l:List Al} {p:Al->Bool} (hl:nD l) (hu:∀x∈l,∀y∈l,p x=true->p y=true->x=y) (hy:y∈l) (hp:p y=true):l.filter p=[y]:=by
 induction l with
 |nil=>cases hy
 |cons x l ih=>
  have h1:=Cj.1 hl
  have hu':∀a∈l,∀c∈l,p a=true->p c=true->a=c:=λa ha c hc=>hu a (KZ _ ha) c<|KZ _ hc
  cases hx:p x with
  |true=>grind [BI]
  |false=>
   rw[List.filter_cons_of_neg<|by simp[hx]]
   rcases Gx.1 hy with rfl|hy
   ·grind
   exact ih h1.2 hu' hy
theorem AA9 {c:List Al} (ha:nD a) (hc:nD c) (hm:∀y,y∈a↔y∈c) (hu:∀x∈a,∀y∈a,x.Leaf=y.Leaf->x=y):BC Bx a c:=by
 intro k
 have e1:∀x,(Bx x==k)=true↔x.Leaf=k:=λx=>by rw[HE];rfl
 by_cases h:∃y∈a,y.Leaf=k
 ·obtain⟨y,y1,y2⟩:=h
  rw[cI ha (λx hx z hz p q=>hu x hx z hz<|by grind) y1<|(e1 y).2 y2,
   cI hc (λx hx z hz p q=>hu x ((hm x).2 hx) z ((hm z).2 hz)<|by grind) ((hm y).1 y1) ((e1 y).2 y2)]
 grind [BI]
def Kq (r:List Al) (b:Int) (live:List Int):List Al:=live.filterMap λc=>match RM c r r.length with
 |some j=>if bk r b j=true then r[j]? else none
 |none=>none
theorem ADb (h:fU f r) {live:List Int} (a:Jq s=some live) (hl:live.length<=16777216) (b:Int):TD f s b=some (Kq r b live):=by
 unfold TD;rw[a];simp only[Aa];obtain⟨u,h1,h2⟩:=A9 (body:=λq:List Al×Int=>Hg f b live q.1 q.2) (λ(u:List Al) i=>(u,i)) live.length (λi u=>u=Kq r b (live.take i)) (λu=>u=Kq r b live)
  (λu i hi hu=>by
   have hg:live[i]?=some live[i]:=Ab hi;obtain⟨o,o1,o2⟩:=X1 f r h.i h.len h.srt live[i];have ho:o=RM live[i] r r.length:=Xo o2<|PB _ _ _<|A0 _;have c:u.length<=i:=by grind [Kq]
   have et:live.take (i+1)=live.take i++ [live[i]]:=by simp
   refine .inl ?_;simp only[Hg,Do hi,Aq,hg,Aa,o1]
   cases ht:RM live[i] r r.length with
   |none=>grind [ad1,Kq]
   |some j=>grind [PA,AY,ad1,KR,bk,Kq])
  (λu hu=>⟨u,by simp[CQ,Hg],by grind⟩) (s:=[]) (by simp[Kq])
 grind
theorem To {live:List Int} (hy:y∈Kq r b live):∃c∈live,∃j,RM c r r.length=some j/\r[j]?=some y/\y.Block=b/\y.Page.Kind=1/\y.Page.Tx=c:=by
 obtain⟨c,c1,c2⟩:=List.mem_filterMap.1 hy
 grind [PA,bk,IX]
theorem gO (r:List Al) (b:Int):∀{live:List Int},live.Nodup->nD (Kq r b live)
 |[],_=>List.Pairwise.nil
 |c::live,h=>by
  obtain⟨h1,h2⟩:=CR.1 h;have ih:=gO r b h2;unfold Kq;rw[List.filterMap_cons];split
  ·exact ih
  rename_i y hy;refine Cj.2 ⟨λz hz e=>?_,ih⟩;obtain⟨c',q1,j,q2,q3,q4,q5,q6⟩:=To (r:=r) (b:=b) (live:=live) hz;obtain⟨c'',p1,j2,p2,p3,p4,p5,p6⟩:=To (r:=r) (b:=b) (live:=[c]) (y:=y)<|by grind [Kq]
  grind
def Qw (b:Int) (nd:List Bool) (r:List Al):List Al:=Ll b 0 nd r++(Ll b 1 nd r++(Ll b 2 nd r++Ll b 3 nd r))
theorem ZJ {i:Int}:y∈Ll b i nd r↔(∃j:Nat,r[j]?=some y/\nd[j]?=some true)/\y.Block=b/\y.Leaf=i:=by
 unfold Ll;simp only[A8,AR,Aj,HE];constructor
 ·grind [List.getElem?_of_mem,List.getElem?_zip_eq_some]
 rintro⟨⟨j,h1,h2⟩,h3,h4⟩;exact⟨(true,y),⟨Ao<|List.getElem?_zip_eq_some.2 ⟨h2,h1⟩,⟨rfl,h3⟩,h4⟩,rfl⟩
theorem oP (hn:∀(j:Nat) y,r[j]?=some y->nd[j]?=some true->RM y.Page.Tx r r.length=some j) (b i:Int):nD (Ll b i nd r):=by
 unfold Ll nD;rw[List.pairwise_map]
 have h0:(nd.zip r).Pairwise λp q=>p.1=true->q.1=true->p.2.Page.Tx≠q.2.Page.Tx:=by
  rw[C1];intro x y hx hy a p q e;have a1:=(List.getElem?_zip_eq_some (l₁:=nd) (l₂:=r)).1<|Ab hx;have a2:=(List.getElem?_zip_eq_some (l₁:=nd) (l₂:=r)).1<|Ab hy
  grind
 have h1:=h0.filter λq=>q.1&&(q.2.Block==b)&&(q.2.Leaf==i)
 grind
end Go.TI
