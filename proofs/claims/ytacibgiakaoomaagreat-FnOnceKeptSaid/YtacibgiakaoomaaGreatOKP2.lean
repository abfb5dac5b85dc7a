/- A text that is written often is kept once. No condition; no program is in sight. -/
import Derived.Test.YtacibgiakaoomaaGreatOKP1
set_option linter.unusedVariables false
set_option linter.unusedSimpArgs false
namespace Go.TI
open Go
theorem qV (s:ByteArray) (f a:Nat) (hf:f<a) (ha:a<=(L s).length) (hs:(L s).length<=64):∃k:Nat,Oz s (f:Int) (a:Int)=some (k:Int)/\k<=31/\a+k<=(L s).length/\∀j,j<k->(L s)[f+j]?=(L s)[a+j]? :=by
 obtain⟨b,h1,k,rfl,h2,h3,h4⟩:=A9 (body:=λn:Int=>K2 s (f:Int) (a:Int) n) (λ(_:Unit) i=>i) 31 (λi _=>a+i<=(L s).length/\∀j,j<i->(L s)[f+j]?=(L s)[a+j]?) (λb=>∃k:Nat,b=(k:Int)/\k<=31/\a+k<=(L s).length/\∀j,j<k->(L s)[f+j]?=(L s)[a+j]?)
  (λ_ i hi hs=>by
   simp only[K2];rw[cT,BL,BL,Bh];by_cases c:a+i<(L s).length
   ·rw[cT];have e1:((f:Int)+(i:Int))=((f+i:Nat):Int):=by omega
    have e2:((a:Int)+(i:Int))=((a+i:Nat):Int):=by omega
    rw[e1,e2,Eg s (by omega),Eg s c];simp only[Aa]
    cases hq:((((L s)[f+i]).toNat:Int)==(((L s)[a+i]).toNat:Int))with
    |true=>
     rw[ad1];refine .inl ⟨(),rfl,by omega,λj hj=>?_⟩
     grind [UInt8.toNat_inj]
    |false=>grind
   grind)
  (λ_ hs=>by
   simp only[K2];rw[cF]
   exact⟨_,rfl,31,rfl,by omega,hs.1,hs.2⟩) (s:=()) ⟨by omega,λj hj=>by omega⟩
 unfold Oz
 grind
def wW (s:ByteArray) (a z b:Nat):Prop:=z<=31/\a+z<=(L s).length/\(z=0\/(4<=z/\1<=b/\b<=a/\∀j,j<z->(L s)[a-b+j]?=(L s)[a+j]?))
theorem tU (s:ByteArray) (a:Nat) (ha:a<=(L s).length) (hs:(L s).length<=64):∃z b:Nat,Ai (λq:Int×Int×Int=>Eo s (a:Int) q.1 q.2.1 q.2.2) (0,0,sb (a:Int) 1)=some ((z:Int),(b:Int))/\wW s a z b:=by
 rw[BC];obtain⟨r,h1,z,b,rfl,h2⟩:=A9 (body:=λq:Int×Int×Int=>Eo s (a:Int) q.1 q.2.1 q.2.2) (λ(q:Nat×Nat) i=>((q.1:Int),(q.2:Int),(a:Int)-1-i)) a (λi q=>wW s a q.1 q.2) (λr=>∃z b:Nat,r=((z:Int),(b:Int))/\wW s a z b)
  (λq i hi hq=>by
   obtain⟨k,m1,m2,m3,m4⟩:=qV s (a-1-i) a (by omega) ha hs;have e1:((a:Int)-1-(i:Int))=((a-1-i:Nat):Int):=by omega
   simp only[Eo,e1];rw[Ac (by omega:(((a-1-i:Nat)):Int)>=0),An,m1,Aa,BC,BC];refine .inl ?_;have e2:(((a-1-i:Nat):Int)-1)=(a:Int)-1-((i+1:Nat):Int):=by omega
   have e3:((a:Int)-((a-1-i:Nat):Int))=((1+i:Nat):Int):=by omega
   rw[e2,e3];by_cases h4:4<=k
   ·rw[cT];by_cases h5:q.1<k
    ·rw[Ac (by omega:(k:Int)>(q.1:Int))];exact⟨(k,1+i),rfl,m2,m3,.inr ⟨h4,by omega,by omega,λj hj=>by grind⟩⟩
    grind
   grind)
  (λq hq=>by grind [Eo]) (s:=(0,0)) ⟨by omega,by omega,.inl rfl⟩
 grind
def VA:Nat->Nat->List UInt8->List UInt8
 |0,_,out=>out
 |n+1,b,out=>VA n b (out++ [(out[out.length-b]?).getD 0])
def Yf (a:List UInt8) (t:AH):List UInt8:=if t.Back=0 then a++L t.Text else VA t.Size.toNat t.Back.toNat a
def E6 (l:List AH):List UInt8:=l.foldl Yf []
def okT (a:List UInt8) (t:AH):Prop:=(t.Back=0/\t.Size=0/\1<=(L t.Text).length/\(L t.Text).length<=31)\/(1<=t.Back/\t.Back<=(a.length:Int)/\1<=t.Size/\t.Size<=31/\L t.Text=[])
def uX (l:List AH):Prop:=∀(i:Nat) t,l[i]?=some t->okT (E6<|l.take i) t
theorem NP (l:List AH) (t:AH):E6 (l++ [t])=Yf (E6 l) t:=by unfold E6;grind
variable {r a r':List Aj} {d e d':Ax} {y:Aj} {n k m j:Nat} {g f:Flash} {s:Store} {c b nx nx':Int} {P:Int->Prop} {T:List ByteArray} {l l':Vs} {t:AH} {p:Page} {nd:List Bool} {ps:List Page} {x:BS} {ss:List AE} {K:Ks} {q:RF} {code:List Int}
theorem dK {l:List AH} (h:uX l) (ht:okT (E6 l) t):uX (l++ [t]):=by
 intro i x hx;by_cases e:i<l.length
 ·rw[KC e]at hx;rw[List.take_append_of_le_length<|by omega];exact h i x hx
 grind
theorem uW {l:List AH} (h:uX (l++ [t])):uX l/\okT (E6 l) t:=by
 refine⟨λi x hx=>?_,?_⟩
 ·have:=h i x (by grind)
  grind
 have:=h l.length t<|by grind
 grind
theorem bI (S:List UInt8):∀(n a b:Nat),a+n<=S.length->1<=b->b<=a->(∀j,j<n->S[a-b+j]?=S[a+j]?)->VA n b (S.take a)=S.take (a+n)
 |0,a,b,_,_,_,_=>rfl
 |n+1,a,b,h1,h2,h3,h4=>by
  rw[VA];have hl:(S.take a).length=a:=by grind
  have e:((S.take a)[(S.take a).length-b]?).getD 0=S[a]'(by omega):=by
   have:=h4 0<|by omega
   grind
  rw[e,<-Af (by omega),bI S n (a+1) b (by omega) h2 (by omega) λj hj=>by grind];congr 1;omega
theorem jE:∀(n b:Nat) (a:List UInt8),(VA n b a).length=a.length+n
 |0,_,_=>rfl
 |n+1,b,a=>by rw[VA,jE];simp;omega
theorem SP (s:ByteArray) (hs:(L s).length<=64):∀(n a:Nat) (c:List AH),(L s).length-a<=n->a<=(L s).length->c.length<=a->uX c->E6 c=(L s).take a->∃l,Ai (λq:List AH×Int=>Cj s q.1 q.2) (c,(a:Int))=some l/\uX l/\E6 l=L s/\l.length<=64
 |n,a,c,hn,ha,g,d,hpl=>by
  by_cases h:a<(L s).length
  ·obtain⟨z,b,h1,h2,h3,h4⟩:=tU s a ha hs
   match n,hn with
   |0,hn=>omega
   |n+1,hn=>
   rcases h4 with rfl|⟨h4,h5,h6,h7⟩
   ·
    have f:sub s (a:Int) ((a+1:Nat):Int)=some (s.extract a<|a+1):=FE s (by omega) (by omega);have hx:L (s.extract a<|a+1)=[(L s)[a]]:=by
     rw[JL,show a+1-a=1 by omega,AA h];rfl
    have fresh:∃l,Ai (λq:List AH×Int=>Cj s q.1 q.2) (c++ [AH.mk 0 0<|s.extract a<|a+1],((a+1:Nat):Int))=some l/\uX l/\E6 l=L s/\l.length<=64:=
     SP s hs n (a+1) _ (by omega) (by omega) (by simp;omega) (dK d<|.inl ⟨rfl,rfl,by rw[hx];simp,by rw[hx];simp⟩) (by grind [NP,Af,Yf])
    rcases Gp c with e|⟨out0,t0,e⟩
    ·subst e;obtain⟨l,f1,f2⟩:=fresh;rw[Au];have hb:Cj s [] (a:Int)=some (.inl ([AH.mk 0 0<|s.extract a<|a+1],((a+1:Nat):Int))):=by
      simp only[Cj];rw[Bh,cT,h1];simp only[Aa];rw[show decide ((((0:Nat):Int))>0)=false from rfl,Ad,ad1,f,show decide ((sb (ln ([]:List AH)) 1)>=0)=false from rfl];rfl
     grind
    rw[Jc]at e;subst e;obtain⟨ok0,okt0⟩:=uW d;have hol':out0.length+1<=a:=by simpa using g
    have j:ln (out0++ [t0])=((out0.length+1:Nat):Int):=by rw[Bi];simp
    have k:sb (ln<|out0++ [t0]) 1=(out0.length:Int):=by grind [BC]
    have m:gi (out0++ [t0]) (out0.length:Int)=some t0:=Et _ _;by_cases hm:t0.Back=0/\(L t0.Text).length<31
    ·have i:GY t0.Text (s.extract a<|a+1)=some (t0.Text++s.extract a (a+1)):=Fy _ _ (by grind);have hb:Cj s (out0++ [t0]) (a:Int)=some (.inl (out0++ [AH.mk t0.Back t0.Size<|t0.Text++s.extract a (a+1)],((a+1:Nat):Int))):=by
      simp only[Cj];rw[Bh,cT,h1];simp only[Aa]
      grind [ad1,Bh,II]
     have hX:L (t0.Text++s.extract a (a+1))=L t0.Text++ [(L s)[a]]:=by rw[FZ,hx]
     obtain⟨l,f1,f2⟩:=SP s hs n (a+1) (out0++ [AH.mk t0.Back t0.Size<|t0.Text++s.extract a (a+1)]) (by omega) (by omega) (by grind) (dK ok0 (by
      rcases okt0 with⟨k1,k2,k3,k4⟩|⟨k1,_⟩
      ·exact .inl ⟨k1,k2,by rw[hX];simp,by grind⟩
      omega))<|by grind [NP,Af,Yf]
     grind [Au]
    have hb:Cj s (out0++ [t0]) (a:Int)=some (.inl (out0++ [t0]++ [AH.mk 0 0<|s.extract a<|a+1],((a+1:Nat):Int))):=by grind [Bh,ad1,Bq,Cj]
    grind [Au]
   have hb:Cj s c (a:Int)=some (.inl (c++ [AH.mk (b:Int) (z:Int)<|bs []],((a+z:Nat):Int))):=by grind [Bh,Bq,BL,Cj]
   obtain⟨l,f1,f2⟩:=SP s hs n (a+z) (c++ [AH.mk (b:Int) (z:Int)<|bs []]) (by omega) h3 (by simp;omega) (dK d<|.inr ⟨by simp;omega,by grind,by simp;omega,by simp;omega,Du _⟩)<|by grind [NP,bI,Yf]
   grind [Au]
  grind [Au,Bh,Cj]
theorem xG (s:ByteArray) (hs:(L s).length<=64):∃l,Mu s=some l/\uX l/\E6 l=L s/\l.length<=64:=by
 obtain⟨l,h1,h2⟩:=SP s hs (L s).length 0 [] (by omega) (by omega) (by simp) (λi t h=>by simp at h)<|by simp[E6]
 grind [Bh,Mu]
def MP (t:AH):List UInt8:=if t.Back=0 then UInt8.ofNat (L t.Text).length::L t.Text else [UInt8.ofNat (128+t.Size).toNat,UInt8.ofNat t.Back.toNat]
theorem pO {a:List UInt8} (h:okT a t) (ho:a.length<=64):(MP t).length<=32:=by
 unfold MP
 rcases h with⟨h1,h2,h3,h4⟩|⟨h1,h2,h3,h4,h5⟩
 ·grind
 grind
theorem AAd {a:List UInt8} (h:okT a t):a.length<=(Yf a t).length:=by grind [jE,Yf]
theorem M2 {l:List AH} (h:uX l):∀i,i<=l.length->(E6 (l.take i)).length<=(E6 l).length:=by
 have step:∀i,i<l.length->(E6<|l.take i).length<=(E6<|l.take<|i+1).length:=λi hi=>by
  rw[Af hi,NP];exact AAd<|h i _<|Ab hi
 intro i hi;have:∀k,i+k<=l.length->(E6<|l.take i).length<=(E6<|l.take<|i+k).length:=by
  intro k
  induction k with
  |zero=>grind
  |succ k ih=>grind
 have:=this (l.length-i) (by omega);simp_all
theorem ABJ (s:ByteArray) (hs:(L s).length<=64):∃l,uX l/\E6 l=L s/\l.length<=64/\((D5 s=some (bs (122::l.flatMap MP),true))\/D5 s=some (bs (114::L s),true)):=by
 obtain⟨l,h1,h2,h3,h4⟩:=xG s hs;refine⟨l,h2,h3,h4,?_⟩;unfold D5;rw[Bh,cF,h1];simp only[Aa];obtain⟨b,q1,q2⟩:=A9 (body:=λq:ByteArray×Int=>Fs l q.1 q.2) (λz i=>(z,i)) l.length (λi z=>L z=122::(l.take i).flatMap MP/\(L z).length<=1+32*i) (λz=>L z=122::l.flatMap MP/\(L z).length<=3000)
  (λz i hi hz=>by
   have hx:=Ab hi;have c:=h2 i _ hx;have a:=M2 h2 i (by omega);rw[h3]at a;have d:=pO c (by omega);have et:(l.take<|i+1).flatMap MP=(l.take i).flatMap MP++MP l[i]:=by grind [Af]
   simp only[Fs,D6 hi,Ao,hx,Aa];rw[ad1];refine .inl ?_
   rcases c with⟨k1,k2,k3,k4⟩|⟨k1,k2,k3,k4,k5⟩
   ·grind [Fy,FZ,MM,Bh,IntKind.wrap_u8,MP]
   grind [BL,Fy,FZ,MM,IntKind.wrap_u8,MP])
  (λz hz=>⟨z,by simp[Dk,Fs],by grind,by omega⟩) (s:=bs [122]) ⟨by rw[Du];rfl,by rw[Du];simp⟩
 rw[q1];simp only[Aa];have hb:b=bs (122::l.flatMap MP):=JK<|by rw[q2.1,Du]
 cases decide (ad ((L s).length:Int) 1<=Gq b)with
 |false=>grind
 |true=>
  right;rw[Fy _ _<|by grind [Du]];rfl
theorem Uk (t:ByteArray) (ht:(L t).length<=10000):∀(l:List AH) (a:Nat) (c:List AH),(∀x∈l,∃o:List UInt8,okT o x/\o.length<=64)->(L t).drop a=l.flatMap MP->a<=(L t).length->c.length<=a->Ai (λq:List AH×Int=>BF t q.1 q.2) (c,(a:Int))=some (.inl (c++l))
 |[],a,c,hl,h,ha,ho=>by
  have:(L t).length=a:=by simp_all;grind
  grind [Au,Bh,BF]
 |x::l,a,c,hl,h,ha,ho=>by
  obtain⟨o,k,p⟩:=hl x (by simp);rw[List.flatMap_cons]at h;have d:=Ch List.length h;rw[Oh,A4]at d
  rcases k with⟨k1,k2,k3,k4⟩|⟨k1,k2,k3,k4,k5⟩
  ·have he:MP x=UInt8.ofNat (L x.Text).length::L x.Text:=by grind [MP]
   rw[he]at h d;rw[AB]at d;have f:a<(L t).length:=by omega
   have e:=AA f;rw[h,BT]at e
   injection e with hx hd
   have j:(((L t)[a]).toNat:Int)=((L x.Text).length:Int):=by grind [Gd]
   have n:sub t ((a+1:Nat):Int) ((a+1+(L x.Text).length:Nat):Int)=some x.Text:=by
    rw[FE t (by omega)<|by omega]
    grind [JK,JL,List.take_left']
   have hb:BF t c (a:Int)=some (.inl (c++ [AH.mk 0 0 x.Text],((a+1+(L x.Text).length:Nat):Int))):=by grind [Bh,Eg,NE,BL,Bq,BF]
   have i:AH.mk 0 0 x.Text=x:=by
    cases x with
    |mk b z u=>grind
   rw[i]at hb;rw[Au];simp only[hb];have:=Uk t ht l (a+1+(L x.Text).length) (c++ [x]) (λy hy=>hl y<|by simp[hy]) (by rw[<-DS,<-hd,ID rfl]) (by omega) (by simp;omega)
   grind
  have he:MP x=[UInt8.ofNat (128+x.Size).toNat,UInt8.ofNat x.Back.toNat]:=by unfold MP;grind
  rw[he]at h d;simp only[AB,L5]at d;have f:a<(L t).length:=by omega
  have e:=AA f;rw[h]at e;simp only[BT,Az]at e
  injection e with hx hd
  have g:=AA (show a+1<(L t).length by omega);rw[<-hd]at g
  injection g with hx2 hd2
  have j:(((L t)[a]).toNat:Int)=128+x.Size:=by grind [Gd]
  have m:(((L t)[a+1]'(by omega)).toNat:Int)=x.Back:=by grind [Gd]
  have hb:BF t c (a:Int)=some (.inl (c++ [AH.mk x.Back x.Size<|bs []],((a+2:Nat):Int))):=by
   simp only[BF];rw[Bh,cT,Eg t f,Aa,j,NE (by omega) (by omega),cT,BL (b:=2) (by omega) (by omega),cF,ad1,Eg t (by omega),Aa,m,NE (by omega) (by omega),BC,Bq (by simp;omega),Aa,show 128+x.Size-128=x.Size by omega];rfl
  have i:AH.mk x.Back x.Size (bs [])=x:=by
   cases x with
   |mk b z u=>grind [JK,Du]
  rw[i]at hb;rw[Au];simp only[hb];have:=Uk t ht l (a+2) (c++ [x]) (λy hy=>hl y<|by simp[hy]) (by grind) (by omega) (by simp;omega)
  grind
def Ih (l:List UInt8):List Int:=l.map λc=>(c.toNat:Int)
theorem rL (l:List UInt8):L (EC (Ih l))=l:=by
 rw[MM,Ih,GR];have:((λn:Int=>UInt8.ofNat n.toNat)∘λc:UInt8=>(c.toNat:Int))=id:=by
  funext c;simp
 rw[this,SE]
theorem tR (b:ByteArray):tS b=Ih (L b):=rfl
theorem Xm (x:AH) (b:1<=x.Back) (hs:0<=x.Size/\x.Size<=31):∀(n k:Nat) (a:List UInt8),(k:Int)+n=x.Size->x.Back<=(a.length:Int)->a.length+n<=1000->Ai (λq:List Int×Int=>DB x q.1 q.2) (Ih a,(k:Int))=some (Ih (VA n x.Back.toNat a))
 |0,k,a,hk,c,ho=>by
  rw[Au];have hb:DB x (Ih a) (k:Int)=some (.inr (Ih a)):=by grind [DB]
  simp only[hb];rfl
 |n+1,k,a,hk,c,ho=>by
  have d:ln (Ih a)=(a.length:Int):=by rw[Bi,Ih,Bt]
  have e:gi (Ih a) ((a.length:Int)-x.Back)=some (((a[a.length-x.Back.toNat]?).getD 0).toNat:Int):=by grind [Ao,Ih]
  have hb:DB x (Ih a) (k:Int)=some (.inl (Ih<|a++ [(a[a.length-x.Back.toNat]?).getD 0],((k+1:Nat):Int))):=by grind [BC,Bq,ad1,DB,Ih]
  rw[Au];simp only[hb];rw[VA];exact Xm x b hs n (k+1) _ (by omega) (by simp;omega) (by simp;omega)
theorem l9 (l:List AH) (hl:l.length<=64) (a:uX l) (h64:(E6 l).length<=64):Ai (λq:List Int×Int=>Ej l q.1 q.2) ([],0)=some (.inl (Ih (E6 l))):=by
 obtain⟨b,h1,h2⟩:=A9 (body:=λq:List Int×Int=>Ej l q.1 q.2) (λ(o:List UInt8) i=>(Ih o,i)) l.length (λi o=>o=E6 (l.take i)) (λb=>b= .inl (Ih<|E6 l))
  (λo i hi ho=>by
   have hx:=Ab hi;have hk:=a i _ hx;have hm:=M2 a i (by omega);have c:=M2 a (i+1) (by omega);have et:E6 (l.take<|i+1)=Yf o l[i]:=by grind [Af,NP]
   rw[<-ho]at hk hm;rw[et]at c
   have d:∀q:List UInt8,ln (Ih q)=(q.length:Int):=λq=>by rw[Bi,Ih,Bt]
   simp only[Ej,D6 hi,Ao,hx,Aa];refine .inl ⟨Yf o l[i],?_,et.symm⟩
   rcases hk with⟨k1,k2,k3,k4⟩|⟨k1,k2,k3,k4,k5⟩
   ·rw[show(l[i].Back==0)=true by simpa using k1,An,Bh,Dx,Ac<|by omega]
    grind [tR,ad1,ap,Ih,Yf]
   rw[show(l[i].Back==0)=false by simp;omega,Ad,d,Dx,Ac<|by omega];rw[Dx,Ac<|by omega];simp only[Aa,Al,Ad];have e:seq l[i].Text (bs [])=true:=by grind [Kc,JK,Du]
   grind [Xm,ad1,Yf])
  (λo ho=>⟨.inl<|Ih o,by simp[Dk,Ej],by grind⟩) (s:=[]) rfl
 rw[<-h2];exact h1
theorem Y0 (s:ByteArray) (hs:(L s).length<=64):∃z,D5 s=some (z,true)/\Gt z=some (s,true)/\1<=(L z).length:=by
 obtain⟨l,h1,h2,h3,h4⟩:=ABJ s hs;have fin:∀z:ByteArray,D5 s=some (z,true)->((D5 s).bind λv3=>(cond (!v3.2) (some true) (some<|!(seq v3.1 z)):Option Bool).bind λj2=>cond j2 (some (bs [],false))<|some (s,true))=some (s,true):=by grind [seq]
 rcases h4 with h4|h4
 ·refine⟨_,h4,?_,by rw[Du];simp⟩;have hf:=fin _ h4;generalize hz:bs (122::l.flatMap MP)=z at h4 hf;have hL:L z=122::l.flatMap MP:=by rw[<-hz,Du]
  have f:(L z).length<=3000:=by
   have:∀m:List AH,(∀x∈m,∃o:List UInt8,okT o x/\o.length<=64)->(m.flatMap MP).length<=32*m.length:=by
    intro m
    induction m with
    |nil=>intro _;simp
    |cons x m ih=>
     intro hm;obtain⟨o,g,h⟩:=hm x<|by simp
     grind [pO]
   have:=this l (λx hx=>by
    obtain⟨i,hi,rfl⟩:=Av hx;have hm:=M2 h1 i (by omega);rw[h2]at hm
    exact⟨_,h1 i _<|Ab hi,by omega⟩)
   grind
  unfold Gt;have a:1<=(L z).length:=by rw[hL];simp
  rw[Bh,show(((L z).length:Int)==0)=false by grind,Ad];have b:sub z 1 ((L z).length:Int)=some (bs<|l.flatMap MP):=by
   rw[show(1:Int)=((1:Nat):Int)from rfl,FE z a<|Ay _]
   grind [JK,JL,Du]
  have c:sx z 0=some 122:=by
   rw[show(0:Int)=((0:Nat):Int)from rfl,Eg z (i:=0) a];simp_all
  rw[b,c];simp only[Aa];rw[show((122:Int)==122)=true from rfl];have d:(L<|bs<|l.flatMap MP).length<=10000:=by rw[Du];grind
  have e:=Uk (bs<|l.flatMap MP) d l 0 [] (λx hx=>by
    obtain⟨i,hi,rfl⟩:=Av hx;have hm:=M2 h1 i (by omega);rw[h2]at hm
    exact⟨_,h1 i _<|Ab hi,by omega⟩) (by rw[Du];rfl) (by omega)<|by simp
  rw[show((0:Nat):Int)=0 from rfl,Az]at e
  grind [l9,JK,rL,MZ,GF]
 refine⟨_,h4,?_,by rw[Du];simp⟩;have hf:=fin _ h4;generalize hz:bs (114::L s)=z at h4 hf;have hL:L z=114::L s:=by rw[<-hz,Du]
 unfold Gt;have a:1<=(L z).length:=by rw[hL];simp
 rw[Bh,show(((L z).length:Int)==0)=false by grind,Ad];have b:sub z 1 ((L z).length:Int)=some s:=by
  rw[show(1:Int)=((1:Nat):Int)from rfl,FE z a<|Ay _]
  grind [JK,JL]
 have c:sx z 0=some 114:=by
  rw[show(0:Int)=((0:Nat):Int)from rfl,Eg z (i:=0) a];simp_all
 grind
theorem wO (a b:List ByteArray):N8 (a++b)=N8 a++N8 b:=by unfold N8;grind
def By (seq tx:Int) (T:List ByteArray):List Page:=T.mapIdx λi t=>Page.mk 2 (seq+i) tx i T.length t
theorem sL (a:List BS) (hr:a.length<=1048576) (d:∀r∈a,EG r=true):∃T:List ByteArray,Ai (λs:List ByteArray×Int=>Ei a s.1 s.2) ([bs []],0)=some (.inl T)/\1<=T.length/\T.length<=max 1 a.length/\N8 T=IQ a/\∀t∈T,(L t).length<=90:=by
 obtain⟨b,h1,T,h2,h3⟩:=A9 (body:=λs:List ByteArray×Int=>Ei a s.1 s.2) (λ(o:List ByteArray) i=>(o,i)) a.length
  (λi T=>1<=T.length/\(T.length<=max 1 i/\(i=0->T=[bs []]))/\N8 T=IQ (a.take i)/\∀t∈T,(L t).length<=90)
  (λb=>∃T:List ByteArray,b= .inl T/\1<=T.length/\T.length<=max 1 a.length/\N8 T=IQ a/\∀t∈T,(L t).length<=90)
  (λT i hi hT=>by
   obtain⟨g,⟨h,q⟩,j,k⟩:=hT;have hx:=Ab hi;obtain⟨t,t1,t2⟩:=cM<|d _<|Ar hi;have l:=uF<|d _<|Ar hi;rw[<-t2]at l;have et:IQ (a.take<|i+1)=IQ (a.take i)++L t:=by grind [Af,IQ]
   rcases Gp T with e|⟨T0,c,e⟩
   ·grind
   rw[Jc]at e;subst e;have u:ln (T0++ [c])=((T0.length+1:Nat):Int):=by rw[Bi];simp
   rw[A4,Ct]at g h;have m:sb (ln<|T0++ [c]) 1=(T0.length:Int):=by grind [BC]
   have n:gi (T0++ [c]) (T0.length:Int)=some c:=Et _ _;have p:=k c (by simp);rw[wO]at j;simp only[Ei,D6 hi,Ao,hx,Aa];rw[t1];rw[m,n];simp only[Aa];rw[Bh,Bh,BL,ad1];refine .inl ?_;by_cases f:((L c).length:Int)+((L t).length:Int)>90
   ·have v:i≠0:=λe=>by grind [Du]
    grind [Bq,N8]
   rw[Ah f,Ad,Fy _ _<|by omega];simp only[Aa];rw[II];refine⟨T0++ [c++t],rfl,by simp,⟨by simp;omega,by omega⟩,?_,λx w=>?_⟩
   ·grind [FZ,N8]
   grind [FZ])
  (λT hT=>⟨_,by simp[Dk,Ei],T,rfl,hT.1,hT.2.1.1,by grind,hT.2.2.2⟩) (s:=[bs []]) ⟨by simp,⟨by simp,λ_=>rfl⟩,by rfl,λt ht=>by grind [Du]⟩
 grind
theorem bS (seq tx:Int) (a:List BS) (hr:a.length<=1000) (c:∀r∈a,EG r=true):∃T:List ByteArray,1<=T.length/\N8 T=IQ a/\(∀t∈T,(L t).length<=90)/\T.length<=max 1 a.length/\
  ((IL seq tx a=some (By seq tx T,true)/\T.length<=9/\1<=seq/\seq+T.length-1<=1000000000/\1<=tx/\tx<=1000000000)\/(IL seq tx a=some ([],false)/\¬(T.length<=9/\1<=seq/\seq+T.length-1<=1000000000/\1<=tx/\tx<=1000000000))):=by
 obtain⟨T,h1,h2,h2',h3,h4⟩:=sL a (by omega) c;refine⟨T,h2,h3,h4,h2',?_⟩;unfold IL;rw[h1];simp only[Aa,CL];rw[Bi];by_cases h9:(T.length:Int)>9
 ·grind
 rw[Ah h9];rw[BC,BL,Dx,Dx];simp only[Aa];by_cases hs:1<=seq/\seq<=1000000000-(T.length:Int)+1
 ·rw[Ac hs];by_cases ht:1<=tx/\tx<=1000000000
  ·left;obtain⟨b,q1,q2⟩:=A9 (body:=λs:List Page×Int=>Gu seq tx T s.1 s.2) (λ(o:List Page) i=>(o,i)) T.length (λi o=>o=(By seq tx T).take i) (λb=>b=By seq tx T)
    (λo i hi ho=>by grind [Ao,BL,Bi,Bq,Dm,Gu,By])
    (λo ho=>⟨o,by simp[Dk,Gu],by grind [AP,By]⟩) (s:=[]) rfl
   grind
  grind
 grind
def Steps:Flash->List AE->Flash->Prop
 |f,[],g=>g=f
 |f,s::ss,g=>Sg f s/\Steps (KF f s) ss g
theorem Mg:∀(f:Flash) (a b:List AE) (g:Flash),Steps f (a++b) g↔∃m,Steps f a m/\Steps m b g
 |f,[],b,g=>⟨λh=>⟨f,rfl,h⟩,λ⟨m,h1,h2⟩=>by rw[h1]at h2;exact h2⟩
 |f,s::a,b,g=>by
  rw[BT];simp only[Steps,Mg]
  grind
theorem W2:∀{f:Flash} {a:List AE} {g:Flash},AU f->Steps f a g->AU g
 |f,[],g,hf,h=>by rw[h];exact hf
 |f,s::a,g,hf,h=>W2 (oX hf h.1) h.2
theorem n7 {a:List AE} {m:Flash} {s:AE} (h:Steps f a m) (hs:Sg m s):Steps f (a++ [s]) (KF m s):=(Mg f a [s] _).2 ⟨m,h,hs,rfl⟩
theorem gR {a:List AE} (hf:AU f) (h:Steps f a g) (ha:a.length<=1048576):Ki f a=some (g,(a.length:Int)):=by
 unfold Ki;rw[C6 f hf.cap];simp only[Aa];obtain⟨b,h1,h2⟩:=A9 (body:=λs:Int×List Block=>DF a s.1 s.2) (λ(o:List Block) i=>(i,o)) a.length (λi o=>Steps f (a.take i) (Flash.mk o)/\Steps (Flash.mk o) (a.drop i) g) (λb=>b= .inl g.Blocks)
  (λo i hi hs=>by
   have hx:=Ab hi;obtain⟨s1,s2⟩:=hs;rw[AA hi]at s2;simp only[DF,D6 hi,Ao,hx,Aa];have hP:=W2 hf s1
   rcases O6 hP a[i]with⟨k1,k2⟩|⟨k1,k2⟩
   ·rw[k2];rw[ad1];refine .inl ⟨(KF (Flash.mk o) a[i]).Blocks,rfl,?_,s2.2⟩;rw[Af hi];exact n7 s1 k1
   exact absurd s2.1 k1)
  (λo hs=>⟨.inl o,by simp[Dk,DF],by
   have:=hs.2;rw[List.drop_length]at this
   rw[show g=Flash.mk o from this]⟩) (s:=f.Blocks) ⟨rfl,h⟩
 rw[h1,h2];rfl
def Fp:Flash->List AE->List Page->Flash->Prop
 |f,[],[],g=>g=f
 |f,s::ss,p::ps,g=>s.Kind=1/\YY f s.Block s.Leaf s.Text/\Ez s.Text=some (p,true)/\Fp (KF f s) ss ps g
 |_,_,_,_=>False
theorem DQ:∀{f:Flash} {ss:List AE} {ps:List Page} {g:Flash},Fp f ss ps g->Steps f ss g/\ss.length=ps.length
 |f,[],[],g,h=>⟨h,rfl⟩
 |f,s::ss,p::ps,g,h=>⟨⟨.inl ⟨h.1,h.2.1⟩,(DQ h.2.2.2).1⟩,by rw[AB,AB,(DQ h.2.2.2).2]⟩
 |f,[],p::ps,g,h=>h.elim
 |f,s::ss,[],g,h=>h.elim
theorem S8:∀{f:Flash} {ss:List AE} {ps:List Page} {g:Flash} {b l:Int} {t:ByteArray} {p:Page},Fp f ss ps g->YY g b l t->Ez t=some (p,true)->Fp f (ss++ [AE.mk 1 b l t]) (ps++ [p]) (Qp g b l (Leaf.mk 1 t))
 |f,[],[],g,b,l,t,p,h,h1,h2=>by
  have:g=f:=h;subst this;exact⟨rfl,h1,h2,by unfold KF;rfl⟩
 |f,s::ss,q::ps,g,b,l,t,p,h,h1,h2=>⟨h.1,h.2.1,h.2.2.1,S8 h.2.2.2 h1 h2⟩
 |f,[],q::ps,g,b,l,t,p,h,h1,h2=>h.elim
 |f,s::ss,[],g,b,l,t,p,h,h1,h2=>h.elim
def BQ (ss:List AE) (ps:List Page):List Aj:=List.zipWith (λs p=>Aj.mk s.Block s.Leaf p) ss ps
def G0:Int->List Page->Prop
 |_,[]=>True
 |n,p::ps=>n<=p.Seq/\G0 (p.Seq+1) ps
theorem Y8:∀{f:Flash} {ss:List AE} {ps:List Page} {g:Flash} {r:List Aj} {n:Int},AU f->SR (J1 0 f.Blocks) r->Fp f ss ps g->(∀y∈r,y.Page.Seq<n)->G0 n ps->SR (J1 0 g.Blocks) (r++BQ ss ps)
 |f,[],[],g,r,n,hf,a,h,hn,ha=>by
  have:g=f:=h;simp_all [BQ]
 |f,s::ss,p::ps,g,r,n,hf,a,h,hn,ha=>by
  obtain⟨h1,h2,h3,h4⟩:=h;obtain⟨k1,_,A,B,k2,k3,_⟩:=M1 hf h2;have c:KF f s=Qp f s.Block s.Leaf (Leaf.mk 1 s.Text):=by grind [KF]
  rw[c]at h4;have b:SR (J1 0 (Qp f s.Block s.Leaf<|Leaf.mk 1 s.Text).Blocks) (r++ [Aj.mk s.Block s.Leaf p]):=by
   rw[k3 p<|gZ h3]
   refine SR.add (by grind) λx hx=>?_
   have:=hn x hx;have:=ha.1;show x.Page.Seq<p.Seq;omega
  have:=Y8 k1 b h4 (n:=p.Seq+1) (λy hy=>by
   rw[A0,Bl]at hy
   rcases hy with hy|rfl
   ·have:=hn y hy;have:=ha.1;omega
   grind) ha.2
  rw[Bw]at this;exact this
 |f,[],q::ps,g,r,n,hf,a,h,hn,ha=>h.elim
 |f,s::ss,[],g,r,n,hf,a,h,hn,ha=>h.elim
theorem S7:∀{f:Flash} {ss:List AE} {ps:List Page} {g:Flash} (k:Nat),Fp f ss ps g->∃m,Fp f (ss.take k) (ps.take k) m
 |f,[],[],g,k,h=>⟨f,by simp[Fp]⟩
 |f,s::ss,p::ps,g,0,h=>⟨f,rfl⟩
 |f,s::ss,p::ps,g,k+1,h=>by
  obtain⟨m,hm⟩:=S7 k h.2.2.2;exact⟨m,h.1,h.2.1,h.2.2.1,hm⟩
 |f,[],q::ps,g,k,h=>h.elim
 |f,s::ss,[],g,k,h=>h.elim
theorem uK (hg:AU g) (h:Fp f ss ps g) (hs:ss.length<=1000) (p:Page):
  (∃s g',CG g ss p=some (g',ss++ [s],true)/\Fp f (ss++ [s]) (ps++ [p]) g'/\AU g'/\Gj p/\Sq g s.Block s.Leaf)\/CG g ss p=some (g,ss,false):=by
 by_cases hp:Gj p
 ·obtain⟨t,t1,t2,t3,t4⟩:=aJ hp
  rcases Si hg ss (by omega) p t1 (λ_=>⟨t2,t3⟩)with⟨_,b,l,q1,_,q2⟩|q
  ·left;have hm:YY g b l t:=by
    obtain⟨x,a1,a2,a3,a4⟩:=q1;exact⟨x,a1,a2,a3,a4,t2,t3⟩
   exact⟨_,_,q2,S8 h hm t4,(M1 hg hm).1,hp,q1⟩
  exact .inr q
 rcases Si hg ss (by omega) p (uN hp) (λhh=>by cases hh)with⟨hh,_⟩|q
 ·cases hh
 exact .inr q
theorem Xo (hf:AU f) (ps:List Page) (rt:Bool) (c:ps.length<=9) (a:List Page) (ss0:List AE) (g0:Flash) (ok0:Bool) (h0:ok0=true->Fp f ss0 a g0/\AU g0/\ss0.length<=1):
  ∃ss ok,Ai (λs:List AE×Bool×Int×List Block=>Bk (ps,rt) s.1 s.2.1 s.2.2.1 s.2.2.2) (ss0,ok0,0,g0.Blocks)=some (ss,ok)/\(ok=true->ok0=true/\∃g,Fp f ss (a++ps) g/\AU g/\∀p∈ps,Gj p):=by
 obtain⟨b,h1,h2⟩:=A9 (body:=λs:List AE×Bool×Int×List Block=>Bk (ps,rt) s.1 s.2.1 s.2.2.1 s.2.2.2) (λ(o:List AE×Bool×List Block) i=>(o.1,o.2.1,i,o.2.2)) ps.length
  (λi o=>o.2.1=true->ok0=true/\Fp f o.1 (a++ps.take i) (Flash.mk o.2.2)/\AU (Flash.mk o.2.2)/\o.1.length<=i+1/\∀p∈ps.take i,Gj p)
  (λb=>b.2=true->ok0=true/\∃g,Fp f b.1 (a++ps) g/\AU g/\∀p∈ps,Gj p)
  (λo i hi hs=>by
   obtain⟨ss,ok,bl⟩:=o;have hx:=Ab hi;simp only[Bk,Gk,Ac hi,An,Aa]
   cases ok with
   |false=>grind
   |true=>
    obtain⟨k0,k1,k2,k3,k4⟩:=hs rfl;simp only[An,Ao,hx,Aa];refine .inl ?_
    rcases uK k2 k1 (by omega) ps[i]with⟨s,g',q1,q2,q3,q4,_⟩|q
    ·rw[q1];rw[ad1];refine⟨(ss++ [s],true,g'.Blocks),rfl,λ_=>⟨k0,?_,q3,by simp;omega,λp hp=>?_⟩⟩
     ·simp_all
     grind [Af]
    rw[q];rw[ad1]
    simp)
  (λo hs=>⟨(o.1,o.2.1),by grind [Gk,Bk],λhh=>by grind⟩) (s:=(ss0,ok0,g0.Blocks)) (λhh=>by simp_all)
 grind
def BV (d:Ax) (c:Int) (a:ByteArray):List Page:=if L a=[]then []else [Page.mk 1 d.Seq c 0 1 a]
def EX (d:Ax) (a:ByteArray):Int:=if L a=[]then d.Seq else d.Seq+1
theorem TS (hf:AU d.Flash) (j:0<=d.Seq/\d.Seq<=1000000001) (b:List BS) (h:b≠ []) (hr:b.length<=1000) (i:∀r∈b,EG r=true) (a:ByteArray):
  Co d b a=some ([],false)\/∃steps T g c,b[b.length-1]?=some c/\Co d b a=some (steps,true)/\1<=T.length/\T.length<=9/\N8 T=IQ b/\(∀t∈T,(L t).length<=90)/\
   Fp d.Flash steps (BV d c.Chunk a++By (EX d a) d.Tx T) g/\AU g/\(∀p∈BV d c.Chunk a++By (EX d a) d.Tx T,Gj p)/\T.length<=max 1 b.length:=by
 have k:0<b.length:=HA.2 h;obtain⟨c,e⟩:∃c,b[b.length-1]?=some c:=⟨_,Ab<|by omega⟩;unfold Co;rw[show(ln b==0)=false by grind [Bi]];have first:∃ss0 g0 ok0,(cond (!(seq a<|bs [])) (((gi b<|sb (ln b) 1).bind λx1=>(CG d.Flash []<|Page.mk 1 d.Seq x1.Chunk 0 1 a).bind λv1=>some (v1.2.1,v1.2.2,v1.1.Blocks):Option (List AE×Bool×List Block)).bind λj2=>some (j2.1,ad d.Seq 1,j2.2.1,j2.2.2)) (some ([],d.Seq,true,d.Flash.Blocks)):Option (List AE×Int×Bool×List Block))=some (ss0,EX d a,ok0,Flash.Blocks g0)/\(ok0=true->Fp d.Flash ss0 (BV d c.Chunk a) g0/\AU g0/\ss0.length<=1/\∀p∈BV d c.Chunk a,Gj p):=by
  by_cases ht:L a=[]
  ·have:seq a (bs [])=true:=by grind [Kc,JK,Du]
   rw[this];refine⟨[],d.Flash,true,?_,λ_=>⟨?_,hf,by simp,?_⟩⟩
   ·grind [EX]
   ·unfold BV;rw[B3 ht];rfl
   unfold BV;grind
  have:seq a (bs [])=false:=by grind [Kc,Du]
  rw[this];rw[Bi,BC,show(b.length:Int)-1=((b.length-1:Nat):Int) by omega,Ao,e,Aa,BL];have e1:EX d a=d.Seq+1:=by grind [EX]
  have e2:BV d c.Chunk a=[Page.mk 1 d.Seq c.Chunk 0 1 a]:=by grind [BV]
  rw[e1,e2]
  rcases uK (f:=d.Flash) (ss:=[]) (ps:=[]) hf rfl (by simp) (Page.mk 1 d.Seq c.Chunk 0 1 a)with⟨s,g',q1,q2,q3,q4,_⟩|q
  ·rw[q1];refine⟨_,g',true,rfl,λ_=>⟨q2,q3,by simp,λp hp=>?_⟩⟩
   grind
  rw[q];exact⟨_,d.Flash,false,rfl,λhh=>by cases hh⟩
 obtain⟨ss0,g0,ok0,e0,h0⟩:=first
 rw[e0];simp only[Aa];obtain⟨T,t1,t2,t3,tm,t4⟩:=bS (EX d a) d.Tx b hr i
 rcases t4 with⟨t4,t5,t6,t7,t8,t9⟩|⟨t4,_⟩
 ·rw[t4];simp only[Aa];obtain⟨ss,ok,q1,q2⟩:=Xo hf (By (EX d a) d.Tx T) true (by unfold By;grind) (BV d c.Chunk a) ss0 g0 ok0 λhh=>⟨(h0 hh).1,(h0 hh).2.1,(h0 hh).2.2.1⟩;rw[q1];simp only[Aa]
  grind
 rw[t4];obtain⟨ss,ok,q1,q2⟩:=Xo hf [] false (by simp) (BV d c.Chunk a) ss0 g0 ok0 λhh=>⟨(h0 hh).1,(h0 hh).2.1,(h0 hh).2.2.1⟩
 grind
theorem P3 (hf:AU d.Flash) (q:0<=d.Seq/\d.Seq<=1000000001) (h:List BS) (u:h≠ []) (hr:h.length<=1000) (v:∀r∈h,EG r=true) (i:ByteArray):
  Co d h i=some ([],false)\/∃steps T g j,h[h.length-1]?=some j/\Co d h i=some (steps,true)/\1<=T.length/\T.length<=9/\N8 T=IQ h/\(∀t∈T,(L t).length<=90)/\
   Fp d.Flash steps (BV d j.Chunk i++By (EX d i) d.Tx T) g/\AU g/\∀p∈BV d j.Chunk i++By (EX d i) d.Tx T,Gj p:=
 (TS hf q h u hr v i).imp id λ⟨s,T,g,l,a,b,c,e,f,k,m,n,o,_⟩=>⟨s,T,g,l,a,b,c,e,f,k,m,n,o⟩
def JM (r:List Aj) (c:Int):Option Aj:=(r.filter<|HX c).getLast?
noncomputable def WE (t:ByteArray):Option ByteArray:=match Gt t with
 |some (s,true)=>some s
 |_=>none
noncomputable def BB (r:List Aj) (c:Int):Option ByteArray:=(JM r c).bind λy=>WE y.Page.Text
theorem T5:HX c y=true↔y.Page.Kind=1/\y.Page.Tx=c:=by
 unfold HX
 grind
theorem Xy (h:JM r c=some y):y∈r/\y.Page.Kind=1/\y.Page.Tx=c:=by
 have:=List.mem_of_getLast? h
 grind [T5]
theorem NQ (r:List Aj) (y:Aj) (c:Int):JM (r++ [y]) c=if y.Page.Kind=1/\y.Page.Tx=c then some y else JM r c:=by simp_all [T5,JM];grind
theorem aP (r m:List Aj) (h:∀y∈m,y.Page.Kind≠1) (c:Int):JM (r++m) c=JM r c:=by grind [T5,JM]
theorem XV {α:Type} {y:α} (l:List α) (p:α->Bool) (h:l.getLast? =some y) (hp:p y=true):(l.filter p).getLast? =some y:=by
 rcases Gp l with e|⟨m,x,e⟩
 ·grind
 grind
theorem iE (p:Aj->Bool) (h:JM r c=some y) (hp:p y=true):JM (r.filter p) c=some y:=by
 unfold JM at h⊢;rw[D3];have:r.filter (λa=>HX c a&&p a)=(r.filter<|HX c).filter p:=by grind [D3]
 grind [XV]
theorem Xw {o:Option Nat} (h:PE c r r.length o):JM r c=o.bind λj=>r[j]? :=by
 cases o with
 |none=>
  unfold JM;have:r.filter (HX c)=[]:=by
   rw[BD];intro y hy;obtain⟨j,hj,rfl⟩:=Av hy;have:=h j r[j] hj<|Ab hj;rw[this];simp
  rw[this];rfl
 |some j=>
  obtain⟨h1,⟨y,h2,h3⟩,h4⟩:=h;unfold JM;obtain⟨e1,e2⟩:=I8 h2;have:(r.drop<|j+1).filter (HX c)=[]:=by
   rw[BD];intro z hz;obtain⟨k,hk,rfl⟩:=Av hz;rw[Oh]at hk;rw[List.getElem_drop];have:=h4 (j+1+k) _ (by omega) (by omega) (Ab<|by omega);rw[this];simp
  grind
theorem lN (hr:r.length<=1048576) (c:Int):∃y ok,MX r c=some (y,ok)/\JM r c=(if ok=true then some y else none):=by
 obtain⟨o,h1,h2⟩:=aO r hr c;have h3:=Xw h2
 cases o with
 |none=>grind
 |some j=>
  obtain⟨_,⟨y,k1,_⟩,_⟩:=h2
  grind [JH]
theorem gK (hr:F5 r) (c:Int):∃u ok,LR r c=some (u,ok)/\BB r c=(if ok=true then some u else none):=by
 obtain⟨y,ok,h1,h2⟩:=lN hr.len c;unfold LR BB;rw[h1,h2]
 cases ok with
 |false=>simp
 |true=>
  have hy:=(Xy (by rw[h2];rfl)).1;obtain⟨u,ok2,k1,_,_⟩:=RV y.Page.Text (by have:=hr.text y hy;omega)
  grind [WE]
structure Iy (r:List Aj):Prop where
 pages:F5 r
 inc:r.Pairwise λx y=>x.Page.Seq<y.Page.Seq
 mu:kA r
def CT (l:Vs) (c:Int):Prop:=0<c/\∃p∈l,c∈p.2
structure Ga (r:List Aj) (P:Int->Prop):Prop where
 data:∀c,P c->∃s,BB r c=some s
 dist:∀c c',P c->P c'->BB r c=BB r c'->c=c'
theorem Ga.mono {Q:Int->Prop} (h:Ga r P) (hq:∀c,Q c->P c):Ga r Q:=⟨λc hc=>h.data c<|hq c hc,λc c' hc hc'=>h.dist c c' (hq c hc)<|hq c' hc'⟩
theorem Ga.congr (h:Ga r P) (he:∀c,P c->BB r' c=BB r c):Ga r' P:=⟨λc hc=>by rw[he c hc];exact h.data c hc,λc c' hc hc' e=>h.dist c c' hc hc'<|by grind⟩
theorem Ga.metas {m:List Aj} (h:Ga r P) (hm:∀y∈m,y.Page.Kind≠1):Ga (r++m) P:=h.congr λc _=>by grind [aP,BB]
theorem kJ (h:Ga r P) (hy:¬P y.Page.Tx):Ga (r++ [y]) P:=h.congr λc hc=>by grind [NQ,BB]
theorem kK (h:Ga r P) (hy:WE y.Page.Text=BB r y.Page.Tx):Ga (r++ [y]) P:=h.congr λc hc=>by grind [NQ,BB]
theorem sQ {s:ByteArray} (h:Ga r P) (hk:y.Page.Kind=1) (hn:¬P y.Page.Tx) (ht:WE y.Page.Text=some s) (hs:∀c,P c->BB r c≠some s):Ga (r++ [y]) (λc=>P c\/c=y.Page.Tx):=by
 have b:BB (r++ [y]) y.Page.Tx=some s:=by grind [NQ,BB]
 have a:∀c,P c->BB (r++ [y]) c=BB r c:=λc hc=>by grind [NQ,BB]
 refine⟨λc hc=>?_,λc c' hc hc' e=>?_⟩
 ·rcases hc with hc|rfl
  ·rw[a c hc];exact h.data c hc
  grind
 rcases hc with hc|rfl<;>rcases hc' with hc'|rfl
 ·exact h.dist c c' hc hc'<|by grind
 ·grind
 ·grind
 rfl
theorem Iy.filter (h:Iy r) (p:Aj->Bool):Iy (r.filter p):=by
 refine⟨⟨by have:=Cu p r;have:=h.pages.len;omega,λy hy=>h.pages.text y (AQ.1 hy).1,λy hy=>h.pages.seq y (AQ.1 hy).1,λy hy=>h.pages.tx y (AQ.1 hy).1,λy hy=>h.pages.cnt y (AQ.1 hy).1,λy hy=>h.pages.part y (AQ.1 hy).1⟩,h.inc.filter _,⟨λy hy z hz=>h.mu.uniq y (AQ.1 hy).1 z (AQ.1 hz).1⟩⟩
theorem Iy.add (h:Iy r) (hl:r.length<=1000000) (hb:Gj y.Page) (hs:Dj r<=y.Page.Seq) (hm:y.Page.Kind=2->∀z∈r,z.Page.Kind=2->z.Page.Tx=y.Page.Tx->z.Page.Part≠y.Page.Part):Iy (r++ [y]):=by
 obtain⟨b1,b2,b3,b4,b5,b6,b7⟩:=hb
 have all:∀{P:Aj->Prop},(∀z∈r,P z)->P y->∀z∈r++ [y],P z:=λh1 h2 z hz=>by grind
 refine⟨⟨by simp;omega,all h.pages.text b6,all h.pages.seq b2,all h.pages.tx b3,all h.pages.cnt b4,all h.pages.part b5⟩,?_,⟨λu hu v hv k1 k2 e1 e2=>?_⟩⟩
 ·rw[AX];refine⟨h.inc,List.pairwise_singleton _ _,λu hu v hv=>?_⟩;rw[Bl]at hv;rw[hv];have:=(Lq r).1 u hu;omega
 rw[A0,Bl]at hu hv
 rcases hu with hu|rfl<;>rcases hv with hv|rfl
 ·exact h.mu.uniq u hu v hv k1 k2 e1 e2
 ·grind
 ·grind
 rfl
theorem ZN (h:Dj r<=y.Page.Seq):Dj (r++ [y])=y.Page.Seq+1:=by rw[Wh,B3 h]
theorem Iy.metas {t:Int} (h:Iy r) (ht:∀y∈r,y.Page.Kind=2->y.Page.Tx<t):∀(m:List Aj) (k:Nat),r.length+m.length<=1000000->(∀(i:Nat) y,m[i]?=some y->y.Page.Kind=2/\y.Page.Tx=t/\y.Page.Part=i/\y.Page.Seq=Dj r+i/\Gj y.Page)->k<=m.length->Iy (r++m.take k)/\Dj (r++m.take k)=Dj r+k
 |m,0,_,_,_=>by simpa using h
 |m,k+1,hl,hm,hk=>by
  obtain⟨ih1,ih2⟩:=Iy.metas h ht m k hl hm (by omega);have hx:m[k]?=some m[k]:=Ab (by omega);obtain⟨k1,k2,k3,k4,k5⟩:=hm k _ hx;rw[Af (by omega),<-Bw];refine⟨Iy.add ih1 (by simp;omega) k5 (by grind) λ_ z hz a b=>?_,?_⟩
  ·grind [Av]
  grind [ZN]
theorem pK (i:Int):∀(k:Int) (l:List Leaf),(Vu i k l).length<=l.length
 |_,[]=>Ay _
 |k,x::l=>by
  rw[Vu,A4,AB];have:=pK i (k+1) l
  grind [pg]
theorem dG:∀(i:Int) (l:List Block),(J1 i l).length<=nl l
 |_,[]=>Ay _
 |i,b::l=>by
  rw[J1,A4];have:=dG (i+1) l
  grind [pK,nl]
theorem ABG (hf:AU f) (h:SR (J1 0 f.Blocks) r):r.length<=40:=by
 have h1:=dG 0 f.Blocks;have h2:=hf.few;have h3:=h.2.len;omega
theorem MC:∀{ss:List AE} {ps:List Page} {i:Nat} {y:Aj},(BQ ss ps)[i]?=some y->ps[i]?=some y.Page
 |[],_,i,y,h=>by simp[BQ]at h
 |s::ss,[],i,y,h=>by simp[BQ]at h
 |s::ss,p::ps,0,y,h=>by grind [BQ]
 |s::ss,p::ps,i+1,y,h=>by grind [BQ]
theorem XZ (h:ss.length=ps.length):(BQ ss ps).length=ps.length:=by unfold BQ;grind
theorem V5 (ss:List AE) (ps:List Page) (k:Nat):BQ (ss.take k) (ps.take k)=(BQ ss ps).take k:=by unfold BQ;grind
theorem jJ:∀(T:List ByteArray),(∀t∈T,(L t).length<=90)->(N8 T).length<=90*T.length
 |[],_=>by simp[N8]
 |t::T,h=>by
  have:=jJ T λx hx=>h x<|by simp[hx]
  grind [N8]
theorem aR {r1 m:List Aj} (h:Iy r1) (hl:r1.length<=1000) {a:List BS} (c:1<=T.length) (d:T.length<=9) (e:∀t∈T,(L t).length<=90) (f:N8 T=IQ a) (g:∀r∈a,EG r=true) (hm:∀(i:Nat) y,m[i]?=some y->(By (Dj r1) (Ed r1) T)[i]?=some y.Page) (j:m.length=T.length) (l:∀p∈By (Dj r1) (Ed r1) T,Gj p) (k:Nat) (hk:k<=T.length):
  Iy (r1++m.take k)/\(∀y∈m.take k,y.Page.Kind≠1)/\(k<T.length->AK (r1++m.take k)=AK r1)/\(k=T.length->∃q,AK (r1++m.take k)=AK r1++ [Tx.mk (Ed r1) q a]):=by
 have n:∀(i:Nat) y,m[i]?=some y->∃t,T[i]?=some t/\y.Page=Page.mk 2 (Dj r1+i) (Ed r1) i T.length t:=by grind [By]
 have b:=WF r1;obtain⟨c1,_⟩:=Iy.metas h b.1 m k (by omega) (λi y hy=>by grind) (by omega);have hN:bV (m.take k) (Ed r1) T.length T:=by
  refine⟨by grind,⟨c,d⟩,rfl,λi y hy=>?_⟩
  grind
 obtain⟨g1,g2⟩:=m6 r1 (λy hy=>(h.pages.tx y hy).1) b.1 b.2.1 hN;refine⟨c1,λy hy=>by rw[(hN.all hy).1];omega,λhh=>g1 (by grind),λhh=>g2 (by grind) a ?_⟩
 grind [lQ,jJ]
structure IE (d:Ax) (r:List Aj):Prop where
 dev:Gf d r
 core:Iy r
 data:Ga r (CT (AO d.Store))
theorem IE.few (h:IE d r):r.length<=40:=ABG h.dev.fl h.dev.sr
theorem Lj (hg:AU g) (a:SR (J1 0 g.Blocks) r):∃d,BZ g=some (d,true)/\Gf d r/\d.Flash=g:=by
 obtain⟨d,r',h1,h2,h3⟩:=Tk hg;have:r'=r:=by
  have h4:=h2.sr;rw[h3]at h4;exact h4.uniq a
 grind
theorem RT (seq tx:Int) (T:List ByteArray):G0 seq (By seq tx T):=by
 have a:∀(l:List ByteArray) (i:Nat) (n:Int),n<=seq+i->G0 n (l.mapIdx λj t=>Page.mk 2 (seq+(i+j:Nat)) tx (i+j:Nat) T.length t):=by
  intro l
  induction l with
  |nil=>intro i n _;trivial
  |cons x l ih=>
   intro i n hn;rw[List.mapIdx_cons];refine⟨by simpa using hn,?_⟩;have:=ih (i+1) (seq+(i:Int)+1)<|by omega
   grind
 have:=a T 0 seq<|by omega
 grind [By]
theorem nG (c:Int) (a:ByteArray) (tx:Int) (T:List ByteArray):G0 d.Seq (BV d c a++By (EX d a) tx T):=by
 unfold BV EX;by_cases e:L a=[]
 ·grind [RT]
 rw[Bc e,Bc e];exact⟨HZ _,RT _ _ _⟩
theorem KV (ss:List AE) (ps:List Page) (k:Nat):∀y∈(BQ ss ps).take k,y.Page∈ps:=by
 intro y hy;obtain⟨i,hi,rfl⟩:=Av<|List.mem_of_mem_take hy;exact Ap<|MC<|Ab hi
def Em (f:Flash) (n:Int):Prop:=∀b∈f.Blocks,b.Wear<=n
theorem oN {l:List Block} {n:Int} {x:Block} (h:∀y∈l,y.Wear<=n) (hx:x.Wear<=n):∀y∈si l b x,y.Wear<=n:=by grind [si]
theorem ZH {s:AE} {n m:Int} (h:Em f n) (hm:n<=m) (hs:s.Kind=1\/n+1<=m):Em (KF f s) m:=by
 have h0:∀y∈f.Blocks,y.Wear<=m:=λy hy=>by have:=h y hy;omega
 unfold KF Qp Vj Em;by_cases e:s.Kind=1
 ·rw[B3 e]
  cases hg:gi f.Blocks s.Block with
  |none=>exact h0
  |some x=>exact oN h0<|h0 x<|Ap (Cp hg).2
 rw[Bc e]
 cases hg:gi f.Blocks s.Block with
 |none=>exact h0
 |some x=>exact oN h0 (by have:=h x<|Ap (Cp hg).2;grind)
theorem S6 {n:Int}:∀{f:Flash} {ss:List AE} {ps:List Page} {g:Flash},Fp f ss ps g->Em f n->Em g n
 |f,[],[],g,h,hw=>by rw[show g=f from h];exact hw
 |f,s::ss,p::ps,g,h,hw=>S6 h.2.2.2 (ZH hw (HZ _) (.inl h.1))
 |f,[],q::ps,g,h,_=>h.elim
 |f,s::ss,[],g,h,_=>h.elim
theorem P5:∀{f:Flash} {ss:List AE} {ps:List Page} {g:Flash},Fp f ss ps g->∀s∈ss,s.Kind=1
 |f,[],[],g,h,s,hs=>by cases hs
 |f,s::ss,p::ps,g,h,x,hs=>by
  rcases FI.1 hs with rfl|hs
  ·exact h.1
  exact P5 h.2.2.2 x hs
 |f,[],q::ps,g,h,_,_=>h.elim
 |f,s::ss,[],g,h,_,_=>h.elim
def W8 (f g:Flash):Prop:=∀n,Em f n->Em g n
theorem Ug (h:IE d r) {l:List BS} (x:∀r∈l,EG r=true) {a:ByteArray} {b:BS} {steps:List AE} (z:1<=T.length) (h0:T.length<=9) (h1:N8 T=IQ l) (v:∀t∈T,(L t).length<=90) (hp:Fp d.Flash steps (BV d b.Chunk a++By (EX d a) d.Tx T) g) (o:∀p∈BV d b.Chunk a++By (EX d a) d.Tx T,Gj p) (a6:L a≠ []->¬CT (AO d.Store) b.Chunk) (k:Nat) (hk:k<=steps.length):
  ∃m d' r',Steps d.Flash (steps.take k) m/\AU m/\BZ m=some (d',true)/\Gf d' r'/\d'.Flash=m/\r'=r++(BQ steps (BV d b.Chunk a++By (EX d a) d.Tx T)).take k/\W8 d.Flash m/\Iy r'/\Ga r' (CT (AO d.Store))/\
   (k<steps.length->AK r'=AK r)/\(k=steps.length->(∃q,AK r'=AK r++ [Tx.mk d.Tx q l])/\∀s,WE a=some s->L a≠ []->(∀c,CT (AO d.Store) c->BB r c≠some s)->Ga r' (λc=>CT (AO d.Store) c\/c=b.Chunk)):=by
 obtain⟨a7,f⟩:=DQ hp;obtain⟨m,hm⟩:=S7 k hp;obtain⟨h2,_⟩:=DQ hm;have h3:=W2 h.dev.fl h2;have a5:=h.few
 have h4:∀y∈r,y.Page.Seq<d.Seq:=λy hy=>by rw[h.dev.seq];simp_all [Lq]
 have h5:=nG (d:=d) b.Chunk a d.Tx T;have ascT:∀(ps:List Page) (n:Int) (k:Nat),G0 n ps->G0 n (ps.take k):=by
  intro ps
  induction ps with
  |nil=>grind
  |cons p ps ih=>
   intro n k ha
   cases k with
   |zero=>trivial
   |succ k=>exact⟨ha.1,ih _ k ha.2⟩
 have h6:=Y8 h.dev.fl h.dev.sr hm h4<|ascT _ _ k h5;rw[V5]at h6;obtain⟨d',u1,u2,u3⟩:=Lj h3 h6;refine⟨m,d',r++(BQ steps<|BV d b.Chunk a++By (EX d a) d.Tx T).take k,h2,h3,u1,u2,u3,rfl,λ_=>S6 hm,?_⟩;have w:(By (EX d a) d.Tx T).length=T.length:=by unfold By;grind
 have u:=XZ f;by_cases e:L a=[]
 ·
  have e1:BV d b.Chunk a=[]:=by grind [BV]
  have e2:EX d a=d.Seq:=by grind [EX]
  rw[e1,e2,Az]at u f o⊢;rw[e2]at w;rw[h.dev.seq,h.dev.tx]at u f o w⊢;obtain⟨a1,a2,a3,a4⟩:=aR h.core (by omega) z h0 v h1 x (m:=BQ steps<|By (Dj r) (Ed r) T) (λi y hy=>MC hy) (by omega) o k (by omega);exact⟨a1,h.data.metas a2,λhh=>a3 (by omega),λhh=>⟨a4 (by omega),λs _ h7=>absurd e h7⟩⟩
 have e1:BV d b.Chunk a=[Page.mk 1 d.Seq b.Chunk 0 1 a]:=by grind [BV]
 have e2:EX d a=d.Seq+1:=by grind [EX]
 rw[e1,e2]at u f o⊢;rw[e2]at w;rw[Jb]at u f o⊢;rw[AB]at f u
 match hsteps:steps,f with
 |[],f=>simp at f
 |s0::ss,f=>
  have ef:BQ (s0::ss) (Page.mk 1 d.Seq b.Chunk 0 1 a::By (d.Seq+1) d.Tx T)=Aj.mk s0.Block s0.Leaf (Page.mk 1 d.Seq b.Chunk 0 1 a)::BQ ss (By (d.Seq+1) d.Tx T):=rfl;rw[ef]
  cases k with
  |zero=>
   rw[Zv,AI];exact⟨h.core,h.data,λ_=>rfl,λhh=>by simp at hh⟩
  |succ k=>
   rw[List.take_succ_cons];generalize h8:Aj.mk s0.Block s0.Leaf (Page.mk 1 d.Seq b.Chunk 0 1 a)=y0;have j:y0.Page=Page.mk 1 d.Seq b.Chunk 0 1 a:=by rw[<-h8]
   have c1:Iy (r++ [y0]):=Iy.add h.core (by omega) (by grind) (by rw[j,h.dev.seq];exact HZ _) (λhh=>by grind);have g1:AK (r++ [y0])=AK r:=V4 r (by rw[j];simp);have s1:Dj (r++ [y0])=d.Seq+1:=by rw[ZN (by rw[j,h.dev.seq];exact HZ _),j]
   have t1:Ed (r++ [y0])=d.Tx:=by rw[Wf,Bc (by rw[j];simp),h.dev.tx]
   have h9:(BQ ss<|By (d.Seq+1) d.Tx T).length=T.length:=by grind
   rw[List.append_cons];obtain⟨a1,a2,a3,a4⟩:=aR c1 (by simp;omega) z h0 v h1 x (m:=BQ ss<|By (d.Seq+1) d.Tx T) (by grind [MC]) h9 (by grind) k (by omega);have dz:Ga (r++ [y0]) (CT<|AO d.Store):=kJ h.data (by grind);rw[g1,t1]at a4;rw[g1]at a3;have a8:ss.length=T.length:=by simp at f;omega
   refine⟨a1,dz.metas a2,λhh=>a3 (by simp at hh;omega),λhh=>⟨a4 (by simp at hh;omega),λs hs _ a0=>?_⟩⟩;have:=sQ h.data (y:=y0) (s:=s) (by rw[j]) (by grind) (by grind) a0;rw[j]at this;exact this.metas a2
theorem Yr (h:BR s):Oc s.Arena:=by unfold Oc;have:=h.few;omega
theorem uZ (h:BR s) (x:Int):x∈HW s s.Vols.length↔∃p∈AO s,x∈p.2:=by
 unfold HW AO;simp only[List.mem_flatten,A7]
 have a:∀v∈s.Vols,(HG s.Arena v.Root).getD []=EF s.Arena.Knots v.Root:=λv hv=>by
  rw[Kj _ (by have:=h.few;omega) h.ar<|h.root _<|A7.2 ⟨v,hv,rfl⟩];rfl
 grind
theorem E5 (h:BR s):∃l,Ef s=some l/\asc l/\(∀x,x∈l↔CT (AO s) x)/\l.length<=16777216:=by
 have:=h.len;obtain⟨l,h1,h2,h3⟩:=Vp s (by omega)<|Yr h;refine⟨l,h1,h2.1,λx=>?_,h3⟩;rw[h2.2 x,uZ h]
 grind [CT]
theorem T3 (h:BR s) (hc:CT (AO s) c):0<c/\c<s.Next:=by
 obtain⟨h0,p,hp,hx⟩:=hc;unfold AO at hp;obtain⟨v,hv,rfl⟩:=A7.1 hp;exact⟨h0,h.lt _ (A7.2 ⟨v,hv,rfl⟩) c hx⟩
def BX (r:List Aj) (live:List Int) (a:Int):List Bool:=live.foldl (YW r)<|r.map<|Dh a
theorem IR (r:List Aj) (live:List Int) (a:Int):(BX r live a).length=r.length:=by unfold BX;rw[Ya,Bt]
theorem NR (r:List Aj) (live:List Int) (a:Int) (hy:r[j]?=some y):(BX r live a)[j]?=some (Dh a y||live.any (λc=>PK c r r.length==some j)):=by grind [X1,BX]
theorem yL (h:PK c r r.length=some j):JM r c=r[j]? :=by
 rw[Xw<|NI c r r.length<|Ay _,h];rfl
theorem zL (h:JM r c=some y):∃j,PK c r r.length=some j/\r[j]?=some y:=by
 have:=Xw<|NI c r r.length<|Ay _;rw[h]at this
 cases ht:PK c r r.length with
 |none=>grind
 |some j=>grind
theorem qG {p:Nat->Bool} (h:cn n p=0):∀j,j<n->p j=false:=by grind [BD,cn]
theorem zD {live:List Int} {a b:Int} (h:cn r.length (λj=>(BX r live a)[j]?.getD false&&bk r b j)=0):∀y∈r,y.Block=b->(y.Page.Kind=2->y.Page.Tx<a)/\∀c∈live,JM r c≠some y:=by
 intro y hy hb;obtain⟨j,hj,rfl⟩:=Av hy;have hx:=Ab hj;have h1:=qG h j hj;rw[NR r live a hx]at h1;have h2:bk r b j=true:=by unfold bk;grind
 rw[h2,Bool.and_true,D7,Bool.or_eq_false_iff]at h1;refine⟨λhk=>?_,λc hc hn=>?_⟩
 ·grind [Dh]
 
 obtain⟨i,i1,i2⟩:=zL hn
 grind [qG,NR,bk]
theorem Xe (h:Gf d r):∃l,Jx d=some l/\l.length<=10/\∀b∈l,∃x,gi d.Flash.Blocks b=some x/\x.Bad=false/\∀y∈r,y.Block=b->(y.Page.Kind=2->y.Page.Tx<d.Base)/\∀c,CT (AO d.Store) c->JM r c≠some y:=by
 obtain⟨live,l1,l2,l3,l4⟩:=E5 h.st;have hn:=h.fl.n;unfold Jx;rw[h.scan.s,l1];simp only[Aa];rw[LG r live d.Base h.scan.len l4];have e:live.foldl (YW r) (r.map<|Dh d.Base)=BX r live d.Base:=rfl;rw[e];obtain⟨b,q1,q2⟩:=A9 (body:=λs:List Int×Int=>Ea d r (BX r live d.Base) s.1 s.2) (λ(o:List Int) i=>(o,i)) d.Flash.Blocks.length
  (λi o=>o.length<=i/\∀b∈o,∃x,gi d.Flash.Blocks b=some x/\x.Bad=false/\∀y∈r,y.Block=b->(y.Page.Kind=2->y.Page.Tx<d.Base)/\∀c,CT (AO d.Store) c->JM r c≠some y)
  (λo=>o.length<=10/\∀b∈o,∃x,gi d.Flash.Blocks b=some x/\x.Bad=false/\∀y∈r,y.Block=b->(y.Page.Kind=2->y.Page.Tx<d.Base)/\∀c,CT (AO d.Store) c->JM r c≠some y)
  (λo i hi ho=>by
   have hx:=Ab hi;have hP:=h.fl.blk _<|Ar hi;obtain⟨nbl,_,bl⟩:=jM d.Flash.Blocks[i] (by rw[hP.four];omega);simp only[Ea,D6 hi,Ao,hx,Aa];rw[bl,Xr r _ (i:Int) h.scan.len<|IR _ _ _,ad1];simp only[Aa];refine .inl ?_
   cases a:d.Flash.Blocks[i].Bad with
   |true=>grind
   |false=>
    simp only[BW,An]
    cases g:(!(!decide (nbl<ln d.Flash.Blocks[i].Leaves)))with
    |false=>grind
    |true=>
     cases hz:((((cn r.length (λj=>(BX r live d.Base)[j]?.getD false&&bk r (i:Int) j):Nat)):Int)==0)with
     |false=>grind
     |true=>
      rw[Bq (by simp;omega)];refine⟨_,rfl,by simp;omega,λb hb=>?_⟩;rw[A0,Bl]at hb
      rcases hb with hb|rfl
      ·exact ho.2 b hb
      refine⟨_,by grind [Ao],a,λy hy f=>?_⟩;have hz':cn r.length (λj=>(BX r live d.Base)[j]?.getD false&&bk r (i:Int) j)=0:=by grind
      obtain⟨a1,a2⟩:=zD hz' y hy f
      grind)
  (λo ho=>⟨o,by simp[Dk,Ea],by omega,ho.2⟩) (s:=[]) ⟨by simp,λb hb=>by cases hb⟩
 grind
theorem Hc (h:Gf d r) (h':Gf d' r') (e:Cv (AK r')=Cv (AK r)):AO d'.Store=AO d.Store/\d'.Store.Next=d.Store.Next/\d'.Base=d.Base:=by
 have h1:=h'.ab;rw[e,<-h.ab]at h1
 injection h1 with h1 h2
 exact⟨h1,h2,by rw[h'.base,h.base,e]⟩
theorem yG (h:IE d r) (hb:∀y∈r,y.Block=b->(y.Page.Kind=2->y.Page.Tx<d.Base)/\∀c,CT (AO d.Store) c->JM r c≠some y) (hg:AU g) (hp:J1 0 g.Blocks=(J1 0 d.Flash.Blocks).filter λy=>y.Block !=b):
  ∃d',BZ g=some (d',true)/\d'.Flash=g/\IE d' (r.filter λy=>y.Block !=b)/\AO d'.Store=AO d.Store/\d'.Store.Next=d.Store.Next/\d'.Base=d.Base/\∀c,CT (AO d.Store) c->BB (r.filter λy=>y.Block !=b) c=BB r c:=by
 have a:SR (J1 0 g.Blocks) (r.filter λy=>y.Block !=b):=by rw[hp];exact h.dev.sr.filter _
 obtain⟨d',u1,u2,u3⟩:=Lj hg a
 have hs:=cA r h.core.pages h.core.mu (λy=>y.Block !=b) (λy hy hk ht=>by
  have:y.Block≠b:=λe=>by
   have:=(hb y hy e).1 hk;rw[h.dev.base]at this;omega
  simpa using this)
 obtain⟨e1,e2,e3⟩:=Hc h.dev u2 hs
 have ht:∀c,CT (AO d.Store) c->BB (r.filter λy=>y.Block !=b) c=BB r c:=λc hc=>by grind [iE,BB,JM]
 refine⟨d',u1,u3,⟨u2,h.core.filter _,?_⟩,e1,e2,e3,ht⟩;rw[e1];exact h.data.congr ht
def Gv (id:Int):Nat->List Int->List BS
 |_,[]=>[]
 |k,x::row=>(if x>0 then [BS.mk 4 id k x]else [])++Gv id (k+1) row
def On (p:Int×List Int):List BS:=BS.mk 2 p.1 0 0::Gv p.1 0 p.2
def L0 (l:Vs) (nx:Int):List BS:=BS.mk 1 0 nx 0::l.flatMap On
theorem OA (id x:Int):∀(k:Nat) (a:List Int),Gv id k (a++ [x])=Gv id k a++(if x>0 then [BS.mk 4 id (k+a.length:Nat) x]else [])
 |k,[]=>by simp[Gv]
 |k,y::a=>by
  rw[BT,Gv,OA id x (k+1) a,Gv,Bw,AB,show k+1+a.length=k+(a.length+1) by omega]
theorem Vq (id:Int):∀(k:Nat) (a:List Int),(Gv id k a).length<=a.length
 |_,[]=>Ay _
 |k,x::a=>by
  rw[Gv,A4,AB];have:=Vq id (k+1) a
  grind
theorem cY (K:Ks) (r:Int):(EF K r).length=16:=by unfold EF;simp
theorem i8:∀(l:Vs),(∀p∈l,p.2.length=16)->(l.flatMap On).length<=17*l.length
 |[],_=>Ay _
 |p::l,h=>by
  have:=i8 l λq hq=>h q<|by simp[hq]
  grind [Vq,On]
theorem Tl (h:BR s):My s=some (L0 (AO s) s.Next):=by
 have hl:=h.len;unfold My;obtain⟨b,h1,h2⟩:=A9 (body:=λq:List BS×Int=>Er s q.1 q.2) (λ(o:List BS) i=>(o,i)) s.Vols.length (λi o=>o=L0 ((AO s).take i) s.Next/\o.length<=1+17*i) (λo=>o=L0 (AO s) s.Next)
  (λo i hi ho=>by
   have hx:=Ab hi;have hr:=h.root _<|A7.2 ⟨s.Vols[i],Ar hi,rfl⟩;have et:(AO s).take (i+1)=(AO s).take i++ [(s.Vols[i].Id,EF s.Arena.Knots s.Vols[i].Root)]:=by grind [Dm,AO]
   simp only[Er,D6 hi,Ao,hx,Aa];rw[Bq (by simp;omega),Aa,Kj _ (by have:=h.few;omega) h.ar hr];simp only[Aa];obtain⟨u,u1,u2,u3⟩:=A9 (body:=λq:List BS×Int=>Ft s (i:Int) (EF s.Arena.Knots s.Vols[i].Root) q.1 q.2) (λ(l:List BS) k=>(l,k)) (EF s.Arena.Knots s.Vols[i].Root).length
    (λk u=>u=o++ [BS.mk 2 s.Vols[i].Id 0 0]++Gv s.Vols[i].Id 0 ((EF s.Arena.Knots s.Vols[i].Root).take k)/\u.length<=o.length+1+k) (λu=>u=o++ [BS.mk 2 s.Vols[i].Id 0 0]++Gv s.Vols[i].Id 0 (EF s.Arena.Knots s.Vols[i].Root)/\u.length<=o.length+17)
    (λu k hk hu=>by
     obtain⟨c,d⟩:=hu;have a:=Ab hk;have f:=cY s.Arena.Knots s.Vols[i].Root;have etk:=Af hk;simp only[Ft,D6 hk,Ao,a,hx,Aa];rw[ad1];refine .inl ?_;by_cases e:(EF s.Arena.Knots s.Vols[i].Root)[k]>0
     ·rw[Ac e,An,Bq (by simp;omega)]
      grind [OA]
     grind [OA])
    (λu hu=>⟨u,by rfl,by grind,by grind [cY]⟩) (s:=o++ [BS.mk 2 s.Vols[i].Id 0 0]) ⟨by simp[Gv],by simp⟩
   grind [ad1,L0,On])
  (λo ho=>⟨o,by simp[Dk,Er],by grind [Iu]⟩) (s:=[BS.mk 1 0 s.Next 0]) ⟨rfl,by simp⟩
 grind
structure VsP (l:Vs) (nx:Int):Prop where
 len:l.length<=3
 nxt:1<=nx/\nx<=1000000000
 ids:∀p∈l,1<=p.1/\p.1<=9
 asc:l.Pairwise λp q=>p.1<q.1
 row:∀p∈l,p.2.length=16
 num:∀p∈l,∀x∈p.2,0<=x/\x<nx
theorem jH {r:Int} (hK:Cl K=true) (hr:CN K r=true):∀x∈EF K r,0<=x:=by grind [B5,Fi,vO,EF,PI]
theorem BR.vs (h:BR s):VsP (AO s) s.Next:=by
 have mem:∀p∈AO s,∃v∈s.Vols,p=(v.Id,EF s.Arena.Knots v.Root):=λp hp=>by
  obtain⟨v,hv,rfl⟩:=A7.1 hp
  grind
 refine⟨by rw[Iu];exact h.len,h.nx,λp hp=>?_,?_,λp hp=>?_,λp hp x hx=>?_⟩
 ·obtain⟨v,hv,rfl⟩:=mem p hp;exact h.ids v hv
 ·have:=h.asc;unfold AO
  grind
 ·grind [cY]
 obtain⟨v,hv,rfl⟩:=mem p hp;have hm:v.Root∈Be s:=A7.2 ⟨v,hv,rfl⟩;exact⟨jH h.ar (h.root _ hm) x hx,h.lt _ hm x hx⟩
theorem rC {id k x:Int} (h1:1<=id/\id<=9) (h2:0<=k/\k<16) (h3:1<=x/\x<=1000000000):EG (BS.mk 4 id k x)=true:=by grind [EG]
theorem ABi {id a:Int} (h1:1<=id/\id<=9) (h2:0<=a/\a<=9):EG (BS.mk 2 id a 0)=true:=by grind [EG]
theorem qU {P:Vs} {id:Int} {a:List Int} (h:∀p∈P,p.1<id) (k:Nat) (x:Int):lF (P++ [(id,a)]) id k x=P++ [(id,a.set k x)]:=by
 unfold lF;rw[IC];congr 1
 ·conv=>rhs;rw[<-SE P]
  apply DY
  grind
 simp
theorem gW {P:Vs} {id nx:Int} (hP:∀p∈P,p.1<id) (a:1<=id/\id<=9) (b:nx<=1000000000):∀(todo done:List Int),done.length+todo.length=16->(∀x∈todo,0<=x/\x<nx)->C8 (P++ [(id,done++List.replicate todo.length 0)]) nx (Gv id done.length todo)=some (P++ [(id,done++todo)],nx)
 |[],done,hl,hx=>by rfl
 |x::todo,done,hl,hx=>by
  have h1:=hx x (by simp);rw[AB]at hl;have ih:=gW hP a b todo (done++ [x]) (by simp;omega) (λy hy=>hx y<|by simp[hy]);rw[Gv];have c:(done++List.replicate (todo.length+1) 0).set done.length x=done++ [x]++List.replicate todo.length 0:=by grind
  by_cases e:x>0
  ·rw[B3 e,Jb,FV];have d:C3 (P++ [(id,done++List.replicate (x::todo).length 0)]) nx (BS.mk 4 id done.length x)=some (P++ [(id,done++ [x]++List.replicate todo.length 0)],nx):=by
    unfold C3;rw[rC a (by omega)<|by omega]
    grind [qU,Ci,JG]
   grind
  grind
theorem r6 {P:Vs} {id:Int} {a:List Int} (h:∀p∈P,p.1<id):mP P id a=P++ [(id,a)]:=by grind [F6,BD,mP]
theorem Z7 (a:nx<=1000000000):∀(l P:Vs),(P++l).length<=3->(P++l).Pairwise (λp q=>p.1<q.1)->(∀p∈l,(1<=p.1/\p.1<=9)/\p.2.length=16/\∀x∈p.2,0<=x/\x<nx)->C8 P nx (l.flatMap On)=some (P++l,nx)
 |[],P,_,_,_=>by simp[C8]
 |p::l,P,e,f,hall=>by
  obtain⟨h1,h2,h3⟩:=hall p<|by simp
  have c:∀q∈P,q.1<p.1:=λq hq=>by grind
  rw[List.flatMap_cons,K9];unfold On;rw[FV];have d:C3 P nx (BS.mk 2 p.1 0 0)=some (P++ [(p.1,P7)],nx):=by grind [ABi,r6,C3,JG]
  rw[d];simp only[Aa];have hz:P7=[]++List.replicate p.2.length 0:=by rw[h2];rfl
  have b:=gW c h1 a p.2 [] (by simpa using h2) h3;rw[<-hz,L5,Az]at b;rw[b];simp only[Aa];have hP:P++ [(p.1,p.2)]=P++ [p]:=rfl;have:=Z7 a l (P++ [p]) (by grind) (by grind) (λq hq=>hall q<|by simp[hq]);rw[hP,show(l.flatMap λp=>BS.mk 2 p.1 0 0::Gv p.1 0 p.2)=l.flatMap On from rfl,this,Bw];rfl
theorem bP (h:VsP l nx) (l0:Vs) (n0:Int):C8 l0 n0 (L0 l nx)=some (l,nx):=by
 unfold L0;rw[FV];have a:C3 l0 n0 (BS.mk 1 0 nx 0)=some ([],nx):=by
  unfold C3;have hb:EG (BS.mk 1 0 nx 0)=true:=by
   have:=h.nxt
   grind [EG]
  rw[hb];have:=h.nxt
  grind
 rw[a];have:=Z7 h.nxt.2 l [] (by simpa using h.len) (by simpa using h.asc) λp hp=>⟨h.ids p hp,h.row p hp,h.num p hp⟩
 grind
theorem bO (h:VsP l nx):(∀r∈L0 l nx,EG r=true)/\(L0 l nx).length<=1000:=by
 refine⟨λr hr=>?_,?_⟩
 ·
  cases hb:EG r with
  |true=>rfl
  |false=>
   exfalso;obtain⟨i,hi,rfl⟩:=Av hr;have h1:=bP h [] 1;obtain⟨e1,e2⟩:=I8<|Ab hi;rw[e1,K9]at h1
   cases hq:C8 [] 1 ((L0 l nx).take i)with
   |none=>grind
   |some q=>grind [FV,C3]
 unfold L0;rw[AB];have:=i8 l h.row;have:=h.len;omega
structure AC9 (d d':Ax):Prop where
 ab:AO d'.Store=AO d.Store
 nx:d'.Store.Next=d.Store.Next
theorem O1 (h:Gf d r) {steps:List AE} (hs:Steps d.Flash steps g) (hl:steps.length<=1048576) (hm:BZ g=some (d',true)):Hf d steps=some d':=by
 unfold Hf;rw[gR h.fl hs hl,Aa,hm];rfl
theorem TR:∀{n:Int} {ps:List Page} {p:Page},G0 n ps->(∀q∈ps,q.Seq<p.Seq)->n<=p.Seq->G0 n (ps++ [p])
 |n,[],p,_,_,h=>⟨h,trivial⟩
 |n,q::ps,p,ha,hq,h=>⟨ha.1,TR ha.2 (λx hx=>hq x (by simp[hx])) (by grind)⟩
def mI (d:Ax) (r:List Aj) (p:Page):Prop:=p.Kind=1/\CT (AO d.Store) p.Tx/\∃y,JM r p.Tx=some y/\p.Text=y.Page.Text
theorem Xz (h:Gf d r) {live:List Int} (hl:∀x,x∈live↔CT (AO d.Store) x) (hy:r[j]?=some y) (hn:(BX r live 1000000001)[j]?=some true):y.Page.Kind=1/\CT (AO d.Store) y.Page.Tx/\JM r y.Page.Tx=some y:=by
 rw[NR r live _ hy]at hn
 injection hn with hn
 have a:=h.pages;have ht:=a.tx y<|Ap hy;have:Dh 1000000001 y=false:=by
  unfold Dh
  grind
 rw[this,Bool.false_or,Ex]at hn;obtain⟨c,hc,b⟩:=hn;have e:PK c r r.length=some j:=by simpa using b
 have h1:=yL e;rw[hy]at h1;obtain⟨_,k1,k2⟩:=Xy h1
 grind
theorem YS (h:Gf d r) (k:r.length<=40) (b:Int):Hm d b=some ([],false)\/∃steps ps g,Hm d b=some (steps,true)/\Fp d.Flash steps ps g/\AU g/\G0 d.Seq ps/\steps.length<=160/\(∀p∈ps,mI d r p/\Gj p)/\∀p∈ps,p.Seq<d.Seq+160:=by
 obtain⟨live,l1,l2,l3,l4⟩:=E5 h.st;have l:1<=d.Seq/\d.Seq<=1000000001:=by
  rw[h.seq];have h1:=Lq r;refine⟨h1.2.1,h1.2.2 _ (by omega) λy hy=>?_⟩;have:=(h.pages.seq y hy).2;omega
 unfold Hm;rw[h.scan.s,l1];simp only[Aa];rw[LG r live _ h.scan.len l4];have m:live.foldl (YW r) (r.map<|Dh 1000000001)=BX r live 1000000001:=rfl
 let I:Nat->(List AE×Int×List Block)->Prop:=λn o=>∃ps,Fp d.Flash o.1 ps (Flash.mk o.2.2)/\AU (Flash.mk o.2.2)/\G0 d.Seq ps/\(∀p∈ps,p.Seq<o.2.1)/\d.Seq<=o.2.1/\o.2.1<=d.Seq+n/\o.1.length<=n/\∀p∈ps,mI d r p/\Gj p
 have I0:I (40*0) ([],d.Seq,d.Flash.Blocks):=by
  refine⟨[],rfl,h.fl,trivial,?_,?_,?_,?_,?_⟩
  ·grind
  ·exact HZ _
  ·grind
  ·exact Ay _
  grind
 obtain⟨a,h1,h2⟩:=A9 (body:=λs:List AE×Int×Int×List Block=>FN b r (BX r live 1000000001) s.1 s.2.1 s.2.2.1 s.2.2.2) (λ(o:List AE×Int×List Block) i=>(o.1,o.2.1,i,o.2.2)) 4
  (λi o=>I (40*i) o) (λa=>a= .inr ([],false)\/∃steps sq bl,a= .inl steps/\I 160 (steps,sq,bl))
  (λo i hi ho=>by
   simp only[FN];rw[cT];obtain⟨q,q1,q2⟩:=A9 (body:=λs:List AE×Int×Int×List Block=>E4 b r (BX r live 1000000001) (i:Int) s.1 s.2.1 s.2.2.1 s.2.2.2) (λ(o:List AE×Int×List Block) j=>(o.1,o.2.1,j,o.2.2)) r.length
    (λj o=>I (40*i+j) o) (λq=>q= .inr (.inr<|.inr ([],false))\/∃o,q= .inl o/\I (40*i+40) o)
    (λo j hj hs=>by
     obtain⟨ss,sq,bl⟩:=o;obtain⟨ps,p1,p2,p3,p4,p5,p6,p7,p8⟩:=hs;simp only at p1 p2 p4 p5 p6 p7;have hx:=Ab hj;have e:j<(BX r live 1000000001).length:=by grind [IR]
     have c:=Ab e;simp only[E4,D6 hj,Ao,hx,c,Aa];rw[ad1];have skip:I (40*i+(j+1)) (ss,sq,bl):=⟨ps,p1,p2,p3,p4,p5,by show sq<=_;omega,by grind,p8⟩
     cases f:(BX r live 1000000001)[j]with
     |false=>
      exact .inl ⟨(ss,sq,bl),rfl,skip⟩
     |true=>
      simp only[Al,Ad]
      cases hb:(r[j].Block !=b)with
      |true=>
       exact .inl ⟨(ss,sq,bl),rfl,skip⟩
      |false=>
       simp only[Ad,Aa]
       cases t:(r[j].Leaf !=(i:Int))with
       |true=>
        exact .inl ⟨(ss,sq,bl),rfl,skip⟩
       |false=>
        obtain⟨m1,m2,m3⟩:=Xz h l3 hx<|by rw[c,f]
        rcases uK p2 p1 (by omega) (Page.mk r[j].Page.Kind sq r[j].Page.Tx r[j].Page.Part r[j].Page.Count r[j].Page.Text)with⟨s,g',w1,w2,w3,w4,_⟩|w
        ·rw[w1];simp only[Aa,Al,Ad];rw[Bi,A4,Ct,BC,show((ss.length+1:Nat):Int)-1=(ss.length:Int) by omega,Et];simp only[Aa]
         cases u:(s.Block==b)with
         |true=>simp
         |false=>
          rw[BL];refine .inl ⟨(ss++ [s],sq+1,g'.Blocks),rfl,_,w2,w3,TR p3 (λq hq=>p4 q hq) p5,λp hp=>?_,by grind,by grind,by simp;omega,λp hp=>?_⟩
          ·grind
          rw[A0,Bl]at hp
          rcases hp with hp|rfl
          ·exact p8 p hp
          exact⟨⟨m1,m2,_,m3,rfl⟩,w4⟩
        grind)
    (λo hs=>⟨.inl (o.1,o.2.1,o.2.2),by simp[Dk,E4],.inr ⟨o,rfl,by grind⟩⟩) (s:=o) (by omega)
   rw[q1]
   rcases q2 with rfl|⟨o',rfl,q2⟩
   ·simp
   grind [ad1])
  (λo ho=>⟨.inl o.1,by rfl,.inr ⟨o.1,o.2.1,o.2.2,rfl,ho⟩⟩) (s:=([],d.Seq,d.Flash.Blocks)) I0
 grind
theorem vD (h:IE d r) {steps:List AE} (hp:Fp d.Flash steps ps g) (ha:G0 d.Seq ps) (hl:steps.length<=160) (hm:∀p∈ps,mI d r p/\Gj p) (k:Nat):
  ∃m d',Steps d.Flash (steps.take k) m/\AU m/\BZ m=some (d',true)/\d'.Flash=m/\IE d' (r++(BQ steps ps).take k)/\AC9 d d'/\d'.Base=d.Base/\W8 d.Flash m/\∀c,CT (AO d.Store) c->BB (r++(BQ steps ps).take k) c=BB r c:=by
 have b:=(DQ hp).2;have u:=h.few
 have e:∀y∈r,y.Page.Seq<d.Seq:=λy hy=>by rw[h.dev.seq];simp_all [Lq]
 obtain⟨m,a⟩:=S7 k hp;have f:=W2 h.dev.fl (DQ a).1;have ascT:∀(ps:List Page) (n:Int) (k:Nat),G0 n ps->G0 n (ps.take k):=by
  intro ps
  induction ps with
  |nil=>grind
  |cons p ps ih=>
   intro n k ha
   cases k with
   |zero=>trivial
   |succ k=>exact⟨ha.1,ih _ k ha.2⟩
 have l:=Y8 h.dev.fl h.dev.sr a e<|ascT _ _ k ha;rw[V5]at l;obtain⟨d',u1,u2,u3⟩:=Lj f l;have v:=XZ b;have ascG:∀(ps:List Page) (n:Int) (i:Nat) (p:Page),G0 n ps->ps[i]?=some p->n<=p.Seq/\∀j q,j<i->ps[j]?=some q->q.Seq<p.Seq:=by
  intro ps
  induction ps with
  |nil=>grind
  |cons x ps ih=>
   intro n i p ha hp
   cases i with
   |zero=>
    simp only[Mh,Aq]at hp;rw[<-hp];exact⟨ha.1,λj q hj=>by omega⟩
   |succ i=>
    obtain⟨i1,i2⟩:=ih _ i p ha.2 (by simpa using hp);have:=ha.1;refine⟨by omega,λj q hj hq=>?_⟩
    grind
 have main:∀n,n<=(BQ steps ps).length->Iy (r++(BQ steps ps).take n)/\Ga (r++(BQ steps ps).take n) (CT<|AO d.Store)/\AK (r++(BQ steps ps).take n)=AK r/\∀c,CT (AO d.Store) c->BB (r++(BQ steps ps).take n) c=BB r c:=by
  intro n
  induction n with
  |zero=>intro _;rw[Zv,AI];exact⟨h.core,h.data,rfl,λ_ _=>rfl⟩
  |succ n ih=>
   intro hn;obtain⟨i1,i2,i3,i4⟩:=ih (by omega);have hx:(BQ steps ps)[n]?=some (BQ steps ps)[n]:=Ab (by omega);have o:=MC hx;obtain⟨⟨m1,m2,y,m3,m4⟩,m5⟩:=hm _<|Ap o;obtain⟨a1,a2⟩:=ascG ps d.Seq n _ ha o;rw[Af (by omega),<-Bw];have w:WE (BQ steps ps)[n].Page.Text=BB r (BQ steps ps)[n].Page.Tx:=by grind [BB]
   have s:Dj (r++(BQ steps ps).take n)<=(BQ steps ps)[n].Page.Seq:=by
    refine(Lq _).2.2 _ (m5.2.1.1) (λz hz=>?_)
    rcases A0.1 hz with hz|hz
    ·grind
    obtain⟨j,hj,rfl⟩:=Av hz;rw[FY]at hj;rw[List.getElem_take];exact a2 j _ (by omega)<|MC<|Ab<|by omega
   refine⟨Iy.add i1 (by simp;omega) m5 s (λhh=>by omega),kK i2 (by grind),by grind [V4],λc hc=>?_⟩
   grind [NQ,BB]
 have t:Iy (r++(BQ steps ps).take k)/\Ga (r++(BQ steps ps).take k) (CT<|AO d.Store)/\AK (r++(BQ steps ps).take k)=AK r/\∀c,CT (AO d.Store) c->BB (r++(BQ steps ps).take k) c=BB r c:=by grind [BQ]
 obtain⟨k1,k2,k3,k4⟩:=t;obtain⟨e1,e2,e3⟩:=Hc h.dev u2 (by rw[k3]);exact⟨m,d',(DQ a).1,f,u1,u3,⟨u2,k1,by rw[e1];exact k2⟩,⟨e1,e2⟩,e3,λ_=>S6 a,k4⟩
theorem MN (h:Gf d r) {live:List Int} (hl:live.length<=16777216) (t:ByteArray):∃v,I6 d.Flash live t=some v/\((v=0/\∀c∈live,BB r c≠some t)\/(v∈live/\BB r v=some t)):=by
 have hr:=h.pages;unfold I6 Us;rw[h.scan.s];obtain⟨b,h1,h2⟩:=A9 (body:=λs:Int=>EY r live t s) (λ(_:Unit) i=>i) live.length (λi _=>∀c∈live.take i,BB r c≠some t) (λb=>(b= .inl ()/\∀c∈live,BB r c≠some t)\/∃v,b= .inr v/\v∈live/\BB r v=some t)
  (λ_ i hi hs=>by
   have hx:=Ab hi;simp only[EY,D6 hi,Ao,hx,Aa];obtain⟨u,ok,k1,k2⟩:=gK hr live[i];rw[k1,Aa,ad1]
   have no:BB r live[i]≠some t->∀c∈live.take (i+1),BB r c≠some t:=λa c hc=>by grind [Af]
   cases ok with
   |false=>simp_all
   |true=>
    cases e:seq u t with
    |true=>grind [Kc]
    |false=>simp_all [Kc])
  (λ_ hs=>⟨_,by simp[Dk,EY],.inl ⟨rfl,by grind⟩⟩) (s:=()) (by simp)
 grind
structure ABR (q:RF):Prop where
 kind:1<=q.Kind/\q.Kind<=6
 vol:1<=q.Vol/\q.Vol<=9
 text:(L q.Text).length<=64
 sec:0<=q.Sector/\q.Sector<=15
 of_:0<=q.Of/\q.Of<=9
 cl:q.Kind=4->1<=q.Of
 no:q.Kind≠4->q.Of=0
 tx:q.Kind≠1->L q.Text=[]
theorem Uv (q:RF):∃v,I2 q=some v/\(v=true->ABR q):=by
 unfold I2;simp only[Dx,Aa];by_cases h1:1<=q.Kind/\q.Kind<=6
 ·rw[Ac h1];by_cases h2:1<=q.Vol/\q.Vol<=9
  ·rw[Ac h2];by_cases h3:Gq q.Text>64
   ·simp_all
   rw[Ah h3];rw[Bh]at h3;simp only[Al,Ad];have ht:(cond (q.Kind !=1) (some<|!(seq q.Text<|bs [])) (some false):Option Bool)=some (decide<|q.Kind≠1/\L q.Text≠ []):=by grind [PA,Du]
   rw[ht];simp only[Aa];by_cases h4:q.Kind≠1/\L q.Text≠ []
   ·grind
   rw[Ah h4]
   have a:q.Kind≠1->L q.Text=[]:=λhk=>Classical.byContradiction λhh=>h4 ⟨hk,hh⟩
   by_cases h5:q.Kind=4
   ·rw[show(q.Kind==4)=true by simpa using h5];by_cases h6:q.Sector=0
    ·rw[show(q.Sector==0)=true by simpa using h6];refine⟨_,rfl,λhh=>?_⟩;rw[Bf]at hh;exact⟨h1,h2,by omega,by omega,by omega,λ_=>hh.1,λhk=>absurd h5 hk,a⟩
    grind
   rw[show(q.Kind==4)=false by simpa using h5];by_cases h6:q.Of=0
   ·rw[show(q.Of !=0)=false by simp[h6]];by_cases h7:q.Kind=3\/q.Kind=5
    ·have:(cond (q.Kind==3) (some true) (some<|q.Kind==5):Option Bool)=some true:=by grind
     rw[this];refine⟨_,rfl,λhh=>?_⟩;rw[LP]at hh;exact⟨h1,h2,by omega,by omega,by omega,λhk=>absurd hk h5,λ_=>h6,a⟩
    have:(cond (q.Kind==3) (some true) (some<|q.Kind==5):Option Bool)=some false:=by grind
    rw[this];refine⟨_,rfl,λhh=>?_⟩;rw[Bf]at hh;exact⟨h1,h2,by omega,hh,by omega,λhk=>absurd hk h5,λ_=>h6,a⟩
   grind
  simp_all [Ah]
 simp_all [Ah]
def aE (d:Ax) (r:List Aj) (q:RF) (x:BS) (a:ByteArray):Prop:=EG x=true/\x.Kind≠1/\x.Vol=q.Vol/\((L a=[]/\(x.Kind=4->CT (AO d.Store) x.Chunk/\BB r x.Chunk=some q.Text))\/(x.Kind=4/\x.Chunk=d.Store.Next/\L a≠ []/\WE a=some q.Text/\∀c,CT (AO d.Store) c->BB r c≠some q.Text))
theorem YA (h:Gf d r) (q:RF):∃a text no,CR d q=some (a,text,no)/\((a=[]/\text=bs [])\/(no=0/\∃x,a=[x]/\aE d r q x text))/\(no≠0->a=[]):=by
 have i:=h.st.len;have b:=h.st.nx;obtain⟨v,a1,a2⟩:=Uv q;unfold CR;rw[a1];simp only[Aa]
 cases v with
 |false=>exact⟨_,_,_,rfl,.inl ⟨rfl,rfl⟩,λ_=>rfl⟩
 |true=>
  have hq:=a2 rfl;simp only[Al,Ad];obtain⟨w,hw⟩:∃w,CB d.Store q.Vol=some w:=by
   rcases DZ d.Store (by omega) q.Vol with⟨e,_⟩|⟨k,_,e,_⟩<;>exact⟨_,e⟩
  rw[hw];by_cases h34:q.Kind=3\/q.Kind=4
  ·have:(cond (q.Kind==3) (some true) (some<|q.Kind==4):Option Bool)=some true:=by grind
   rw[this];simp only[Aa,An]
   cases decide (w>=0)with
   |true=>grind
   |false=>
    obtain⟨j2,g⟩:∃j2,(cond (q.Kind==4) ((CB d.Store q.Of).bind λv3=>some<|decide<|v3<0) (some false):Option Bool)=some j2:=by grind [DZ]
    rw[g];simp only[Aa]
    cases j2 with
    |true=>grind
    |false=>
     cases decide (ln d.Store.Vols>=3)with
     |true=>grind
     |false=>
      refine⟨_,_,_,rfl,.inr ⟨rfl,_,rfl,ABi hq.vol hq.of_,by simp,rfl,.inl ⟨Du _,λhh=>by simp at hh⟩⟩,λhh=>absurd rfl hh⟩
  have:(cond (q.Kind==3) (some true) (some<|q.Kind==4):Option Bool)=some false:=by grind
  rw[this];simp only[Aa,Ad]
  cases decide (w>=0)with
  |false=>exact⟨_,_,_,rfl,.inl ⟨rfl,rfl⟩,λ_=>rfl⟩
  |true=>
   simp only[Al,Ad]
   cases k1:(q.Kind==1)with
   |true=>
    obtain⟨live,l1,l2,l3,l4⟩:=E5 h.st;obtain⟨c,f1,f2⟩:=MN h l4 q.Text;rw[l1,Aa,f1];simp only[Aa]
    rcases f2 with⟨rfl,f2⟩|⟨f2,f3⟩
    ·obtain⟨z,z1,z2,z3⟩:=Y0 q.Text hq.text;rw[show((0:Int)==0)=true from rfl,z1];refine⟨_,_,_,rfl,.inr ⟨rfl,_,rfl,rC hq.vol (by have:=hq.sec;omega) ⟨b.1,b.2⟩,by simp,rfl,.inr ⟨rfl,rfl,?_,?_,λc hc=>f2 c<|(l3 c).2 hc⟩⟩,λhh=>absurd rfl hh⟩
     ·grind
     grind [WE]
    have f:=(l3 c).1 f2;have j:=T3 h.st f;rw[show(c==0)=false by grind];refine⟨_,_,_,rfl,.inr ⟨rfl,_,rfl,rC hq.vol (by have:=hq.sec;omega) (by omega),by simp,rfl,.inl ⟨Du _,λ_=>⟨f,f3⟩⟩⟩,λhh=>absurd rfl hh⟩
   |false=>
    cases k2:(q.Kind==2)with
    |true=>
     refine⟨_,_,_,rfl,.inr ⟨rfl,_,rfl,?_,by simp,rfl,.inl ⟨Du _,λhh=>by simp at hh⟩⟩,λhh=>absurd rfl hh⟩;have:=hq.vol;have:=hq.sec
     grind [EG]
    |false=>
     cases k5:(q.Kind==5)with
     |true=>
      refine⟨_,_,_,rfl,.inr ⟨rfl,_,rfl,?_,by simp,rfl,.inl ⟨Du _,λhh=>by simp at hh⟩⟩,λhh=>absurd rfl hh⟩;have:=hq.vol
      grind [EG]
     |false=>grind
theorem jA (h:C3 l nx x=some (l',nx')) (hk:x.Kind≠1):(∀c,CT l' c->CT l c\/c=x.Chunk)/\nx<=nx'/\nx'<=max nx (x.Chunk+1):=by
 unfold C3 at h;split at h
 ·cases h
 split at h
 ·split at h
  ·cases h
  injection h with h
  injection h with h1 h2
  subst h1 h2;refine⟨λc hc=>?_,by omega,by omega⟩;obtain⟨h0,p,hp,hx⟩:=hc;unfold mP at hp;simp only[A0,AQ,Bl]at hp
  rcases hp with(hp|rfl)|hp
  ·exact .inl ⟨h0,p,hp.1,hx⟩
  ·have zz:c∉P7:=λhz=>by have:=EA hz;omega
   split at hx
   ·cases hg:JG l x.Arg with
    |none=>grind
    |some row=>
     rw[hg]at hx;obtain⟨w,a,d⟩:=AC.1 hg;have b:=List.mem_of_find?_eq_some a;exact .inl ⟨h0,w,b,by grind⟩
   exact absurd hx zz
  exact .inl ⟨h0,p,hp.1,hx⟩
 split at h
 ·cases h
 split at h
 ·injection h with h
  injection h with h1 h2
  subst h1 h2;refine⟨λc hc=>?_,by omega,by omega⟩;obtain⟨h0,p,hp,hx⟩:=hc;exact .inl ⟨h0,p,(AQ.1 hp).1,hx⟩
 injection h with h
 injection h with h1 h2
 subst h1 h2;refine⟨λc hc=>?_,by omega,by omega⟩;obtain⟨h0,p,hp,hx⟩:=hc;obtain⟨w,hw,rfl⟩:=A7.1 hp;split at hx
 ·rcases CA hx with hx|hx
  ·exact .inl ⟨h0,w,hw,hx⟩
  exact .inr hx
 exact .inl ⟨h0,w,hw,hx⟩
theorem nD (h:C3 l nx x=some (l',nx')) (hk:x.Kind≠1):∀p∈l',(∃p'∈l,p'.1=p.1)\/p.1=x.Vol:=by
 unfold C3 at h;split at h
 ·cases h
 split at h
 ·grind [mP]
 split at h
 ·cases h
 split at h
 ·injection h with h
  injection h with h1 h2
  subst h1 h2
  exact λp hp=> .inl ⟨p,(AQ.1 hp).1,rfl⟩
 grind [lF]
theorem YL (h:Gf d r):∃v,Mp d=some v:=by
 have hr:=h.pages;unfold Mp
 cases(d.Base !=sb d.Tx 1)with
 |true=>exact⟨_,rfl⟩
 |false=>
  rw[h.scan.s,Aa,Ng r hr];simp only[Aa];obtain⟨g1,_⟩:=Sz hr;obtain⟨b,h1,_⟩:=A9 (body:=λs:Int=>GB d (AK r) s) (λ(_:Unit) i=>i) (AK r).length (λ_ _=>True) (λ_=>True)
   (λ_ i hi _=>by
    have hx:=Ab hi;simp only[GB,D6 hi,Ao,hx,Aa];rw[ad1]
    cases((AK r)[i].Num==d.Base)with
    |false=>simp
    |true=>
     cases a:(AK r)[i].Recs with
     |nil=>exact .inr ⟨_,rfl,trivial⟩
     |cons q m=>grind [gi])
   (λ_ _=>⟨.inl (),by simp[Dk,GB],trivial⟩) (s:=()) trivial
  rw[h1]
  cases b with
  |inl u=>exact⟨_,rfl⟩
  |inr v=>exact⟨v,rfl⟩
theorem YN (h:Gf d r):∃v,Mt d=some v:=by
 have hn:=h.fl.n;obtain⟨live,l1,_,_,l4⟩:=E5 h.st;unfold Mt;rw[h.scan.s,l1];simp only[Aa];rw[LG r live d.Base h.scan.len l4,LG r live 1000000000 h.scan.len l4]
 have a:∀b,live.foldl (YW r) (r.map<|Dh b)=BX r live b:=λ_=>rfl
 rw[a,a];obtain⟨b,h1,_⟩:=A9 (body:=λs:Int×Int×Int=>Dl d r (BX r live d.Base) (BX r live 1000000000) s.1 s.2.1 s.2.2) (λ(o:Int×Int) i=>(o.1,o.2,i)) d.Flash.Blocks.length (λ_ _=>True) (λ_=>True)
  (λo i hi _=>by
   have hx:=Ab hi;have hP:=h.fl.blk _<|Ar hi;simp only[Dl,D6 hi,Ao,hx,Aa];rw[Xr r _ (i:Int) h.scan.len<|IR _ _ _,Xr r _ (i:Int) h.scan.len<|IR _ _ _,Jw _ hP.four,ad1];simp only[Aa,MJ]
   cases(bif !d.Flash.Blocks[i].Bad then _ else false)with
   |true=>simp
   |false=>grind)
  (λo _=>⟨o.1,by simp[Dk,Dl],trivial⟩) (s:=(-1,4)) trivial
 grind
theorem Gf.seqs (h:Gf d r):0<=d.Seq/\d.Seq<=1000000001:=by
 rw[h.seq];have h1:=Lq r;refine⟨by omega,h1.2.2 _ (by omega) λy hy=>?_⟩;have:=(h.pages.seq y hy).2;omega
theorem bZ (h:∀y∈r',y.Page.Kind=2->y.Page.Tx<Ed r+n):Ed r'<=Ed r+n:=(WF r').2.2 _ (by have:=(WF r).2.1;omega) h
theorem We (n:Nat) (hy:y∈r) (hk:y.Page.Kind=2):y.Page.Tx<Ed r+n:=by have:=(WF r).1 y hy hk;omega
theorem aI {seq tx:Int} (h:p∈By seq tx T):p.Tx=tx:=by grind [By]
theorem cE (h:∀y∈r',y.Page.Seq<Dj r+n):Dj r'<=Dj r+n:=(Lq r').2.2 _ (by have:=(Lq r).2.1;omega) h
theorem Wg (n:Nat) (hy:y∈r):y.Page.Seq<Dj r+n:=by have:=(Lq r).1 y hy;omega
theorem mD {seq tx:Int} (h:p∈By seq tx T):p.Seq<seq+T.length:=by grind [By]
theorem Z5 {a:ByteArray} (h:p∈BV d c a++By (EX d a) d.Tx T):p.Seq<d.Seq+1+T.length:=by
 rcases A0.1 h with h|h
 ·grind [BV]
 have h1:=mD h
 grind [EX]
theorem Nl {seq tx:Int} (h:p∈By seq tx T):p.Kind=2:=by grind [By]
def AA8 (m:Flash) (s:AE) (g:Flash):Prop:=AU g/\W8 m g/\((s.Kind=1/\J1 0 g.Blocks=J1 0 m.Blocks)\/(s.Kind=2/\J1 0 g.Blocks=(J1 0 m.Blocks).filter λy=>y.Block !=s.Block))
def Yj (f:Flash) (ss:List AE) (k:Nat) (g:Flash):Prop:=∃m,Steps f (ss.take k) m/\(g=m\/∃s,ss[k]?=some s/\Sg m s/\AA8 m s g)
theorem Mf:∀{f:Flash} {a:List AE} {g m:Flash},Steps f a g->Steps f a m->g=m
 |f,[],g,m,h,k=>by rw[show g=f from h,show m=f from k]
 |f,s::a,g,m,h,k=>Mf h.2 k.2
theorem bH {m:Flash} {a b:List AE} (h:Yj f (a++b) k g) (hs:Steps f a m):(k<a.length/\Yj f a k g)\/(a.length<=k/\Yj m b (k-a.length) g):=by
 obtain⟨x,h1,h2⟩:=h;by_cases e:k<a.length
 ·left;rw[List.take_append_of_le_length<|by omega]at h1;rw[KC e]at h2;exact⟨e,x,h1,h2⟩
 right;rw[List.take_append,AP<|by omega]at h1;rw[Da<|by omega]at h2;obtain⟨y,y1,y2⟩:=(Mg _ _ _ _).1 h1;rw[Mf y1 hs]at y2;exact⟨by omega,x,y2,h2⟩
structure Ix (n:Nat) (d:Ax) (r:List Aj) (d':Ax) (r':List Aj):Prop where
 good:IE d' r'
 ab:AO d'.Store=AO d.Store
 nx:d'.Store.Next=d.Store.Next
 pg:∀y∈r',y.Page.Kind=1->∃z∈r,z.Page.Kind=1/\z.Page.Tx=y.Page.Tx/\z.Page.Text=y.Page.Text
 tx:Ed r'<=Ed r+n
 wear:∀w:Int,Em d.Flash w->Em d'.Flash (w+n)
 text:∀c,CT (AO d.Store) c->BB r' c=BB r c
 sq:Dj r'<=Dj r+200*n
structure As (d:Ax) (r:List Aj) (d':Ax) (r':List Aj):Prop where
 good:IE d' r'
 ab:AO d'.Store=AO d.Store
 nx:d'.Store.Next=d.Store.Next
 tx:Ed r'<=Ed r+1
 wear:∀w:Int,Em d.Flash w->Em d'.Flash (w+1)
 text:∀c,CT (AO d.Store) c->BB r' c=BB r c
theorem As.torn {b:List Aj} (h:As d a e b) (hg:AU g) (hp:J1 0 g.Blocks=J1 0 e.Flash.Blocks) (hw:W8 e.Flash g):∃x,BZ g=some (x,true)/\x.Flash=g/\As d a x b:=by
 obtain⟨x,u1,u2,u3⟩:=Lj hg (r:=b) (by rw[hp];exact h.good.dev.sr);obtain⟨e1,e2,_⟩:=Hc h.good.dev u2 rfl;exact⟨x,u1,u3,⟨⟨u2,h.good.core,by rw[e1];exact h.good.data⟩,by rw[e1,h.ab],by rw[e2,h.nx],h.tx,λw hh=>by rw[u3];exact hw _<|h.wear w hh,h.text⟩⟩
theorem Wb (h:W8 f g) (w:Int) (hw:Em f w):Em g (w+n):=λb hb=>by have:=h w hw b hb;omega
theorem Ix.refl (h:IE d r):Ix n d r d r:=⟨h,rfl,rfl,λy hy hk=>⟨y,hy,hk,rfl,rfl⟩,by omega,Wb λ_ h=>h,λ_ _=>rfl,by omega⟩
theorem Ix.trans {g:Ax} {b c:List Aj} (h:Ix n d a e b) (k:Ix m e b g c):Ix (n+m) d a g c:=⟨k.good,by rw[k.ab,h.ab],by rw[k.nx,h.nx],λy hy hk=>by
 obtain⟨z,z1,z2,z3,z4⟩:=k.pg y hy hk;obtain⟨w,w1,w2,w3,w4⟩:=h.pg z z1 z2
 grind,by have:=h.tx;have:=k.tx;omega,λw hw=>by
 have:=k.wear _<|h.wear w hw
 grind,λc hc=>by rw[k.text c (by rw[h.ab];exact hc),h.text c hc],by have:=h.sq;have:=k.sq;omega⟩
theorem Ix.mono {b:List Aj} (h:Ix n d a e b) (hm:n<=m):Ix m d a e b:={h with
 tx:=by have:=h.tx;omega
 wear:=λw hw x hx=>by have:=h.wear w hw x hx;omega
 sq:=by have:=h.sq;omega}
theorem Ix.torn {b:List Aj} (h:Ix n d a e b) (hg:AU g) (hp:J1 0 g.Blocks=J1 0 e.Flash.Blocks) (hw:W8 e.Flash g):∃x,BZ g=some (x,true)/\x.Flash=g/\Ix n d a x b:=by
 obtain⟨x,u1,u2,u3⟩:=Lj hg (r:=b) (by rw[hp];exact h.good.dev.sr);obtain⟨e1,e2,_⟩:=Hc h.good.dev u2 rfl;exact⟨x,u1,u3,⟨⟨u2,h.good.core,by rw[e1];exact h.good.data⟩,by rw[e1,h.ab],by rw[e2,h.nx],h.pg,h.tx,λw hh=>by rw[u3];exact hw _<|h.wear w hh,h.text,h.sq⟩⟩
def JW (n:Nat) (d:Ax) (r:List Aj) (steps:List AE):Prop:=(∃m,Steps d.Flash steps m)/\∀k g,k<=steps.length->Yj d.Flash steps k g->∃x rx,BZ g=some (x,true)/\x.Flash=g/\Ix n d r x rx
theorem aD {steps:List AE} (h1:∀s∈steps,s.Kind=1) (hc:∀k,k<=steps.length->∃x rx,Steps d.Flash (steps.take k) x.Flash/\BZ x.Flash=some (x,true)/\Ix n d r x rx):JW n d r steps:=by
 refine⟨?_,λk g hk hg=>?_⟩
 ·obtain⟨x,rx,c1,_⟩:=hc steps.length (Ay _)
  grind
 obtain⟨x,rx,c1,c2,c3⟩:=hc k hk;obtain⟨m,m1,m2⟩:=hg;have:=Mf m1 c1;subst this
 rcases m2 with rfl|⟨s,s1,_,s2,s3,⟨_,s4⟩|⟨s4,_⟩⟩
 ·grind
 ·obtain⟨y,y1,y2,y3⟩:=c3.torn s2 s4 s3
  grind
 grind
theorem JW.full {steps:List AE} (h:IE d r) (hc:JW n d r steps) (hl:steps.length<=1000000):∃x rx,Hf d steps=some x/\Steps d.Flash steps x.Flash/\Ix n d r x rx:=by
 obtain⟨⟨m,hm⟩,hk⟩:=hc;obtain⟨x,rx,x1,x2,x3⟩:=hk steps.length m (Ay _) ⟨m,by grind,.inl rfl⟩;exact⟨x,rx,O1 h.dev hm (by omega) x1,by rw[x2];exact hm,x3⟩
theorem sS {re:List Aj} {a b:List AE} (hk:Ix n d r e re) (hs:Steps d.Flash a e.Flash) (ha:JW n d r a) (hb:JW m e re b):JW (n+m) d r (a++b):=by
 refine⟨?_,λk g c hg=>?_⟩
 ·obtain⟨x,hx⟩:=hb.1;simp_all [Mg];grind
 rw[A4]at c
 rcases bH hg hs with⟨e1,e2⟩|⟨e1,e2⟩
 ·obtain⟨x,rx,x1,x2,x3⟩:=ha.2 k g (by omega) e2;exact⟨x,rx,x1,x2,x3.mono<|by omega⟩
 obtain⟨x,rx,x1,x2,x3⟩:=hb.2 _ g (by omega) e2;exact⟨x,rx,x1,x2,hk.trans x3⟩
theorem Xx (r m:List Aj) (c:Int) (h:∀y∈m,¬(y.Page.Kind=1/\y.Page.Tx=c)):JM (r++m) c=JM r c:=by grind [T5,JM]
theorem YG (h:IE d r) (hw:Em d.Flash 999999999):∃steps ok,Mx d=some (steps,ok)/\steps.length<=200/\(ok=false->steps=[])/\(ok=true->JW 1 d r steps):=by
 have hv:=h.dev.st.vs;obtain⟨dead,d1,d2,d3⟩:=Xe h.dev;unfold Mx;rw[d1];simp only[Aa]
 cases hd:dead with
 |cons b m=>
  rw[Ac (by grind [Bi]:ln (b::m)>0),show gi (b::m) 0=some b from Ao (i:=0)];refine⟨_,_,rfl,by simp,(λhh=>by cases hh),λ_=>?_⟩;obtain⟨x,x1,x2,x3⟩:=d3 b (by rw[hd];simp);have hc:wR d.Flash b:=⟨x,x1,x2,λe=>by have:=hw x<|Ap (Cp x1).2;omega⟩;have hs:Sg d.Flash (AE.mk 2 b 0<|bs []):= .inr ⟨rfl,hc⟩;obtain⟨w1,w2⟩:=Vi h.dev.fl hc;have he:KF d.Flash (AE.mk 2 b 0<|bs [])=Vj d.Flash b:=by rfl
  have wp:∀g,AU g->J1 0 g.Blocks=((J1 0 d.Flash.Blocks).filter λy=>y.Block !=b)->(∀w:Int,Em d.Flash w->Em g (w+1))->∃x rx,BZ g=some (x,true)/\x.Flash=g/\Ix 1 d r x rx:=by
   intro g g1 g2 g3;obtain⟨d',u1,u2,u3,u4,u5,_,u6⟩:=yG h x3 g1 g2;exact⟨d',_,u1,u2,u3,u4,u5,λy hy hk=>⟨y,(AQ.1 hy).1,hk,rfl,rfl⟩,bZ λy hy hk=>We _ (AQ.1 hy).1 hk,by rw[u2];exact g3,u6,cE (n:=200*1) λy hy=>Wg _ (AQ.1 hy).1⟩
  refine⟨⟨_,hs,rfl⟩,λk g hk hg=>?_⟩;obtain⟨q,q1,q2⟩:=hg
  cases k with
  |zero=>
   rw[show q=d.Flash from q1]at q2
   rcases q2 with rfl|⟨s,s1,_,s2,s3,⟨s4,_⟩|⟨_,s4⟩⟩
   ·obtain⟨x,u1,u2,u3⟩:=(Ix.refl (n:=1) h).torn h.dev.fl rfl λ_ hh=>hh
    grind
   ·grind
   simp only[Mh,Aq]at s1;rw[<-s1]at s4
   exact wp g s2 s4 λw hh y hy=>by have:=s3 w hh y hy;omega
  |succ k=>grind [ZH,Steps]
 |nil=>
  rw[show decide (ln ([]:List Int)>0)=false from rfl];obtain⟨v,v1⟩:=YL h.dev;rw[v1];simp only[Aa]
  cases v with
  |false=>
   unfold Nh;rw[Tl h.dev.st];simp only[Aa];obtain⟨b1,b2⟩:=bO hv
   rcases P3 h.dev.fl h.dev.seqs (L0 (AO d.Store) d.Store.Next) (by unfold L0;simp) b2 b1 (bs [])with w|⟨steps,T,g,a,w1,w2,w3,w4,w5,w6,w7,w8,w9⟩
   ·grind
   rw[w2];simp only[Aa];have j:=(DQ w7).2;have l:(By (EX d<|bs []) d.Tx T).length=T.length:=by unfold By;grind
   have o:BV d a.Chunk (bs [])=[]:=by rfl
   rw[o,Az,l]at j;refine⟨_,_,rfl,by omega,(λhh=>by cases hh),λ_=>aD (P5 w7) λk hk=>?_⟩;obtain⟨m,d',r',c1,c2,c3,c4,c5,rfl,cw,c6,c7,c8,c9⟩:=Ug h b1 w3 w4 w5 w6 w7 w9 (λhh=>absurd (Du _) hh) k hk;have f:AO d'.Store=AO d.Store/\d'.Store.Next=d.Store.Next:=by
    by_cases e:k<steps.length
    ·obtain⟨e1,e2,_⟩:=Hc h.dev c4 (by rw[c8 e]);exact⟨e1,e2⟩
    obtain⟨q,hq⟩:=(c9<|by omega).1;have hB:mO (Tx.mk d.Tx q<|L0 (AO d.Store) d.Store.Next)=true:=rfl;have f:=c4.ab
    grind [QZ,bP,M4]
   have hX:∀y∈(BQ steps<|BV d a.Chunk (bs [])++By (EX d<|bs []) d.Tx T).take k,y.Page.Kind=2/\y.Page.Tx=d.Tx:=λy hy=>by grind [KV,Nl,aI]
   refine⟨d',_,by rw[c5];exact c1,by rw[c5];exact c3,⟨c4,c6,by grind⟩,f.1,f.2,λy hy hk=>?_,bZ λy hy hk=>?_,by rw[c5];exact Wb (n:=1) cw,λc hc=>?_,cE (n:=200*1) λy hy=>?_⟩
   ·grind
   ·rcases A0.1 hy with hh|hh
    ·exact We _ hh hk
    rw[(hX y hh).2,h.dev.tx];omega
   ·grind [Xx,BB]
   rcases A0.1 hy with hh|hh
   ·exact Wg _ hh
   have:=Z5<|KV _ _ _ y hh;rw[h.dev.seq]at this;omega
  |true=>
   simp only[Al,Ad];obtain⟨vi,vi1⟩:=YN h.dev;rw[vi1];simp only[Aa]
   cases decide (vi<0)with
   |true=>grind
   |false=>
    rcases YS h.dev h.few vi with w|⟨steps,ps,g,w1,w2,w3,w4,w5,w6,w7⟩
    ·grind
    rw[w1];refine⟨steps,true,rfl,by omega,(λhh=>by cases hh),λ_=>aD (P5 w2) λk hk=>?_⟩;obtain⟨m,d',c1,c2,c3,c4,c5,c6,_,cw,c7⟩:=vD h w2 w4 w5 w6 k;refine⟨d',_,by rw[c4];exact c1,by rw[c4];exact c3,c5,c6.ab,c6.nx,λy hy hk=>?_,bZ λy hy hk=>?_,by rw[c4];exact Wb (n:=1) cw,c7,cE (n:=200*1) λy hy=>?_⟩
    ·rcases A0.1 hy with hh|hh
     ·grind
     obtain⟨⟨_,_,z,z1,z2⟩,_⟩:=w6 _<|KV _ _ _ _ hh
     grind [Xy]
    ·rcases A0.1 hy with hh|hh
     ·exact We _ hh hk
     have:=(w6 _<|KV _ _ _ _ hh).1.1;omega
    rcases A0.1 hy with hh|hh
    ·exact Wg _ hh
    have:=w7 _<|KV _ _ _ _ hh;rw[h.dev.seq]at this;omega
theorem Og (h:AU f):∃v:Int,Ju f=some v:=by
 obtain⟨v,v1,_⟩:=R7 f h.cap (by have:=h.few;omega);exact⟨v,v1⟩
theorem YH (h:IE d r) (hw:Em d.Flash 999999000) (most:Int):∃d' all r',I7 d most=some (d',all)/\Ix 20 d r d' r'/\all.length<=4000/\Steps d.Flash all d'.Flash/\JW 20 d r all:=by
 unfold I7;rw[KG h.dev];simp only[Aa]
 have j:∀{n:Nat} {a:List AE},n<=20->JW n d r a->JW 20 d r a:=λhn hc=>⟨hc.1,λk g hk hg=>by
  obtain⟨x,rx,x1,x2,x3⟩:=hc.2 k g hk hg
  exact⟨x,rx,x1,x2,x3.mono hn⟩⟩
 obtain⟨b,h1,d',all,r',h2,h3,h4,h5,h6⟩:=A9 (body:=λs:List AE×Int×List Block×List Vol×List Bb×Int×Int×Int×Int=>Ep most s.1 s.2.1 s.2.2.1 s.2.2.2.1 s.2.2.2.2.1 s.2.2.2.2.2.1 s.2.2.2.2.2.2.1 s.2.2.2.2.2.2.2.1 s.2.2.2.2.2.2.2.2)
  (λ(o:List AE×Ax) i=>(o.1,i,o.2.Flash.Blocks,o.2.Store.Vols,o.2.Store.Arena.Knots,o.2.Store.Next,o.2.Seq,o.2.Tx,o.2.Base)) 20
  (λi o=>o.1.length<=200*i/\∃r',Ix i d r o.2 r'/\Steps d.Flash o.1 o.2.Flash/\JW i d r o.1)
  (λb=>∃d' all r',(b= .inr (d',all)\/b= .inl (all,d'.Flash.Blocks,d'.Store.Vols,d'.Store.Arena.Knots,d'.Store.Next,d'.Seq,d'.Tx,d'.Base))/\Ix 20 d r d' r'/\all.length<=4000/\Steps d.Flash all d'.Flash/\JW 20 d r all)
  (λo i hi hs=>by
   obtain⟨all,e⟩:=o;obtain⟨l,r',hg,c,f⟩:=hs;simp only at l hg c f;have m:Ax.mk (Flash.mk e.Flash.Blocks) (Store.mk e.Store.Vols (Arena.mk e.Store.Arena.Knots) e.Store.Next) e.Seq e.Tx e.Base=e:=rfl;have p:Flash.mk e.Flash.Blocks=e.Flash:=rfl;simp only[Ep];rw[m,p];obtain⟨v,v1⟩:=Og hg.good.dev.fl;rw[v1,Ac (by omega:(i:Int)<20)];simp only[An,Aa,MJ]
   cases(bif decide ((i:Int)<most)then decide (v<12)else false)with
   |false=>
    exact .inr ⟨_,rfl,e,all,r',.inr rfl,hg.mono (by omega),by omega,c,j (by omega) f⟩
   |true=>
    obtain⟨steps,ok,c1,c2,_,c3⟩:=YG hg.good (λx hx=>by have:=hg.wear _ hw x hx;omega);rw[c1];simp only[Aa]
    cases ok with
    |false=>
     exact .inr ⟨_,rfl,e,all,r',.inl rfl,hg.mono (by omega),by omega,c,j (by omega) f⟩
    |true=>
     obtain⟨d',r2,k1,k2,k3⟩:=(c3 rfl).full hg.good (by omega);rw[k1,Aa,Bq (by omega),ad1]
     exact .inl ⟨(all++steps,d'),rfl,by simp;omega,r2,hg.trans k3,(Mg _ _ _ _).2 ⟨_,c,k2⟩,sS hg c f<|c3 rfl⟩)
  (λo hs=>by simp_all [Ep];grind) (s:=([],d)) ⟨by simp,r,Ix.refl h,rfl,⟨⟨_,rfl⟩,λk g hk hg=>by
   obtain⟨q,q1,q2⟩:=hg;rw[List.take_nil]at q1;rw[show q=d.Flash from q1]at q2
   rcases q2 with rfl|⟨s,s1,_⟩
   ·obtain⟨x,u1,u2,u3⟩:=(Ix.refl (n:=0) h).torn h.dev.fl rfl λ_ hh=>hh
    grind
   simp at s1⟩⟩
 rw[h1]
 rcases h2 with rfl|rfl
 ·grind
 exact⟨d',all,r',rfl,h3,h4,h5,h6⟩
theorem tZ {r:Int} (h:k<16):(EF K r)[k]?=some (PI K r k):=by grind [EF]
theorem gT (h:BR s) (vol:Int) (hk:k<16):∃c,LX s vol (k:Int)=some c/\((JG (AO s) vol=none/\c=0)\/∃a,JG (AO s) vol=some a/\a[k]?=some c/\0<=c/\(c≠0->CT (AO s) c)):=by
 have hl:=h.len;unfold LX
 rcases DZ s (by omega) vol with⟨e,e2⟩|⟨i,v,e,e2,e3,_⟩
 ·grind [Kr]
 rw[e];simp only[Aa];have hm:=Ap e2;have hr:=h.root _<|A7.2 ⟨v,hm,rfl⟩;rw[cF,Ao,e2,Aa,Xc _ (by have:=h.few;omega) h.ar hr hk];have hg:=NZ h.asc hm;rw[e3]at hg;have h0:=jH h.ar hr _<|Yp hk;exact⟨_,rfl,.inr ⟨_,hg,tZ hk,h0,λb=>⟨by omega,_,A7.2 ⟨v,hm,rfl⟩,Yp hk⟩⟩⟩
theorem gF (h:IE d r) (vol:Int) (hk:k<16):(JG (AO d.Store) vol=none/\GC r d.Store vol (k:Int)=some (bs [],false))\/
  ∃a c,JG (AO d.Store) vol=some a/\a[k]?=some c/\LX d.Store vol (k:Int)=some c/\((c=0/\GC r d.Store vol (k:Int)=some (bs [],true))\/(0<c/\CT (AO d.Store) c/\∃u,BB r c=some u/\GC r d.Store vol (k:Int)=some (u,true))):=by
 have hl:=h.dev.st.len;obtain⟨c,c1,c2⟩:=gT h.dev.st vol hk;unfold GC;rw[c1]
 rcases DZ d.Store (by omega) vol with⟨e,e2⟩|⟨i,v,e,e2,e3,_⟩
 ·grind [Kr]
 have hg:=NZ h.dev.st.asc<|Ap e2;rw[e3]at hg
 rcases c2 with⟨c2,_⟩|⟨a,c2,c3,c4,c5⟩
 ·grind
 rw[e];simp only[Aa];rw[cF];right;by_cases e0:c=0
 ·grind
 rw[show(c==0)=false by simpa using e0];have b:=c5 e0;obtain⟨u,hu⟩:=h.data.data c b;obtain⟨w,ok,t1,t2⟩:=gK h.dev.pages c
 grind
theorem Y9 (h:Gf d r) {a:List BS} {b:ByteArray} (hp:CR d q=some (a,b,0)):ABR q:=by
 obtain⟨v,a1,a2⟩:=Uv q
 grind [CR]
def kE (r r':List Aj) (c:Int) (a:ByteArray):Prop:=(∀y∈r',y.Page.Kind=1->(∃z∈r,z.Page.Kind=1/\z.Page.Tx=y.Page.Tx/\z.Page.Text=y.Page.Text)\/(L a≠ []/\y.Page.Tx=c/\y.Page.Text=a))/\Ed r'<=Ed r+1/\Dj r'<=Dj r+10
theorem oM (h:IE d r) {a:ByteArray} (hx:aE d r q x a):Co d [x] a=some ([],false)\/∃steps d' r',Co d [x] a=some (steps,true)/\steps.length<=10/\Hf d steps=some d'/\IE d' r'/\
  (AO d'.Store,d'.Store.Next)=(C3 (AO d.Store) d.Store.Next x).getD (AO d.Store,d.Store.Next)/\d.Store.Next<=d'.Store.Next/\d'.Store.Next<=d.Store.Next+1/\kE r r' x.Chunk a/\W8 d.Flash d'.Flash/\Steps d.Flash steps d'.Flash/\((∀c,CT (AO d.Store) c->BB r' c=BB r c)/\(L a≠ []->BB r' x.Chunk=WE a))/\1<=steps.length/\∀k g,k<steps.length->Yj d.Flash steps k g->∃y ry,BZ g=some (y,true)/\y.Flash=g/\As d r y ry/\kE r ry x.Chunk a:=by
 obtain⟨x1,x2,xv,x3⟩:=hx;have h6:=h.dev.st.nx
 have i:∀z∈ [x],EG z=true:=λz hz=>by grind
 rcases P3 h.dev.fl h.dev.seqs [x] (by simp) (by simp) i a with w|⟨steps,T,g,b,w1,w2,w3,w4,w5,w6,w7,w8,w9⟩
 ·exact .inl w
 right;have j:b=x:=by simpa using w1.symm
 subst j;have o:=(DQ w7).2;have h2:(By (EX d a) d.Tx T).length=T.length:=by unfold By;grind
 have h7:(BV d b.Chunk a).length<=1:=by grind [BV]
 rw[A4,h2]at o
 have t:L a≠ []->¬CT (AO d.Store) b.Chunk:=λht h3=>by
  rcases x3 with⟨x3,_⟩|⟨_,x4,_⟩
  ·exact ht x3
  have:=T3 h.dev.st h3;omega
 have tk:∀k c,CT (AO d.Store) c->BB (r++(BQ steps<|BV d b.Chunk a++By (EX d a) d.Tx T).take k) c=BB r c:=λk c hc=>by grind [Xx,KV,Nl,BB,BV]
 have tn:L a≠ []->BB (r++(BQ steps<|BV d b.Chunk a++By (EX d a) d.Tx T).take steps.length) b.Chunk=WE a:=λe=>by
  rw[AP (by unfold BQ;grind),show BV d b.Chunk a=[Page.mk 1 d.Seq b.Chunk 0 1 a] by grind [BV]]
  cases steps with
  |nil=>grind
  |cons s ss=>
   show BB (r++Aj.mk s.Block s.Leaf (Page.mk 1 d.Seq b.Chunk 0 1 a)::BQ ss (By (EX d a) d.Tx T)) b.Chunk=_;unfold BB;rw[List.append_cons,aP _ _ (λy hy=>by have:=Nl (KV ss _ _ y (by rw[Dg];exact hy));omega),NQ,B3 ⟨rfl,rfl⟩];rfl
 have fw:∀k,kE r (r++(BQ steps<|BV d b.Chunk a++By (EX d a) d.Tx T).take k) b.Chunk a:=λk=>by
  have cP:∀y∈r++(BQ steps<|BV d b.Chunk a++By (EX d a) d.Tx T).take k,y∈r\/y.Page∈BV d b.Chunk a++By (EX d a) d.Tx T:=λy hy=>(A0.1 hy).imp id<|KV _ _ _ y
  refine⟨λy hy hk=>?_,bZ (n:=1) λy hy hk=>?_,cE (n:=10) λy hy=>?_⟩
  ·grind [Nl,BV]
  ·rcases cP y hy with hh|hh
   ·exact We _ hh hk
   rcases A0.1 hh with hh|hh
   ·grind [BV]
   rw[aI hh,h.dev.tx];omega
  rcases cP y hy with hh|hh
  ·exact Wg _ hh
  have:=Z5 hh;rw[h.dev.seq]at this;omega
 have cut:∀k g,k<steps.length->Yj d.Flash steps k g->∃y ry,BZ g=some (y,true)/\y.Flash=g/\As d r y ry/\kE r ry b.Chunk a:=λk g hk hg=>by
  obtain⟨m,y,ry,c1,c2,c3,c4,c5,hr',cw,c6,c7,c8,_⟩:=Ug h i w3 w4 w5 w6 w7 w9 t k (by omega);obtain⟨e1,e2,_⟩:=Hc h.dev c4 (by rw[c8 hk]);subst hr';have h4:As d r y (r++(BQ steps<|BV d b.Chunk a++By (EX d a) d.Tx T).take k):=⟨⟨c4,c6,by rw[e1];exact c7⟩,e1,e2,(fw k).2.1,by grind [Wb],tk k⟩;obtain⟨q,q1,q2⟩:=hg;have:=Mf q1 c1;subst this
  rcases q2 with rfl|⟨s,s1,_,s2,s3,⟨_,s4⟩|⟨s4,_⟩⟩
  ·grind
  ·obtain⟨z,z1,z2,z3⟩:=h4.torn s2 (by rw[c5];exact s4) (by rw[c5];exact s3)
   grind
  grind [P5]
 obtain⟨m,d',r',c1,c2,c3,c4,c5,hr',cw,c6,c7,_,c9⟩:=Ug h i w3 w4 w5 w6 w7 w9 t steps.length<|Ay _;rw[<-c5]at cw;rw[Dg]at c1;have u:Steps d.Flash steps d'.Flash:=by rw[c5];exact c1
 have v:kE r r' b.Chunk a:=by grind
 have tt:(∀c,CT (AO d.Store) c->BB r' c=BB r c)/\(L a≠ []->BB r' b.Chunk=WE a):=by grind
 obtain⟨⟨qn,hq⟩,c10⟩:=c9 rfl;have hB:¬mO (Tx.mk d.Tx qn [b])=true:=by grind [mO]
 have f:=c4.ab;rw[hq,QZ,Bc hB,X3,<-h.dev.ab]at f;have h5:C8 (AO d.Store) d.Store.Next [b]=C3 (AO d.Store) d.Store.Next b:=by rfl
 simp only[h5]at f;have h0:=O1 h.dev c1 (by omega) c3
 cases l:C3 (AO d.Store) d.Store.Next b with
 |none=>
  rw[l]at f;have e1:AO d'.Store=AO d.Store:=Ch Prod.fst f;have e2:d'.Store.Next=d.Store.Next:=Ch Prod.snd f;exact⟨steps,d',r',w2,by omega,h0,⟨c4,c6,by rw[e1];exact c7⟩,by grind,by omega,by omega,v,cw,u,tt,by omega,cut⟩
 |some p=>
  obtain⟨l',nx'⟩:=p;rw[l]at f;have e1:AO d'.Store=l':=Ch Prod.fst f;have e2:d'.Store.Next=nx':=Ch Prod.snd f;obtain⟨v1,v2,v3⟩:=jA l x2
  have hz:∀c,CT l' c->c=b.Chunk->b.Kind≠4->False:=λc hc h8 hk=>by
   have:b.Chunk=0:=by grind [EG]
   have:=hc.1;omega
  have h1:b.Chunk<=d.Store.Next:=by
   by_cases hk:b.Kind=4
   ·rcases x3 with⟨_,x4⟩|⟨_,x4,_⟩
    ·have:=T3 h.dev.st (x4 hk).1;omega
    omega
   grind [EG]
  refine⟨steps,d',r',w2,by omega,h0,⟨c4,c6,?_⟩,by grind,by omega,by omega,v,cw,u,tt,by omega,cut⟩;rw[e1]
  rcases x3 with⟨x3,x4⟩|⟨x3,x4,x5,x6,x7⟩
  ·refine c7.mono λc hc=>?_
   grind
  exact(c10 _ x6 x5 x7).mono v1
def ACF (d d':Ax) (v:Int):Prop:=∀p∈AO d'.Store,(∃p'∈AO d.Store,p'.1=p.1)\/p.1=v
theorem vW (h:AO d'.Store=AO d.Store) (v:Int):ACF d d' v:=λp hp=> .inl ⟨p,by grind,rfl⟩
structure kL (c:FR):Prop where
 i0:0<=c.i_
 i1:c.i_<=(c.b_.length:Int)
 len:c.b_.length<=1048576
theorem wX (a:Int):0<=ban .i64 a 255/\ban .i64 a 255<=255:=by
 unfold ban;have h:(BitVec.ofInt IntKind.i64.bits a&&&BitVec.ofInt IntKind.i64.bits 255).toNat<=255:=by
  refine Iv Nat.and_le_right ?_;exact Nat.le_of_eq rfl
 grind [NE]
theorem Vg {c:FR} (h:kL c):∃v c',HE c=some (v,c')/\kL c'/\0<=v/\v<=255:=by
 have:=h.i0;have:=h.i1;have:=h.len;unfold HE;by_cases e:c.i_<ln c.b_
 ·rw[Ac e,An,JU h.i0<|by grind [Bi]];rw[Bi]at e;rw[Aa,BL (a:=c.i_) (by omega)<|by omega];exact⟨_,_,rfl,⟨by grind,by grind,h.len⟩,wX _⟩
 rw[Ah e,Ad];exact⟨_,_,rfl,⟨h.i0,h.i1,h.len⟩,wX _⟩
theorem AB5 {a n:Int} (h0:0<=a) (hn:0<n):∃v,rm .i64 a n=some v/\0<=v/\v<n:=by
 unfold rm;rw[Bc (by omega),Int.tmod_eq_emod_of_nonneg h0];exact⟨_,rfl,Int.emod_nonneg _ (by omega),Int.emod_lt_of_pos _ hn⟩
theorem AAD {c:FR} (h:kL c) (n:Int):∃v c',O0 c n=some (v,c')/\kL c'/\0<=v/\(0<n->v<n):=by
 unfold O0;by_cases h0:n<=0
 ·simp_all;grind
 by_cases h1:n<=256
 ·grind [Vg,AB5]
 rw[Ah h1,Ad];obtain⟨v1,c1,a1,a2,a3,a4⟩:=Vg h;obtain⟨v2,c2,b1,b2,b3,b4⟩:=Vg a2;obtain⟨v3,c3,d1,d2,d3,d4⟩:=Vg b2;obtain⟨v4,c4,e1,e2,e3,e4⟩:=Vg d2;rw[a1,Aa,b1,Aa,d1,Aa,e1,Aa,NT (by omega) (by omega),NT (by omega) (by omega),NT (by omega) (by omega),BL (a:=v1*16777216) (b:=v2*65536) (by omega) (by omega),BL (a:=v1*16777216+v2*65536) (b:=v3*256) (by omega) (by omega),BL (a:=v1*16777216+v2*65536+v3*256) (b:=v4) (by omega)<|by omega];obtain⟨w,w1,w2,w3⟩:=AB5 (a:=v1*16777216+v2*65536+v3*256+v4) (n:=n) (by omega)<|by omega
 grind
theorem AAg {c:FR} (h:kL c):kL (FR.mk c.b_ c.i_ c.h_):=h
theorem ACD (h:code.length<=1048576):∃c,Th code=some c/\kL c:=by
 unfold Th;obtain⟨b,h1,_⟩:=A9 (body:=λs:Int×Int=>KJ code s.1 s.2) (λ(o:Int) i=>(o,i)) code.length (λ_ _=>True) (λ_=>True)
  (λo i hi _=>by
   have hx:=Ab hi;simp only[KJ,Gk,Ac hi,An,Aa,Ao,hx];rw[ad1 (i:=i)<|by omega]
   cases decide ((i:Int)<4000)with
   |true=>grind
   |false=>grind)
  (λo _=>⟨o,by grind [Gk,KJ],trivial⟩) (s:=ad 36501<|ln code) trivial
 rw[h1];exact⟨_,rfl,⟨HZ _,by grind,h⟩⟩
theorem wU (h:3<=n/\n<=10):AU (Flash.mk (List.replicate n (Block.mk false 0 MI))):=by
 refine⟨by simpa using h,λb hb=>?_⟩
 grind [jN]
theorem cV (h:3<=n/\n<=10):O5 (n:Int)=some (Flash.mk (List.replicate n (Block.mk false 0 MI)),true):=by
 unfold O5;rw[Dx,Ac<|by omega];simp only[Aa,Al,Ad];have q:=mM (body:=λs:Int×List Block=>Ie (n:Int) s.1 s.2) n (λ_=>Block.mk false 0 MI)
  (λi a hi ho=>by grind [U8,Bq,ad1,Ie])
  (λa=>by grind [Ie])
 rw[q,Aa,L4,ES]
theorem aG:∀(n:Nat) (i:Int),J1 i (List.replicate n (Block.mk false 0 MI))=[]
 |0,i=>rfl
 |n+1,i=>by
  rw[List.replicate_succ,J1,aG n (i+1),Xn i 0 _ (λy hy=>by rw[EA hy];simp)];rfl
theorem kI (h:3<=n/\n<=10):∃d,KS (n:Int)=some (d,true)/\IE d []/\AO d.Store=[]/\d.Store.Next=1/\d.Flash=Flash.mk (List.replicate n (Block.mk false 0 MI)):=by
 have hP:=wU h;have b:SR (J1 0 (Flash.mk<|List.replicate n<|Block.mk false 0 MI).Blocks) []:=by
  rw[aG];exact⟨List.Pairwise.nil,λ_=>rfl⟩
 obtain⟨d,u1,u2,u3⟩:=Lj hP b;have a:=u2.ab;have:M4 (Cv<|AK [])=([],1):=rfl;rw[this]at a
 injection a with e1 e2
 refine⟨d,?_,⟨u2,⟨⟨by simp,by simp,by simp,by simp,by simp,by simp⟩,List.Pairwise.nil,⟨λy hy=>by cases hy⟩⟩,?_⟩,e1,e2,u3⟩
 ·grind [cV,KS]
 rw[e1];refine⟨λc hc=>?_,λc c' hc=>?_⟩
 ·obtain⟨_,p,hp,_⟩:=hc;cases hp
 obtain⟨_,p,hp,_⟩:=hc;cases hp
theorem fP (h:code.length<=1048576):∃p,LD code=some p/\p.length=12/\∀x∈p,0<=x/\x<10000:=by
 unfold LD;obtain⟨c,c1,c2⟩:=ACD h;rw[c1];simp only[Aa];obtain⟨v,c',b1,b2,_⟩:=Vg c2;rw[b1];simp only[Aa];obtain⟨a,h1,h2,h3⟩:=A9 (body:=λs:List Int×Int×List Int×Int×Int=>I1 s.1 s.2.1 s.2.2.1 s.2.2.2.1 s.2.2.2.2) (λ(o:List Int×FR) i=>(o.1,i,o.2.b_,o.2.i_,o.2.h_)) 12
  (λi o=>kL o.2/\o.1.length=i/\∀x∈o.1,0<=x/\x<10000) (λa=>a.length=12/\∀x∈a,0<=x/\x<10000)
  (λo i hi hs=>by
   obtain⟨p,cu⟩:=o;obtain⟨k1,k2,k3⟩:=hs;simp only at k1 k2 k3;simp only[I1];rw[cT];obtain⟨w,c3,w1,w2,w3,w4⟩:=AAD (AAg k1) 10000;rw[w1,Aa,Bq (by simp;omega),Aa,ad1];refine .inl ⟨(p++ [w],c3),rfl,w2,by simp;omega,λx hx=>?_⟩
   grind)
  (λo hs=>⟨o.1,by rfl,hs.2⟩) (s:=([],c')) ⟨b2,rfl,λx hx=>by cases hx⟩
 grind
theorem sN (d:Ax) (h:Zt d.Flash r) (hs:Ln d.Store<=1048576) (id:Int) (k:Nat) (hk:k<16):∃u ok,GC r d.Store id (k:Int)=some (u,ok)/\QD d id (k:Int)=some (u,ok):=by
 unfold Ln W4 at hs;have hl:=Uf (z:=Vh) (l:=d.Store.Arena.Knots);have ha:Oc d.Store.Arena:=by unfold Oc;omega
 unfold GC QD;obtain⟨v,h1,h2,h3⟩:=SI d.Store id (by omega);rw[h1,h2];simp only[Aa]
 cases decide (v<0)with
 |true=>grind
 |false=>
  obtain⟨c,c1,c2⟩:=oH d.Store (by omega) ha id k hk;rw[c1,c2];simp only[Aa]
  cases c==0 with
  |true=>grind
  |false=>
   obtain⟨u,ok,t1,t2⟩:=Ud h c
   grind
theorem sV (h:BR s):Ln s<=1048576:=by
 have h1:=h.len;have h2:=h.small;have a:∀l:List Bb,(∀k∈l,k.Kids.length=4)->(l.map Vh).sum=4*l.length:=by
  intro l
  induction l with
  |nil=>intro _;rfl
  |cons k l ih=>grind [Vh]
 have:=a s.Arena.Knots (λk hk=>by
  obtain⟨i,hi,rfl⟩:=Av hk;have:=(Fz.1 h.ar i hi).1
  grind [NU])
 unfold Ln W4 zl;omega
theorem mU (h:IE d r) (vol:Int) (hk:k<16):QD d vol (k:Int)=GC r d.Store vol (k:Int):=by
 obtain⟨u,ok,h1,h2⟩:=sN d h.dev.scan (sV h.dev.st) vol k hk;rw[h1,h2]
theorem XO (h:BR s) {live:List Int} (hl:Ef s=some live):JD s=some live:=by
 obtain⟨l,e1,e2,_,_⟩:=Ve s (by have:=h.len;omega)<|Yr h
 grind
theorem j9 (h:Gf d r) {live:List Int} (hl:Ef d.Store=some live) (l2:asc live) (l4:live.length<=16777216) (a b:Int):Xa d.Flash d.Store a b=some ((cn r.length (λj=>(BX r live a)[j]?.getD false&&bk r b j):Nat):Int)/\Gz d.Flash d.Store a b=some ((cn r.length (λj=>(BX r live a)[j]?.getD false&&bk r b j):Nat):Int):=by
 obtain⟨n,n1,n2⟩:=VP h.scan d.Store (XO h.st hl) l2 l4 a b;have c:=Xr r (BX r live a) b h.scan.len<|IR _ _ _;have e:BX r live a=live.foldl (YW r) (r.map<|Dh a):=rfl;rw[e]at c;rw[n1]at c;unfold Xa;rw[h.scan.s,hl];simp only[Aa];rw[LG r live _ h.scan.len l4]
 grind
theorem AAb (h:Gf d r) (hy:y∈r):Gj y.Page:=by
 obtain⟨b,x,g1,g2,_,g3⟩:=h.scan.page y hy;obtain⟨_,k1⟩:=Cp g1;obtain⟨_,k2⟩:=Cp g2;have hx:=h.fl.text b (Ap k1) x<|Ap k2;obtain⟨p,ok,m1,_,_,m2⟩:=H8 x.Text (by omega);rw[g3]at m1
 injection m1 with m1
 obtain⟨v,q1,q2⟩:=Sj p
 grind
theorem ACN (hc:IB g) (ss:List AE) (hs:ss.length<=1000) (p:Page) (b:Int):
  (∃s g',CG g ss p=some (g',ss++ [s],true)/\IB g'/\Cw (EU.mk g ss) p b=some (if(s.Block==b)=true then(false,EU.mk g ss)else(true,EU.mk g' (ss++ [s]))))\/
  (∃g' st,CG g ss p=some (g',st,false)/\∃w,Cw (EU.mk g ss) p b=some (false,w)):=by
 obtain⟨t,ok,t1,t2⟩:=VM p;obtain⟨bb,l,room,p1,p2,p3⟩:=YB g hc;unfold CG Cw;rw[t1,t2,p1,p2]
 cases ok with
 |false=>simp
 |true=>
  cases room with
  |false=>simp
  |true=>
   obtain⟨g2,v,g1,g3,g4⟩:=Vf g (AE.mk 1 bb l t) hc;have a:IB g2:=by grind [SG.cap]
   simp only[Al,Ad,Aa,g1,g3];rw[Bq<|by grind]
   cases v with
   |true=>
    refine .inl ⟨AE.mk 1 bb l t,g2,rfl,a,?_⟩
    cases hb:(bb==b)with
    |true=>rfl
    |false=>rfl
   |false=>
    refine .inr ⟨g2,_,rfl,?_⟩
    cases hb:(bb==b)with
    |true=>grind
    |false=>simp
abbrev yD:=Int×List AE×List Block
def YV (sq:Int) (y:Aj):Page:=Page.mk 1 sq y.Page.Tx 0 1 y.Page.Text
noncomputable def mv (b:Int):List Aj->yD->Option (Option yD)
 |[],o=>some (some o)
 |y::ys,o=>(CG (Flash.mk o.2.2) o.2.1 (YV o.1 y)).bind λv=>if v.2.2=true then(match v.2.1.getLast? with
  |some s=>if(s.Block==b)=true then some none else mv b ys (o.1+1,v.2.1,v.1.Blocks)
  |none=>some none)else some none
theorem vB (b:Int):∀(xs ys:List Aj) (o:yD),mv b (xs++ys) o=(mv b xs o).bind λq=>match q with
  |some o'=>mv b ys o'
  |none=>some none
 |[],ys,o=>rfl
 |x::xs,ys,o=>by
  simp only[BT,mv]
  cases CG (Flash.mk o.2.2) o.2.1 (YV o.1 x)with
  |none=>rfl
  |some v=>
   simp only[Aa];split
   ·split
    ·split
     ·rfl
     exact vB b xs ys _
    rfl
   rfl
def MvI (m:Nat) (o:yD):Prop:=IB (Flash.mk o.2.2)/\o.2.1.length<=m/\0<=o.1/\o.1<=1000000001+m
theorem mH {o:yD} (h:MvI m o) (hm:m<=1000):
  (∃s g',CG (Flash.mk o.2.2) o.2.1 (YV o.1 y)=some (g',o.2.1++ [s],true)/\(s.Block==b)=false/\(∀ys,mv b (y::ys) o=mv b ys (o.1+1,o.2.1++ [s],g'.Blocks))/\MvI (m+1) (o.1+1,o.2.1++ [s],g'.Blocks)/\Cw (EU.mk (Flash.mk o.2.2) o.2.1) (YV o.1 y) b=some (true,EU.mk g' (o.2.1++ [s])))\/
  ((∀ys,mv b (y::ys) o=some none)/\(∃w,Cw (EU.mk (Flash.mk o.2.2) o.2.1) (YV o.1 y) b=some (false,w))/\((∃s g',CG (Flash.mk o.2.2) o.2.1 (YV o.1 y)=some (g',o.2.1++ [s],true)/\(s.Block==b)=true)\/∃g' st,CG (Flash.mk o.2.2) o.2.1 (YV o.1 y)=some (g',st,false))):=by
 obtain⟨h1,h2,h3,h4⟩:=h
 rcases ACN h1 o.2.1 (by omega) (YV o.1 y) b with⟨s,g',a1,a2,a3⟩|⟨g',st,a1,w,a2⟩
 ·cases hb:(s.Block==b)with
  |true=>grind [mv]
  |false=>
   rw[hb]at a3;refine .inl ⟨s,g',a1,hb,λys=>by grind [mv],⟨a2,?_,?_,?_⟩,by rw[a3];rfl⟩
   ·grind
   ·omega
   omega
 grind [mv]
theorem vA:∀(xs:List Aj) {m:Nat} {o:yD},MvI m o->m+xs.length<=1000->∃v,mv b xs o=some v/\∀o',v=some o'->MvI (m+xs.length) o'
 |[],m,o,h,_=>⟨some o,rfl,λo' e=>by grind⟩
 |x::xs,m,o,h,hm=>by
  rw[AB]at hm
  rcases mH (b:=b) (y:=x) h (by omega)with⟨s,g',a1,a2,a3,a4,a5⟩|⟨a1,_⟩
  ·obtain⟨v,v1,v2⟩:=vA xs a4 (by omega);exact⟨v,by rw[a3,v1],λo' e=>by grind⟩
  simp_all
def Kd (b i:Int) (nd:List Bool) (r:List Aj):List Aj:=((nd.zip r).filter λq=>q.1&&(q.2.Block==b)&&(q.2.Leaf==i)).map Prod.snd
theorem o8 (hr:r.length<=40) (hk:∀y∈r,y.Page.Kind=1->y.Page.Count=1/\y.Page.Part=0) (d:nd.length=r.length) (hn:∀(j:Nat) y,r[j]?=some y->nd[j]?=some true->y.Page.Kind=1) (b i:Int):∀(n j:Nat),j+n=r.length->∀{m:Nat} {o:yD},MvI m o->m+n<=1000->
  Ai (λs:List AE×Int×Int×List Block=>E4 b r nd i s.1 s.2.1 s.2.2.1 s.2.2.2) (o.2.1,o.1,(j:Int),o.2.2)=(mv b (Kd b i (nd.drop j) (r.drop j)) o).map λq=>match q with
   |some o'=> .inl (o'.2.1,o'.1,o'.2.2)
   |none=> .inr (.inr (.inr ([],false)))
 |0,j,hj,m,o,ho,hm=>by
  rw[Au];simp only[E4,Gk];rw[cF,List.drop_of_length_le (by omega),List.drop_of_length_le (by omega)];rfl
 |n+1,j,hj,m,o,ho,hm=>by
  have a:j<r.length:=by omega
  have hx:=Ab a;have c:=Ab (show j<nd.length by omega);have hd:nd.drop j=nd[j]::nd.drop (j+1):=AA (by omega);have e:r.drop j=r[j]::r.drop (j+1):=AA a
  have go:∀{m':Nat} {o':yD},MvI m' o'->m'+n<=1000->_:=λ{m' o'} h1 h2=>o8 hr hk d hn b i n (j+1) (by omega) (m:=m') (o:=o') h1 h2
  rw[Au];simp only[E4,D6 a,Ao,hx,c,Aa];rw[ad1,hd,e];have es:Kd b i (nd[j]::nd.drop (j+1)) (r[j]::r.drop (j+1))=if(nd[j]&&(r[j].Block==b)&&(r[j].Leaf==i))=true then r[j]::Kd b i (nd.drop<|j+1) (r.drop<|j+1)else Kd b i (nd.drop<|j+1) (r.drop<|j+1):=by grind [List.zip_cons_cons,Kd]
  rw[es]
  cases f:nd[j]with
  |false=>
   exact go ho<|by omega
  |true=>
   cases hb:(r[j].Block==b)with
   |false=>
    simp only[bne,hb,BW,An,Aa,Bool.false_and,LQ,mQ];exact go ho<|by omega
   |true=>
    simp only[bne,hb,Al,Ad,Aa,Bool.true_and]
    cases g:(r[j].Leaf==i)with
    |false=>
     exact go ho<|by omega
    |true=>
     simp only[Al,Ad,C4];have h1:=hn j r[j] hx (by rw[c,f]);obtain⟨h2,h3⟩:=hk r[j] (Ar a) h1;have ep:Page.mk r[j].Page.Kind o.1 r[j].Page.Tx r[j].Page.Part r[j].Page.Count r[j].Page.Text=YV o.1 r[j]:=by rw[h1,h2,h3];rfl
     rw[ep];obtain⟨c1,c2,c3,c4⟩:=ho
     rcases mH (b:=b) (y:=r[j]) ⟨c1,c2,c3,c4⟩ (by omega)with⟨s,g',a1,a2,a3,a4,_⟩|⟨a1,_,⟨s,g',a2,a3⟩|⟨g',st,a2⟩⟩
     ·rw[a1,a3];simp only[Aa,Al,Ad];rw[Bi,A4,Ct,BC,show((o.2.1.length+1:Nat):Int)-1=(o.2.1.length:Int) by omega,Et];simp only[Aa,a2,Ad];rw[BL];exact go a4<|by omega
     ·grind [Bi,BC,Et]
     grind
theorem W6 (k:IntKind) (n:Nat) (h:n<=12) (hk:k= .u8\/k= .u64):k.wrap (n:Int)=(n:Int):=by
 have:n=0\/n=1\/n=2\/n=3\/n=4\/n=5\/n=6\/n=7\/n=8\/n=9\/n=10\/n=11\/n=12:=by omega
 rcases hk with rfl|rfl<;>rcases this with rfl|rfl|rfl|rfl|rfl|rfl|rfl|rfl|rfl|rfl|rfl|rfl|rfl<;>rfl
set_option maxRecDepth 20000 in
theorem Zq (n:Nat) (h:n<=12):∃v,UB (IntKind.u64.wrap (n:Int))=some v:=by
 rw[W6 _ n h<|.inr rfl];unfold UB X5;generalize hT:(bs _)=T;have a:13<=(L T).length:=by rw[<-hT,Du];decide
 rw[cF,Aa,cF,Aa,cF,Aa,W6 _ n h<|.inl rfl,Eg (i:=n) _<|by omega];exact⟨_,rfl⟩
theorem ZM {γ:Type} (a:γ->Int) (l:List γ) (hl:l.length<=12):∃r,Ka (Ma a) l=some r/\srt a r/\Bs a l r:=by
 obtain⟨v,hv⟩:=Zq l.length hl;obtain⟨r,h1,h2,h3⟩:=HL a [] l [] (by simp;omega);unfold Ka
 grind [Bi,Au,BC,DU,EW]
def eX (l:List Aj):Prop:=l.Pairwise λx y=>x.Page.Tx≠y.Page.Tx
theorem Yc {l:List Aj} {p:Aj->Bool} (hl:eX l) (hu:∀x∈l,∀y∈l,p x=true->p y=true->x=y) (hy:y∈l) (hp:p y=true):l.filter p=[y]:=by
 induction l with
 |nil=>cases hy
 |cons x l ih=>
  have h1:=BM.1 hl
  have hu':∀a∈l,∀c∈l,p a=true->p c=true->a=c:=λa ha c hc=>hu a (JP _ ha) c<|JP _ hc
  cases hx:p x with
  |true=>grind [BD]
  |false=>
   rw[HT<|by simp[hx]]
   rcases FI.1 hy with rfl|hy
   ·grind
   exact ih h1.2 hu' hy
theorem tT {c:List Aj} (ha:eX a) (hc:eX c) (hm:∀y,y∈a↔y∈c) (hu:∀x∈a,∀y∈a,x.Leaf=y.Leaf->x=y):Bs Bm a c:=by
 intro k
 have e1:∀x,(Bm x==k)=true↔x.Leaf=k:=λx=>by rw[LP];rfl
 by_cases h:∃y∈a,y.Leaf=k
 ·obtain⟨y,y1,y2⟩:=h
  rw[Yc ha (λx hx z hz p q=>hu x hx z hz<|by grind) y1<|(e1 y).2 y2,
   Yc hc (λx hx z hz p q=>hu x ((hm x).2 hx) z ((hm z).2 hz)<|by grind) ((hm y).1 y1) ((e1 y).2 y2)]
 grind [BD]
def Jg (r:List Aj) (b:Int) (live:List Int):List Aj:=live.filterMap λc=>match PK c r r.length with
 |some j=>if bk r b j=true then r[j]? else none
 |none=>none
theorem yQ (h:Zt f r) {live:List Int} (a:JD s=some live) (hl:live.length<=16777216) (b:Int):Rm f s b=some (Jg r b live):=by
 unfold Rm;rw[a];simp only[Aa];obtain⟨u,h1,h2⟩:=A9 (body:=λq:List Aj×Int=>Gw f b live q.1 q.2) (λ(u:List Aj) i=>(u,i)) live.length (λi u=>u=Jg r b (live.take i)) (λu=>u=Jg r b live)
  (λu i hi hu=>by
   have hg:live[i]?=some live[i]:=Ab hi;obtain⟨o,o1,o2⟩:=UT f r h.i h.len h.srt live[i];have ho:o=PK live[i] r r.length:=UF o2<|NI _ _ _<|Ay _;have c:u.length<=i:=by grind [Jg]
   have et:live.take (i+1)=live.take i++ [live[i]]:=by simp
   refine .inl ?_;simp only[Gw,D6 hi,Ao,hg,Aa,o1]
   cases ht:PK live[i] r r.length with
   |none=>grind [ad1,Jg]
   |some j=>grind [NH,Bq,ad1,JH,bk,Jg])
  (λu hu=>⟨u,by simp[Dk,Gw],by grind⟩) (s:=[]) (by simp[Jg])
 grind
theorem QX {live:List Int} (hy:y∈Jg r b live):∃c∈live,∃j,PK c r r.length=some j/\r[j]?=some y/\y.Block=b/\y.Page.Kind=1/\y.Page.Tx=c:=by
 obtain⟨c,c1,c2⟩:=List.mem_filterMap.1 hy
 grind [NH,bk,HX]
theorem ZK (r:List Aj) (b:Int):∀{live:List Int},live.Nodup->eX (Jg r b live)
 |[],_=>List.Pairwise.nil
 |c::live,h=>by
  obtain⟨h1,h2⟩:=Dc.1 h;have ih:=ZK r b h2;unfold Jg;rw[List.filterMap_cons];split
  ·exact ih
  rename_i y hy;refine BM.2 ⟨λz hz e=>?_,ih⟩;obtain⟨c',q1,j,q2,q3,q4,q5,q6⟩:=QX (r:=r) (b:=b) (live:=live) hz;obtain⟨c'',p1,j2,p2,p3,p4,p5,p6⟩:=QX (r:=r) (b:=b) (live:=[c]) (y:=y)<|by grind [Jg]
  grind
def Ou (b:Int) (nd:List Bool) (r:List Aj):List Aj:=Kd b 0 nd r++(Kd b 1 nd r++(Kd b 2 nd r++Kd b 3 nd r))
theorem WT {i:Int}:y∈Kd b i nd r↔(∃j:Nat,r[j]?=some y/\nd[j]?=some true)/\y.Block=b/\y.Leaf=i:=by
 unfold Kd;simp only[A7,AQ,Ak,LP];constructor
 ·grind [List.getElem?_of_mem,List.getElem?_zip_eq_some]
 rintro⟨⟨j,h1,h2⟩,h3,h4⟩;exact⟨(true,y),⟨Ap<|List.getElem?_zip_eq_some.2 ⟨h2,h1⟩,⟨rfl,h3⟩,h4⟩,rfl⟩
theorem gD (hn:∀(j:Nat) y,r[j]?=some y->nd[j]?=some true->PK y.Page.Tx r r.length=some j) (b i:Int):eX (Kd b i nd r):=by
 unfold Kd eX;rw[List.pairwise_map]
 have h0:(nd.zip r).Pairwise λp q=>p.1=true->q.1=true->p.2.Page.Tx≠q.2.Page.Tx:=by
  rw[Di];intro x y hx hy a p q e;have a1:=(List.getElem?_zip_eq_some (l₁:=nd) (l₂:=r)).1<|Ab hx;have a2:=(List.getElem?_zip_eq_some (l₁:=nd) (l₂:=r)).1<|Ab hy
  grind
 have h1:=h0.filter λq=>q.1&&(q.2.Block==b)&&(q.2.Leaf==i)
 grind
def tQ (b:Int) (nd:List Bool) (r:List Aj):Nat->Nat->List Aj
 |0,_=>[]
 |n+1,i=>Kd b (i:Int) nd r++tQ b nd r n (i+1)
theorem tP (b i:Int) (nd:List Bool) (r:List Aj):(Kd b i nd r).length<=r.length:=by
 unfold Kd
 grind
theorem o7 (hr:r.length<=40) (hk:∀y∈r,y.Page.Kind=1->y.Page.Count=1/\y.Page.Part=0) (c:nd.length=r.length) (hn:∀(j:Nat) y,r[j]?=some y->nd[j]?=some true->y.Page.Kind=1) (b:Int):∀(n i:Nat),i+n=4->∀{m:Nat} {o:yD},MvI m o->m+n*40<=1000->
  Ai (λs:List AE×Int×Int×List Block=>FN b r nd s.1 s.2.1 s.2.2.1 s.2.2.2) (o.2.1,o.1,(i:Int),o.2.2)=(mv b (tQ b nd r n i) o).map λq=>match q with
   |some o'=> .inl o'.2.1
   |none=> .inr ([],false)
 |0,i,hi,m,o,ho,hm=>by
  rw[Au];simp only[FN];rw[cF];rfl
 |n+1,i,hi,m,o,ho,hm=>by
  rw[Au];simp only[FN];rw[cT];have a:=o8 hr hk c hn b (i:Int) r.length 0 (by omega) ho (by omega);simp only[List.drop_zero]at a;rw[show((0:Nat):Int)=0 from rfl]at a;rw[a];have d:=tP b (i:Int) nd r;obtain⟨v,v1,v2⟩:=vA (b:=b) (Kd b (i:Int) nd r) ho (by omega);have es:tQ b nd r (n+1) i=Kd b (i:Int) nd r++tQ b nd r n (i+1):=rfl;rw[es,vB,v1]
  cases v with
  |none=>rfl
  |some o'=>
   rw[ad1];exact o7 hr hk c hn b n (i+1) (by omega) (v2 o' rfl)<|by omega
theorem qC (d:Ax) (b:Int) (X:List Aj) (hX:X.length<=100) (hd:0<=d.Seq/\d.Seq<=1000000001):∀(n i:Nat),i+n=X.length->∀{m:Nat} {o:yD},MvI m o->m+n<=1000->o.1=d.Seq+i->
  Ai (λs:Int×List Block×List AE=>H3 d b X s.1 s.2.1 s.2.2) ((i:Int),o.2.2,o.2.1)=(mv b (X.drop i) o).map λq=>match q with
   |some o'=> .inl (o'.2.2,o'.2.1)
   |none=> .inr ([],false)
 |0,i,hi,m,o,ho,hm,hs=>by
  rw[Au];simp only[H3,Gk];rw[cF,List.drop_of_length_le (by omega)];rfl
 |n+1,i,hi,m,o,ho,hm,hs=>by
  have a:i<X.length:=by omega
  have hx:=Ab a;rw[Au];simp only[H3,D6 a,Ao,hx,Aa];rw[BL,<-hs,AA a];have ep:Page.mk 1 o.1 X[i].Page.Tx 0 1 X[i].Page.Text=YV o.1 X[i]:=rfl;rw[ep]
  rcases mH (b:=b) (y:=X[i]) ho (by omega)with⟨s,g',a1,a2,a3,a4,a5⟩|⟨a1,⟨w,a2⟩,_⟩
  ·rw[a5,a3];rw[ad1];exact qC d b X hX hd n (i+1) (by omega) a4 (by omega)<|by omega
  grind
theorem aF {x:Aj} (h:Gf d r) (hx:x∈r) (hy:y∈r) (hb:x.Block=y.Block) (hl:x.Leaf=y.Leaf):x=y:=by
 obtain⟨b,l,g1,g2,_,g3⟩:=h.scan.page x hx;obtain⟨b',l',k1,k2,_,k3⟩:=h.scan.page y hy;rw[hb,k1]at g1
 injection g1 with g1
 subst g1;rw[hl,k2]at g2
 injection g2 with g2
 subst g2;rw[k3]at g3
 injection g3 with g3
 cases x;cases y
 grind
theorem rU (h:Gf d r) (hy:y∈r):0<=y.Leaf/\y.Leaf<4:=by
 obtain⟨b,l,g1,g2,_,g3⟩:=h.scan.page y hy;obtain⟨_,k1⟩:=Cp g1;obtain⟨q0,k2⟩:=Cp g2;have:=(h.fl.blk b<|Ap k1).four
 grind
theorem YC (h:Gf d r) (m:r.length<=40) {live:List Int} (l1:Ef d.Store=some live) (l2:asc live) (l3:∀x,x∈live↔CT (AO d.Store) x) (l4:live.length<=16777216) (b:Int):
  ∃v,mv b (Ou b (BX r live 1000000001) r) (d.Seq,[],d.Flash.Blocks)=some v/\Hm d b=some (match v with|some o=>(o.2.1,true)|none=>([],false))/\Lc d b=some (match v with|some o=>(o.2.1,true)|none=>([],false))/\
  (Ou b (BX r live 1000000001) r).length=(Jg r b live).length/\(Ou b (BX r live 1000000001) r).length<=4/\∀y,y∈Ou b (BX r live 1000000001) r↔y∈Jg r b live:=by
 have n:=h.pages;have w:1<=d.Seq/\d.Seq<=1000000001:=by
  rw[h.seq];have h1:=Lq r;refine⟨h1.2.1,h1.2.2 _ (by omega) λy hy=>?_⟩;have:=(n.seq y hy).2;omega
 have hk:∀y∈r,y.Page.Kind=1->y.Page.Count=1/\y.Page.Part=0:=by
  intro y hy k1;obtain⟨_,_,_,c1,c2,_,c3⟩:=AAb h hy;omega
 have hn:∀(j:Nat) y,r[j]?=some y->(BX r live 1000000001)[j]?=some true->y.Page.Kind=1:=λj y hy hj=>(Xz h l3 hy hj).1
 have f:∀(j:Nat) y,r[j]?=some y->(BX r live 1000000001)[j]?=some true->PK y.Page.Tx r r.length=some j/\y.Page.Tx∈live:=by
  intro j y hy hj;rw[NR r live _ hy]at hj
  injection hj with hj
  rw[GO]at hj
  rcases hj with hj|hj
  ·simp only[Dh,Ak,LP,Bf]at hj;have:=(n.tx y<|Ap hy).2;omega
  grind [NH,HX]
 have hm:∀y,y∈Ou b (BX r live 1000000001) r↔y∈Jg r b live:=by
  intro y;have e1:y∈Ou b (BX r live 1000000001) r↔(∃j:Nat,r[j]?=some y/\(BX r live 1000000001)[j]?=some true)/\y.Block=b:=by
   unfold Ou;simp only[A0,WT];constructor
   ·grind
   rintro⟨⟨j,q1,q2⟩,q3⟩;have:=rU h<|Ap q1
   grind
  rw[e1];constructor
  ·rintro⟨⟨j,q1,q2⟩,q3⟩;obtain⟨q4,q5⟩:=f j y q1 q2;refine List.mem_filterMap.2 ⟨y.Page.Tx,q5,?_⟩
   grind [bk]
  intro hy;obtain⟨c,c1,j,c2,c3,c4,c5,c6⟩:=QX hy;refine⟨⟨j,c3,?_⟩,c4⟩;rw[NR r live _ c3,Aq,GO]
  grind
 have p:∀y∈Jg r b live,y∈r/\y.Block=b:=λy hy=>by grind [QX]
 have q:∀x∈Jg r b live,∀y∈Jg r b live,x.Leaf=y.Leaf->x=y:=λx hx y hy e=>aF h (p x hx).1 (p y hy).1 (by grind) e
 have t:∀i:Int,∀y∈Kd b i (BX r live 1000000001) r,y∈r/\y.Block=b/\y.Leaf=i:=λi y hy=>by grind [WT]
 have h3:∀i:Int,(Kd b i (BX r live 1000000001) r).length<=1:=by
  intro i;have hd:=gD (λj y hy hj=>(f j y hy hj).1) b i
  rcases hc:Kd b i (BX r live 1000000001) r with _|⟨x,_|⟨y,l⟩⟩
  ·exact JO 1
  ·exact Ay 1
  have hx:=t i x (by rw[hc];simp);have hy:=t i y (by rw[hc];simp);rw[hc]at hd;exact absurd (aF h hx.1 hy.1 (by rw[hx.2.1,hy.2.1])<|by rw[hx.2.2,hy.2.2]) λe=>(BM.1 hd).1 y (by simp)<|by rw[e]
 have z:(Ou b (BX r live 1000000001) r).length<=4:=by
  unfold Ou
  grind
 have h0:eX (Ou b (BX r live 1000000001) r):=by
  have hd:∀i:Int,eX (Kd b i (BX r live 1000000001) r):=λi=>gD (λj y hy hj=>(f j y hy hj).1) b i
  have cross:∀i k:Int,i≠k->∀x∈Kd b i (BX r live 1000000001) r,∀y∈Kd b k (BX r live 1000000001) r,x.Page.Tx≠y.Page.Tx:=by grind [WT]
  grind [Ou,eX]
 have a:Bs Bm (Jg r b live) (Ou b (BX r live 1000000001) r):=tT (ZK r b<|bR l2) h0 (λy=>(hm y).symm) q;have u:=a.len;have g:srt Bm (Ou b (BX r live 1000000001) r):=by
  have hc:∀i:Int,srt Bm (Kd b i (BX r live 1000000001) r):=by
   intro i
   refine List.pairwise_of_forall_mem_list λx hx y hy=>?_
   show x.Leaf<=y.Leaf
   grind
  have cross:∀i k:Int,i<=k->∀x∈Kd b i (BX r live 1000000001) r,∀y∈Kd b k (BX r live 1000000001) r,Bm x<=Bm y:=by
   intro i k h4 x hx y hy;show x.Leaf<=y.Leaf
   grind
  grind [Ou,srt]
 have I0:MvI 0 (d.Seq,[],d.Flash.Blocks):=⟨h.fl.cap,Ay _,by omega,by omega⟩;obtain⟨v,v1,v2⟩:=vA (b:=b) (Ou b (BX r live 1000000001) r) I0 (by omega);refine⟨v,v1,?_,?_,u.symm,z,hm⟩
 ·unfold Hm;rw[h.scan.s,l1];simp only[Aa];rw[LG r live _ h.scan.len l4];have h2:live.foldl (YW r) (r.map<|Dh 1000000001)=BX r live 1000000001:=rfl;rw[h2];have ho:=o7 m hk (IR r live 1000000001) hn b 4 0 (by omega) I0 (by omega)
  grind [tQ,Ou]
 unfold Lc;rw[yQ h.scan (XO h.st l1) l4 b];simp only[Aa];obtain⟨X,x1,x2,x3⟩:=ZM Bm (Jg r b live) (by omega);have hX:X=Ou b (BX r live 1000000001) r:=Mk Bm x2 g (λk=>by rw[x3 k,<-a k]);rw[x1,hX];have ho:=qC d b (Ou b (BX r live 1000000001) r) (by omega) ⟨by omega,w.2⟩ (Ou b (BX r live 1000000001) r).length 0 (by omega) I0 (by omega)<|by omega
 grind
theorem Yy (s:Store) (hv:s.Vols.length<=1048576) (id:Int):∃w,CB s id=some w/\(w<0↔JG (AO s) id=none):=by
 rcases DZ s hv id with⟨e,h⟩|⟨k,v,e,h1,h2,_⟩
 ·grind [Kr]
 grind [Kr]
theorem xO (h:Gf d r) (hn:d.Store.Next<1000000000) (q:RF):∃b text no,CR d q=some (b,text,no)/\(b=[]\/∃x p,b=[x]/\C3 (AO d.Store) d.Store.Next x=some p)/\(L text≠ []->q.Kind=1):=by
 have n:=h.st.len;have f:=h.st.nx;obtain⟨v,a1,a2⟩:=Uv q
 have a:∀{P:Prop},L (bs [])≠ []->P:=λhh=>absurd (Du _) hh
 unfold CR;rw[a1];simp only[Aa]
 cases v with
 |false=>exact⟨_,_,_,rfl,.inl rfl,a⟩
 |true=>
  have hq:=a2 rfl;simp only[Al,Ad];have j:=hq.kind;obtain⟨w,hw,k⟩:=Yy d.Store (by omega) q.Vol;rw[hw];simp only[Aa];by_cases h34:q.Kind=3\/q.Kind=4
  ·have:(cond (q.Kind==3) (some true) (some<|q.Kind==4):Option Bool)=some true:=by grind
   rw[this];simp only[Aa,An];by_cases g:w<0
   ·rw[Ah (by omega:¬w>=0)];simp only[Ad];obtain⟨u,hu,o⟩:=Yy d.Store (by omega) q.Of;obtain⟨j2,l,s⟩:∃j2,(cond (q.Kind==4) ((CB d.Store q.Of).bind λv3=>some<|decide<|v3<0) (some false):Option Bool)=some j2/\(j2=false->q.Kind=4->JG (AO d.Store) q.Of≠none):=by grind
    rw[l];simp only[Aa]
    cases j2 with
    |true=>exact⟨_,_,_,rfl,.inl rfl,a⟩
    |false=>
     simp only[Ad];rw[Bi];by_cases i:(d.Store.Vols.length:Int)>=3
     ·rw[Ac i];exact⟨_,_,_,rfl,.inl rfl,a⟩
     rw[Ah i];refine⟨_,_,_,rfl,.inr ⟨_,(mP (AO d.Store) q.Vol (if 0<q.Of then(JG (AO d.Store) q.Of).getD P7 else P7),d.Store.Next),rfl,?_⟩,a⟩;unfold C3;rw[Bc (by rw[ABi hq.vol hq.of_];simp),Bc (by simp),B3 rfl,Bc];simp only[not_or];refine⟨?_,by grind,by rw[Iu];omega⟩;rintro⟨e1,e2⟩
     rcases h34 with e|e
     ·have:=hq.no (by omega);omega
     grind
   rw[Ac (by omega:w>=0)];exact⟨_,_,_,rfl,.inl rfl,a⟩
  have:(cond (q.Kind==3) (some true) (some<|q.Kind==4):Option Bool)=some false:=by grind
  rw[this];simp only[Aa,Ad];by_cases g:w<0
  ·rw[Ah (by omega:¬w>=0)];exact⟨_,_,_,rfl,.inl rfl,a⟩
  rw[Ac (by omega:w>=0)]
  have hg:JG (AO d.Store) q.Vol≠none:=λe=>g<|k.2 e
  have taken:∀x:BS,EG x=true->x.Kind≠1->x.Kind≠2->x.Vol=q.Vol->x.Chunk<1000000000->∃p,C3 (AO d.Store) d.Store.Next x=some p:=by
   intro x x1 x2 x3 x4 x5;unfold C3;have x6:¬(JG (AO d.Store) x.Vol=none\/x.Chunk=1000000000):=by grind
   rw[Bc (by rw[x1];simp),Bc x2,Bc x3,Bc x6];split<;>exact⟨_,rfl⟩
  simp only[Al,Ad]
  cases k1:(q.Kind==1)with
  |true=>
   simp only[An];have k1':q.Kind=1:=by simpa using k1
   obtain⟨live,l1,l2,l3,l4⟩:=E5 h.st;obtain⟨c,f1,f2⟩:=MN h l4 q.Text;rw[l1,Aa,f1];simp only[Aa]
   rcases f2 with⟨rfl,f2⟩|⟨f2,f3⟩
   ·obtain⟨z,z1,z2,z3⟩:=Y0 q.Text hq.text;rw[show((0:Int)==0)=true from rfl,z1];obtain⟨p,hp⟩:=taken (BS.mk 4 q.Vol q.Sector d.Store.Next) (rC hq.vol (by have:=hq.sec;omega) ⟨f.1,f.2⟩) (by simp) (by simp) rfl hn;exact⟨_,_,_,rfl,.inr ⟨_,_,rfl,hp⟩,λ_=>k1'⟩
   have m:=(l3 c).1 f2;have t:=T3 h.st m;rw[show(c==0)=false by grind];obtain⟨p,hp⟩:=taken (BS.mk 4 q.Vol q.Sector c) (rC hq.vol (by have:=hq.sec;omega)<|by omega) (by simp) (by simp) rfl (by show c<_;omega);exact⟨_,_,_,rfl,.inr ⟨_,_,rfl,hp⟩,λ_=>k1'⟩
  |false=>
   simp only[Ad]
   cases k2:(q.Kind==2)with
   |true=>
    obtain⟨p,hp⟩:=taken (BS.mk 5 q.Vol q.Sector 0) (by
     have:=hq.vol;have:=hq.sec
     grind [EG]) (by simp) (by simp) rfl<|by grind
    exact⟨_,_,_,rfl,.inr ⟨_,_,rfl,hp⟩,a⟩
   |false=>
    simp only[Ad]
    cases k5:(q.Kind==5)with
    |true=>
     obtain⟨p,hp⟩:=taken (BS.mk 3 q.Vol 0 0) (by
      have:=hq.vol
      grind [EG]) (by simp) (by simp) rfl<|by grind
     exact⟨_,_,_,rfl,.inr ⟨_,_,rfl,hp⟩,a⟩
    |false=>exact⟨_,_,_,rfl,.inl rfl,a⟩
theorem sW (h:AU f):N1 f<=10000:=by
 have hl:∀l:List Leaf,(∀x∈l,zO x)->(l.map W3).sum<=120*l.length:=by
  intro l
  induction l with
  |nil=>intro _;simp
  |cons x l ih=>
   intro hx;rw[CF,GX,AB];have:=ih (λy hy=>hx y<|by simp[hy]);have h1:W3 x<=120:=by
    have a:x.Text.size=(L x.Text).length:=by rfl
    unfold W3
    rcases hx x (by simp)with⟨_,e⟩|⟨_,_,e⟩|⟨_,e⟩
    ·grind
    ·omega
    omega
   omega
 have hb:∀l:List Block,(∀b∈l,IF b)->(l.map Lo).sum<=500*l.length:=by
  intro l
  induction l with
  |nil=>intro _;simp
  |cons b l ih=>
   intro hx;rw[CF,GX,AB];have:=ih (λy hy=>hx y<|by simp[hy]);have h1:=hx b (by simp);have h2:=hl b.Leaves h1.leaf;have h4:=h1.four;have hz:Lo b=b.Leaves.length+(b.Leaves.map W3).sum:=rfl;omega
 have:=hb f.Blocks h.blk;have hn:=h.n;unfold N1 zl;omega
theorem qO (hf:AU d.Flash) (hs:BR d.Store):Ol d<=1048576:=by
 have h1:=sW hf;have h2:=hs.len;have h3:=hs.small;have a:∀l:List Bb,(∀k∈l,k.Kids.length=4)->(l.map Vh).sum=4*l.length:=by
  intro l
  induction l with
  |nil=>intro _;rfl
  |cons k l ih=>grind [Vh]
 have h4:=a d.Store.Arena.Knots (λk hk=>by
  obtain⟨i,hi,rfl⟩:=Av hk;have:=(Fz.1 hs.ar i hi).1
  grind [NU])
 have e1:Ln d.Store=d.Store.Vols.length+(d.Store.Arena.Knots.length+(d.Store.Arena.Knots.map Vh).sum):=rfl
 grind [Ol]
theorem Z4 (h:Gf d r):Ol d<=1048576:=qO h.fl h.st
end Go.TI
