/- What is written is read, and from a clone. No condition; no program is in sight. -/
import Derived.Test.YtacibgiakaoomaaGreatRBP1
set_option linter.unusedVariables false
set_option linter.unusedSimpArgs false
namespace Go.TI
open Go
theorem sT (s:ByteArray) (f a:Nat) (hf:f<a) (ha:a<=(L s).length) (hs:(L s).length<=64):∃k:Nat,OG s (f:Int) (a:Int)=some (k:Int)/\k<=31/\a+k<=(L s).length/\∀j,j<k->(L s)[f+j]?=(L s)[a+j]? :=by
 obtain⟨b,h1,k,rfl,h2,h3,h4⟩:=A4 (body:=λn:Int=>KD s (f:Int) (a:Int) n) (λ(_:Unit) i=>i) 31 (λi _=>a+i<=(L s).length/\∀j,j<i->(L s)[f+j]?=(L s)[a+j]?) (λb=>∃k:Nat,b=(k:Int)/\k<=31/\a+k<=(L s).length/\∀j,j<k->(L s)[f+j]?=(L s)[a+j]?)
  (λ_ i hi hs=>by
   simp only[KD];rw[cT,BW,BW,Ba];by_cases c:a+i<(L s).length
   ·rw[cT];have e1:((f:Int)+(i:Int))=((f+i:Nat):Int):=by omega
    have e2:((a:Int)+(i:Int))=((a+i:Nat):Int):=by omega
    rw[e1,e2,DT s (by omega),DT s c];simp only[Aa]
    cases hq:((((L s)[f+i]).toNat:Int)==(((L s)[a+i]).toNat:Int))with
    |true=>
     rw[ad1];refine .inl ⟨(),rfl,by omega,λj hj=>?_⟩
     grind [UInt8.toNat_inj]
    |false=>grind
   grind)
  (λ_ hs=>by
   simp only[KD];rw[cF]
   exact⟨_,rfl,31,rfl,by omega,hs.1,hs.2⟩) (s:=()) ⟨by omega,λj hj=>by omega⟩
 unfold OG
 grind
def zT (s:ByteArray) (a z b:Nat):Prop:=z<=31/\a+z<=(L s).length/\(z=0\/(4<=z/\1<=b/\b<=a/\∀j,j<z->(L s)[a-b+j]?=(L s)[a+j]?))
theorem vS (s:ByteArray) (a:Nat) (ha:a<=(L s).length) (hs:(L s).length<=64):∃z b:Nat,Ai (λq:Int×Int×Int=>Ec s (a:Int) q.1 q.2.1 q.2.2) (0,0,sb (a:Int) 1)=some ((z:Int),(b:Int))/\zT s a z b:=by
 rw[BD];obtain⟨r,h1,z,b,rfl,h2⟩:=A4 (body:=λq:Int×Int×Int=>Ec s (a:Int) q.1 q.2.1 q.2.2) (λ(q:Nat×Nat) i=>((q.1:Int),(q.2:Int),(a:Int)-1-i)) a (λi q=>zT s a q.1 q.2) (λr=>∃z b:Nat,r=((z:Int),(b:Int))/\zT s a z b)
  (λq i hi hq=>by
   obtain⟨k,m1,m2,m3,m4⟩:=sT s (a-1-i) a (by omega) ha hs;have e1:((a:Int)-1-(i:Int))=((a-1-i:Nat):Int):=by omega
   simp only[Ec,e1];rw[Ac (by omega:(((a-1-i:Nat)):Int)>=0),Al,m1,Aa,BD,BD];refine .inl ?_;have e2:(((a-1-i:Nat):Int)-1)=(a:Int)-1-((i+1:Nat):Int):=by omega
   have e3:((a:Int)-((a-1-i:Nat):Int))=((1+i:Nat):Int):=by omega
   rw[e2,e3];by_cases h4:4<=k
   ·rw[cT];by_cases h5:q.1<k
    ·rw[Ac (by omega:(k:Int)>(q.1:Int))];exact⟨(k,1+i),rfl,m2,m3,.inr ⟨h4,by omega,by omega,λj hj=>by grind⟩⟩
    grind
   grind)
  (λq hq=>by grind [Ec]) (s:=(0,0)) ⟨by omega,by omega,.inl rfl⟩
 grind
def W0:Nat->Nat->List UInt8->List UInt8
 |0,_,out=>out
 |n+1,b,out=>W0 n b (out++ [(out[out.length-b]?).getD 0])
def YZ (a:List UInt8) (t:AH):List UInt8:=if t.Back=0 then a++L t.Text else W0 t.Size.toNat t.Back.toNat a
def E4 (l:List AH):List UInt8:=l.foldl YZ []
def okT (a:List UInt8) (t:AH):Prop:=(t.Back=0/\t.Size=0/\1<=(L t.Text).length/\(L t.Text).length<=31)\/(1<=t.Back/\t.Back<=(a.length:Int)/\1<=t.Size/\t.Size<=31/\L t.Text=[])
def wX (l:List AH):Prop:=∀(i:Nat) t,l[i]?=some t->okT (E4<|l.take i) t
theorem NZ (l:List AH) (t:AH):E4 (l++ [t])=YZ (E4 l) t:=by unfold E4;grind
variable {r a r':List Ak} {d e d':Device} {y:Ak} {n k m j:Nat} {g f:Flash} {s:Store} {c b nx nx':Int} {P:Int->Prop} {T:List ByteArray} {l l':Vs} {t:AH} {p:Page} {nd:List Bool} {ps:List Page} {x:BV} {ss:List A8} {K:Ks} {q:Ask} {code:List Int}
theorem fC {l:List AH} (h:wX l) (ht:okT (E4 l) t):wX (l++ [t]):=by
 intro i x hx;by_cases e:i<l.length
 ·rw[KQ e]at hx;rw[List.take_append_of_le_length<|by omega];exact h i x hx
 grind
theorem wW {l:List AH} (h:wX (l++ [t])):wX l/\okT (E4 l) t:=by
 refine⟨λi x hx=>?_,?_⟩
 ·have:=h i x (by grind)
  grind
 have:=h l.length t<|by grind
 grind
theorem dI (S:List UInt8):∀(n a b:Nat),a+n<=S.length->1<=b->b<=a->(∀j,j<n->S[a-b+j]?=S[a+j]?)->W0 n b (S.take a)=S.take (a+n)
 |0,a,b,_,_,_,_=>rfl
 |n+1,a,b,h1,h2,h3,h4=>by
  rw[W0];have hl:(S.take a).length=a:=by grind
  have e:((S.take a)[(S.take a).length-b]?).getD 0=S[a]'(by omega):=by
   have:=h4 0<|by omega
   grind
  rw[e,<-Ag (by omega),dI S n (a+1) b (by omega) h2 (by omega) λj hj=>by grind];congr 1;omega
theorem kX:∀(n b:Nat) (a:List UInt8),(W0 n b a).length=a.length+n
 |0,_,_=>rfl
 |n+1,b,a=>by rw[W0,kX];simp;omega
theorem T6 (s:ByteArray) (hs:(L s).length<=64):∀(n a:Nat) (c:List AH),(L s).length-a<=n->a<=(L s).length->c.length<=a->wX c->E4 c=(L s).take a->∃l,Ai (λq:List AH×Int=>Cg s q.1 q.2) (c,(a:Int))=some l/\wX l/\E4 l=L s/\l.length<=64
 |n,a,c,hn,ha,g,d,hpl=>by
  by_cases h:a<(L s).length
  ·obtain⟨z,b,h1,h2,h3,h4⟩:=vS s a ha hs
   match n,hn with
   |0,hn=>omega
   |n+1,hn=>
   rcases h4 with rfl|⟨h4,h5,h6,h7⟩
   ·
    have f:sub s (a:Int) ((a+1:Nat):Int)=some (s.extract a<|a+1):=EU s (by omega) (by omega);have hx:L (s.extract a<|a+1)=[(L s)[a]]:=by
     rw[Jc,show a+1-a=1 by omega,A6 h];rfl
    have fresh:∃l,Ai (λq:List AH×Int=>Cg s q.1 q.2) (c++ [AH.mk 0 0<|s.extract a<|a+1],((a+1:Nat):Int))=some l/\wX l/\E4 l=L s/\l.length<=64:=
     T6 s hs n (a+1) _ (by omega) (by omega) (by simp;omega) (fC d<|.inl ⟨rfl,rfl,by rw[hx];simp,by rw[hx];simp⟩) (by grind [NZ,Ag,YZ])
    rcases Ga c with e|⟨out0,t0,e⟩
    ·subst e;obtain⟨l,f1,f2⟩:=fresh;rw[Au];have hb:Cg s [] (a:Int)=some (.inl ([AH.mk 0 0<|s.extract a<|a+1],((a+1:Nat):Int))):=by
      simp only[Cg];rw[Ba,cT,h1];simp only[Aa];rw[show decide ((((0:Nat):Int))>0)=false from rfl,Ad,ad1,f,show decide ((sb (ln ([]:List AH)) 1)>=0)=false from rfl];rfl
     grind
    rw[Jh]at e;subst e;obtain⟨ok0,okt0⟩:=wW d;have hol':out0.length+1<=a:=by simpa using g
    have j:ln (out0++ [t0])=((out0.length+1:Nat):Int):=by rw[AY];simp
    have k:sb (ln<|out0++ [t0]) 1=(out0.length:Int):=by grind [BD]
    have m:gi (out0++ [t0]) (out0.length:Int)=some t0:=Eh _ _;by_cases hm:t0.Back=0/\(L t0.Text).length<31
    ·have i:GI t0.Text (s.extract a<|a+1)=some (t0.Text++s.extract a (a+1)):=E8 _ _ (by grind);have hb:Cg s (out0++ [t0]) (a:Int)=some (.inl (out0++ [AH.mk t0.Back t0.Size<|t0.Text++s.extract a (a+1)],((a+1:Nat):Int))):=by
      simp only[Cg];rw[Ba,cT,h1];simp only[Aa]
      grind [ad1,Ba,II]
     have hX:L (t0.Text++s.extract a (a+1))=L t0.Text++ [(L s)[a]]:=by rw[EG,hx]
     obtain⟨l,f1,f2⟩:=T6 s hs n (a+1) (out0++ [AH.mk t0.Back t0.Size<|t0.Text++s.extract a (a+1)]) (by omega) (by omega) (by grind) (fC ok0 (by
      rcases okt0 with⟨k1,k2,k3,k4⟩|⟨k1,_⟩
      ·exact .inl ⟨k1,k2,by rw[hX];simp,by grind⟩
      omega))<|by grind [NZ,Ag,YZ]
     grind [Au]
    have hb:Cg s (out0++ [t0]) (a:Int)=some (.inl (out0++ [t0]++ [AH.mk 0 0<|s.extract a<|a+1],((a+1:Nat):Int))):=by grind [Ba,ad1,AN,Cg]
    grind [Au]
   have hb:Cg s c (a:Int)=some (.inl (c++ [AH.mk (b:Int) (z:Int)<|bs []],((a+z:Nat):Int))):=by grind [Ba,AN,BW,Cg]
   obtain⟨l,f1,f2⟩:=T6 s hs n (a+z) (c++ [AH.mk (b:Int) (z:Int)<|bs []]) (by omega) h3 (by simp;omega) (fC d<|.inr ⟨by simp;omega,by grind,by simp;omega,by simp;omega,CB _⟩)<|by grind [NZ,dI,YZ]
   grind [Au]
  grind [Au,Ba,Cg]
theorem zY (s:ByteArray) (hs:(L s).length<=64):∃l,M1 s=some l/\wX l/\E4 l=L s/\l.length<=64:=by
 obtain⟨l,h1,h2⟩:=T6 s hs (L s).length 0 [] (by omega) (by omega) (by simp) (λi t h=>by simp at h)<|by simp[E4]
 grind [Ba,M1]
def MZ (t:AH):List UInt8:=if t.Back=0 then UInt8.ofNat (L t.Text).length::L t.Text else [UInt8.ofNat (128+t.Size).toNat,UInt8.ofNat t.Back.toNat]
theorem qX {a:List UInt8} (h:okT a t) (ho:a.length<=64):(MZ t).length<=32:=by
 unfold MZ
 rcases h with⟨h1,h2,h3,h4⟩|⟨h1,h2,h3,h4,h5⟩
 ·grind
 grind
theorem ABg {a:List UInt8} (h:okT a t):a.length<=(YZ a t).length:=by grind [kX,YZ]
theorem MB {l:List AH} (h:wX l):∀i,i<=l.length->(E4 (l.take i)).length<=(E4 l).length:=by
 have step:∀i,i<l.length->(E4<|l.take i).length<=(E4<|l.take<|i+1).length:=λi hi=>by
  rw[Ag hi,NZ];exact ABg<|h i _<|Ab hi
 intro i hi;have:∀k,i+k<=l.length->(E4<|l.take i).length<=(E4<|l.take<|i+k).length:=by
  intro k
  induction k with
  |zero=>grind
  |succ k ih=>grind
 have:=this (l.length-i) (by omega);simp_all
theorem ACO (s:ByteArray) (hs:(L s).length<=64):∃l,wX l/\E4 l=L s/\l.length<=64/\((Dz s=some (bs (122::l.flatMap MZ),true))\/Dz s=some (bs (114::L s),true)):=by
 obtain⟨l,h1,h2,h3,h4⟩:=zY s hs;refine⟨l,h2,h3,h4,?_⟩;unfold Dz;rw[Ba,cF,h1];simp only[Aa];obtain⟨b,q1,q2⟩:=A4 (body:=λq:ByteArray×Int=>Fw l q.1 q.2) (λz i=>(z,i)) l.length (λi z=>L z=122::(l.take i).flatMap MZ/\(L z).length<=1+32*i) (λz=>L z=122::l.flatMap MZ/\(L z).length<=3000)
  (λz i hi hz=>by
   have hx:=Ab hi;have c:=h2 i _ hx;have a:=MB h2 i (by omega);rw[h3]at a;have d:=qX c (by omega);have et:(l.take<|i+1).flatMap MZ=(l.take i).flatMap MZ++MZ l[i]:=by grind [Ag]
   simp only[Fw,Da hi,Ap,hx,Aa];rw[ad1];refine .inl ?_
   rcases c with⟨k1,k2,k3,k4⟩|⟨k1,k2,k3,k4,k5⟩
   ·grind [E8,EG,K2,Ba,IntKind.wrap_u8,MZ]
   grind [BW,E8,EG,K2,IntKind.wrap_u8,MZ])
  (λz hz=>⟨z,by simp[CM,Fw],by grind,by omega⟩) (s:=bs [122]) ⟨by rw[CB];rfl,by rw[CB];simp⟩
 rw[q1];simp only[Aa];have hb:b=bs (122::l.flatMap MZ):=Jb<|by rw[q2.1,CB]
 cases decide (ad ((L s).length:Int) 1<=FU b)with
 |false=>grind
 |true=>
  right;rw[E8 _ _<|by grind [CB]];rfl
theorem Vd (t:ByteArray) (ht:(L t).length<=10000):∀(l:List AH) (a:Nat) (c:List AH),(∀x∈l,∃o:List UInt8,okT o x/\o.length<=64)->(L t).drop a=l.flatMap MZ->a<=(L t).length->c.length<=a->Ai (λq:List AH×Int=>BG t q.1 q.2) (c,(a:Int))=some (.inl (c++l))
 |[],a,c,hl,h,ha,ho=>by
  have:(L t).length=a:=by simp_all;grind
  grind [Au,Ba,BG]
 |x::l,a,c,hl,h,ha,ho=>by
  obtain⟨o,k,p⟩:=hl x (by simp);rw[List.flatMap_cons]at h;have d:=BM List.length h;rw[Oz,A3]at d
  rcases k with⟨k1,k2,k3,k4⟩|⟨k1,k2,k3,k4,k5⟩
  ·have he:MZ x=UInt8.ofNat (L x.Text).length::L x.Text:=by grind [MZ]
   rw[he]at h d;rw[AD]at d;have f:a<(L t).length:=by omega
   have e:=A6 f;rw[h,BX]at e
   injection e with hx hd
   have j:(((L t)[a]).toNat:Int)=((L x.Text).length:Int):=by grind [FV]
   have n:sub t ((a+1:Nat):Int) ((a+1+(L x.Text).length:Nat):Int)=some x.Text:=by
    rw[EU t (by omega)<|by omega]
    grind [Jb,Jc,List.take_left']
   have hb:BG t c (a:Int)=some (.inl (c++ [AH.mk 0 0 x.Text],((a+1+(L x.Text).length:Nat):Int))):=by grind [Ba,DT,MV,BW,AN,BG]
   have i:AH.mk 0 0 x.Text=x:=by
    cases x with
    |mk b z u=>grind
   rw[i]at hb;rw[Au];simp only[hb];have:=Vd t ht l (a+1+(L x.Text).length) (c++ [x]) (λy hy=>hl y<|by simp[hy]) (by rw[<-DG,<-hd,IE rfl]) (by omega) (by simp;omega)
   grind
  have he:MZ x=[UInt8.ofNat (128+x.Size).toNat,UInt8.ofNat x.Back.toNat]:=by unfold MZ;grind
  rw[he]at h d;simp only[AD,LC]at d;have f:a<(L t).length:=by omega
  have e:=A6 f;rw[h]at e;simp only[BX,Av]at e
  injection e with hx hd
  have g:=A6 (show a+1<(L t).length by omega);rw[<-hd]at g
  injection g with hx2 hd2
  have j:(((L t)[a]).toNat:Int)=128+x.Size:=by grind [FV]
  have m:(((L t)[a+1]'(by omega)).toNat:Int)=x.Back:=by grind [FV]
  have hb:BG t c (a:Int)=some (.inl (c++ [AH.mk x.Back x.Size<|bs []],((a+2:Nat):Int))):=by
   simp only[BG];rw[Ba,cT,DT t f,Aa,j,MV (by omega) (by omega),cT,BW (b:=2) (by omega) (by omega),cF,ad1,DT t (by omega),Aa,m,MV (by omega) (by omega),BD,AN (by simp;omega),Aa,show 128+x.Size-128=x.Size by omega];rfl
  have i:AH.mk x.Back x.Size (bs [])=x:=by
   cases x with
   |mk b z u=>grind [Jb,CB]
  rw[i]at hb;rw[Au];simp only[hb];have:=Vd t ht l (a+2) (c++ [x]) (λy hy=>hl y<|by simp[hy]) (by grind) (by omega) (by simp;omega)
  grind
def Ib (l:List UInt8):List Int:=l.map λc=>(c.toNat:Int)
theorem tH (l:List UInt8):L (DU (Ib l))=l:=by
 rw[K2,Ib,GN];have:((λn:Int=>UInt8.ofNat n.toNat)∘λc:UInt8=>(c.toNat:Int))=id:=by
  funext c;simp
 rw[this,Ts]
theorem vP (b:ByteArray):vQ b=Ib (L b):=rfl
theorem Yh (x:AH) (b:1<=x.Back) (hs:0<=x.Size/\x.Size<=31):∀(n k:Nat) (a:List UInt8),(k:Int)+n=x.Size->x.Back<=(a.length:Int)->a.length+n<=1000->Ai (λq:List Int×Int=>D3 x q.1 q.2) (Ib a,(k:Int))=some (Ib (W0 n x.Back.toNat a))
 |0,k,a,hk,c,ho=>by
  rw[Au];have hb:D3 x (Ib a) (k:Int)=some (.inr (Ib a)):=by grind [D3]
  simp only[hb];rfl
 |n+1,k,a,hk,c,ho=>by
  have d:ln (Ib a)=(a.length:Int):=by rw[AY,Ib,Bm]
  have e:gi (Ib a) ((a.length:Int)-x.Back)=some (((a[a.length-x.Back.toNat]?).getD 0).toNat:Int):=by grind [Ap,Ib]
  have hb:D3 x (Ib a) (k:Int)=some (.inl (Ib<|a++ [(a[a.length-x.Back.toNat]?).getD 0],((k+1:Nat):Int))):=by grind [BD,AN,ad1,D3,Ib]
  rw[Au];simp only[hb];rw[W0];exact Yh x b hs n (k+1) _ (by omega) (by simp;omega) (by simp;omega)
theorem nG (l:List AH) (hl:l.length<=64) (a:wX l) (h64:(E4 l).length<=64):Ai (λq:List Int×Int=>DX l q.1 q.2) ([],0)=some (.inl (Ib (E4 l))):=by
 obtain⟨b,h1,h2⟩:=A4 (body:=λq:List Int×Int=>DX l q.1 q.2) (λ(o:List UInt8) i=>(Ib o,i)) l.length (λi o=>o=E4 (l.take i)) (λb=>b= .inl (Ib<|E4 l))
  (λo i hi ho=>by
   have hx:=Ab hi;have hk:=a i _ hx;have hm:=MB a i (by omega);have c:=MB a (i+1) (by omega);have et:E4 (l.take<|i+1)=YZ o l[i]:=by grind [Ag,NZ]
   rw[<-ho]at hk hm;rw[et]at c
   have d:∀q:List UInt8,ln (Ib q)=(q.length:Int):=λq=>by rw[AY,Ib,Bm]
   simp only[DX,Da hi,Ap,hx,Aa];refine .inl ⟨YZ o l[i],?_,et.symm⟩
   rcases hk with⟨k1,k2,k3,k4⟩|⟨k1,k2,k3,k4,k5⟩
   ·rw[show(l[i].Back==0)=true by simpa using k1,Al,Ba,CU,Ac<|by omega]
    grind [vP,ad1,ap,Ib,YZ]
   rw[show(l[i].Back==0)=false by simp;omega,Ad,d,CU,Ac<|by omega];rw[CU,Ac<|by omega];simp only[Aa,Aj,Ad];have e:seq l[i].Text (bs [])=true:=by grind [Jo,Jb,CB]
   grind [Yh,ad1,YZ])
  (λo ho=>⟨.inl<|Ib o,by simp[CM,DX],by grind⟩) (s:=[]) rfl
 rw[<-h2];exact h1
theorem Zs (s:ByteArray) (hs:(L s).length<=64):∃z,Dz s=some (z,true)/\Gb z=some (s,true)/\1<=(L z).length:=by
 obtain⟨l,h1,h2,h3,h4⟩:=ACO s hs;have fin:∀z:ByteArray,Dz s=some (z,true)->((Dz s).bind λv3=>(cond (!v3.2) (some true) (some<|!(seq v3.1 z)):Option Bool).bind λj2=>cond j2 (some (bs [],false))<|some (s,true))=some (s,true):=by grind [seq]
 rcases h4 with h4|h4
 ·refine⟨_,h4,?_,by rw[CB];simp⟩;have hf:=fin _ h4;generalize hz:bs (122::l.flatMap MZ)=z at h4 hf;have hL:L z=122::l.flatMap MZ:=by rw[<-hz,CB]
  have f:(L z).length<=3000:=by
   have:∀m:List AH,(∀x∈m,∃o:List UInt8,okT o x/\o.length<=64)->(m.flatMap MZ).length<=32*m.length:=by
    intro m
    induction m with
    |nil=>intro _;simp
    |cons x m ih=>
     intro hm;obtain⟨o,g,h⟩:=hm x<|by simp
     grind [qX]
   have:=this l (λx hx=>by
    obtain⟨i,hi,rfl⟩:=Aw hx;have hm:=MB h1 i (by omega);rw[h2]at hm
    exact⟨_,h1 i _<|Ab hi,by omega⟩)
   grind
  unfold Gb;have a:1<=(L z).length:=by rw[hL];simp
  rw[Ba,show(((L z).length:Int)==0)=false by grind,Ad];have b:sub z 1 ((L z).length:Int)=some (bs<|l.flatMap MZ):=by
   rw[show(1:Int)=((1:Nat):Int)from rfl,EU z a<|Ax _]
   grind [Jb,Jc,CB]
  have c:sx z 0=some 122:=by
   rw[show(0:Int)=((0:Nat):Int)from rfl,DT z (i:=0) a];simp_all
  rw[b,c];simp only[Aa];rw[show((122:Int)==122)=true from rfl];have d:(L<|bs<|l.flatMap MZ).length<=10000:=by rw[CB];grind
  have e:=Vd (bs<|l.flatMap MZ) d l 0 [] (λx hx=>by
    obtain⟨i,hi,rfl⟩:=Aw hx;have hm:=MB h1 i (by omega);rw[h2]at hm
    exact⟨_,h1 i _<|Ab hi,by omega⟩) (by rw[CB];rfl) (by omega)<|by simp
  rw[show((0:Nat):Int)=0 from rfl,Av]at e
  grind [nG,Jb,tH,Nj,G7]
 refine⟨_,h4,?_,by rw[CB];simp⟩;have hf:=fin _ h4;generalize hz:bs (114::L s)=z at h4 hf;have hL:L z=114::L s:=by rw[<-hz,CB]
 unfold Gb;have a:1<=(L z).length:=by rw[hL];simp
 rw[Ba,show(((L z).length:Int)==0)=false by grind,Ad];have b:sub z 1 ((L z).length:Int)=some s:=by
  rw[show(1:Int)=((1:Nat):Int)from rfl,EU z a<|Ax _]
  grind [Jb,Jc]
 have c:sx z 0=some 114:=by
  rw[show(0:Int)=((0:Nat):Int)from rfl,DT z (i:=0) a];simp_all
 grind
theorem zM (a b:List ByteArray):NG (a++b)=NG a++NG b:=by unfold NG;grind
def Bz (seq tx:Int) (T:List ByteArray):List Page:=T.mapIdx λi t=>Page.mk 2 (seq+i) tx i T.length t
theorem uF (a:List BV) (hr:a.length<=1048576) (d:∀r∈a,EC r=true):∃T:List ByteArray,Ai (λs:List ByteArray×Int=>DV a s.1 s.2) ([bs []],0)=some (.inl T)/\1<=T.length/\T.length<=max 1 a.length/\NG T=IP a/\∀t∈T,(L t).length<=90:=by
 obtain⟨b,h1,T,h2,h3⟩:=A4 (body:=λs:List ByteArray×Int=>DV a s.1 s.2) (λ(o:List ByteArray) i=>(o,i)) a.length
  (λi T=>1<=T.length/\(T.length<=max 1 i/\(i=0->T=[bs []]))/\NG T=IP (a.take i)/\∀t∈T,(L t).length<=90)
  (λb=>∃T:List ByteArray,b= .inl T/\1<=T.length/\T.length<=max 1 a.length/\NG T=IP a/\∀t∈T,(L t).length<=90)
  (λT i hi hT=>by
   obtain⟨g,⟨h,q⟩,j,k⟩:=hT;have hx:=Ab hi;obtain⟨t,t1,t2⟩:=eP<|d _<|Aq hi;have l:=wE<|d _<|Aq hi;rw[<-t2]at l;have et:IP (a.take<|i+1)=IP (a.take i)++L t:=by grind [Ag,IP]
   rcases Ga T with e|⟨T0,c,e⟩
   ·grind
   rw[Jh]at e;subst e;have u:ln (T0++ [c])=((T0.length+1:Nat):Int):=by rw[AY];simp
   rw[A3,Cl]at g h;have m:sb (ln<|T0++ [c]) 1=(T0.length:Int):=by grind [BD]
   have n:gi (T0++ [c]) (T0.length:Int)=some c:=Eh _ _;have p:=k c (by simp);rw[zM]at j;simp only[DV,Da hi,Ap,hx,Aa];rw[t1];rw[m,n];simp only[Aa];rw[Ba,Ba,BW,ad1];refine .inl ?_;by_cases f:((L c).length:Int)+((L t).length:Int)>90
   ·have v:i≠0:=λe=>by grind [CB]
    grind [AN,NG]
   rw[Ah f,Ad,E8 _ _<|by omega];simp only[Aa];rw[II];refine⟨T0++ [c++t],rfl,by simp,⟨by simp;omega,by omega⟩,?_,λx w=>?_⟩
   ·grind [EG,NG]
   grind [EG])
  (λT hT=>⟨_,by simp[CM,DV],T,rfl,hT.1,hT.2.1.1,by grind,hT.2.2.2⟩) (s:=[bs []]) ⟨by simp,⟨by simp,λ_=>rfl⟩,by rfl,λt ht=>by grind [CB]⟩
 grind
theorem dT (seq tx:Int) (a:List BV) (hr:a.length<=1000) (c:∀r∈a,EC r=true):∃T:List ByteArray,1<=T.length/\NG T=IP a/\(∀t∈T,(L t).length<=90)/\T.length<=max 1 a.length/\
  ((IL seq tx a=some (Bz seq tx T,true)/\T.length<=9/\1<=seq/\seq+T.length-1<=1000000000/\1<=tx/\tx<=1000000000)\/(IL seq tx a=some ([],false)/\¬(T.length<=9/\1<=seq/\seq+T.length-1<=1000000000/\1<=tx/\tx<=1000000000))):=by
 obtain⟨T,h1,h2,h2',h3,h4⟩:=uF a (by omega) c;refine⟨T,h2,h3,h4,h2',?_⟩;unfold IL;rw[h1];simp only[Aa,CX];rw[AY];by_cases h9:(T.length:Int)>9
 ·grind
 rw[Ah h9];rw[BD,BW,CU,CU];simp only[Aa];by_cases hs:1<=seq/\seq<=1000000000-(T.length:Int)+1
 ·rw[Ac hs];by_cases ht:1<=tx/\tx<=1000000000
  ·left;obtain⟨b,q1,q2⟩:=A4 (body:=λs:List Page×Int=>Gc seq tx T s.1 s.2) (λ(o:List Page) i=>(o,i)) T.length (λi o=>o=(Bz seq tx T).take i) (λb=>b=Bz seq tx T)
    (λo i hi ho=>by grind [Ap,BW,AY,AN,Dg,Gc,Bz])
    (λo ho=>⟨o,by simp[CM,Gc],by grind [AF,Bz]⟩) (s:=[]) rfl
   grind
  grind
 grind
def Steps:Flash->List A8->Flash->Prop
 |f,[],g=>g=f
 |f,s::ss,g=>O9 f s/\Steps (JZ f s) ss g
theorem HO:∀(f:Flash) (a b:List A8) (g:Flash),Steps f (a++b) g↔∃m,Steps f a m/\Steps m b g
 |f,[],b,g=>⟨λh=>⟨f,rfl,h⟩,λ⟨m,h1,h2⟩=>by rw[h1]at h2;exact h2⟩
 |f,s::a,b,g=>by
  rw[BX];simp only[Steps,HO]
  grind
theorem Sd:∀{f:Flash} {a:List A8} {g:Flash},AM f->Steps f a g->AM g
 |f,[],g,hf,h=>by rw[h];exact hf
 |f,s::a,g,hf,h=>Sd (qB hf h.1) h.2
theorem pF {a:List A8} {m:Flash} {s:A8} (h:Steps f a m) (hs:O9 m s):Steps f (a++ [s]) (JZ m s):=(HO f a [s] _).2 ⟨m,h,hs,rfl⟩
theorem Lc {a:List A8} (hf:AM f) (h:Steps f a g) (ha:a.length<=1048576):IM f a=some (g,(a.length:Int)):=by
 unfold IM;rw[BZ f hf.cap];simp only[Aa];obtain⟨b,h1,h2⟩:=A4 (body:=λs:Int×List Block=>D4 a s.1 s.2) (λ(o:List Block) i=>(i,o)) a.length (λi o=>Steps f (a.take i) (Flash.mk o)/\Steps (Flash.mk o) (a.drop i) g) (λb=>b= .inl g.Blocks)
  (λo i hi hs=>by
   have hx:=Ab hi;obtain⟨s1,s2⟩:=hs;rw[A6 hi]at s2;simp only[D4,Da hi,Ap,hx,Aa];have hP:=Sd hf s1
   rcases M4 hP a[i]with⟨k1,k2⟩|⟨k1,k2⟩
   ·rw[k2];rw[ad1];refine .inl ⟨(JZ (Flash.mk o) a[i]).Blocks,rfl,?_,s2.2⟩;rw[Ag hi];exact pF s1 k1
   exact absurd s2.1 k1)
  (λo hs=>⟨.inl o,by simp[CM,D4],by
   have:=hs.2;rw[List.drop_length]at this
   rw[show g=Flash.mk o from this]⟩) (s:=f.Blocks) ⟨rfl,h⟩
 rw[h1,h2];rfl
def Fu:Flash->List A8->List Page->Flash->Prop
 |f,[],[],g=>g=f
 |f,s::ss,p::ps,g=>s.Kind=1/\ZS f s.Block s.Leaf s.Text/\Fv s.Text=some (p,true)/\Fu (JZ f s) ss ps g
 |_,_,_,_=>False
theorem DD:∀{f:Flash} {ss:List A8} {ps:List Page} {g:Flash},Fu f ss ps g->Steps f ss g/\ss.length=ps.length
 |f,[],[],g,h=>⟨h,rfl⟩
 |f,s::ss,p::ps,g,h=>⟨⟨.inl ⟨h.1,h.2.1⟩,(DD h.2.2.2).1⟩,by rw[AD,AD,(DD h.2.2.2).2]⟩
 |f,[],p::ps,g,h=>h.elim
 |f,s::ss,[],g,h=>h.elim
theorem Tn:∀{f:Flash} {ss:List A8} {ps:List Page} {g:Flash} {b l:Int} {t:ByteArray} {p:Page},Fu f ss ps g->ZS g b l t->Fv t=some (p,true)->Fu f (ss++ [A8.mk 1 b l t]) (ps++ [p]) (Qg g b l (Leaf.mk 1 t))
 |f,[],[],g,b,l,t,p,h,h1,h2=>by
  have:g=f:=h;subst this;exact⟨rfl,h1,h2,by unfold JZ;rfl⟩
 |f,s::ss,q::ps,g,b,l,t,p,h,h1,h2=>⟨h.1,h.2.1,h.2.2.1,Tn h.2.2.2 h1 h2⟩
 |f,[],q::ps,g,b,l,t,p,h,h1,h2=>h.elim
 |f,s::ss,[],g,b,l,t,p,h,h1,h2=>h.elim
def BS (ss:List A8) (ps:List Page):List Ak:=List.zipWith (λs p=>Ak.mk s.Block s.Leaf p) ss ps
def Gl:Int->List Page->Prop
 |_,[]=>True
 |n,p::ps=>n<=p.Seq/\Gl (p.Seq+1) ps
theorem Z0:∀{f:Flash} {ss:List A8} {ps:List Page} {g:Flash} {r:List Ak} {n:Int},AM f->SR (J5 0 f.Blocks) r->Fu f ss ps g->(∀y∈r,y.Page.Seq<n)->Gl n ps->SR (J5 0 g.Blocks) (r++BS ss ps)
 |f,[],[],g,r,n,hf,a,h,hn,ha=>by
  have:g=f:=h;simp_all [BS]
 |f,s::ss,p::ps,g,r,n,hf,a,h,hn,ha=>by
  obtain⟨h1,h2,h3,h4⟩:=h;obtain⟨k1,_,A,B,k2,k3,_⟩:=Kp hf h2;have c:JZ f s=Qg f s.Block s.Leaf (Leaf.mk 1 s.Text):=by grind [JZ]
  rw[c]at h4;have b:SR (J5 0 (Qg f s.Block s.Leaf<|Leaf.mk 1 s.Text).Blocks) (r++ [Ak.mk s.Block s.Leaf p]):=by
   rw[k3 p<|jE h3]
   refine SR.add (by grind) λx hx=>?_
   have:=hn x hx;have:=ha.1;show x.Page.Seq<p.Seq;omega
  have:=Z0 k1 b h4 (n:=p.Seq+1) (λy hy=>by
   rw[Ay,Bn]at hy
   rcases hy with hy|rfl
   ·have:=hn y hy;have:=ha.1;omega
   grind) ha.2
  rw[Bx]at this;exact this
 |f,[],q::ps,g,r,n,hf,a,h,hn,ha=>h.elim
 |f,s::ss,[],g,r,n,hf,a,h,hn,ha=>h.elim
theorem Tm:∀{f:Flash} {ss:List A8} {ps:List Page} {g:Flash} (k:Nat),Fu f ss ps g->∃m,Fu f (ss.take k) (ps.take k) m
 |f,[],[],g,k,h=>⟨f,by simp[Fu]⟩
 |f,s::ss,p::ps,g,0,h=>⟨f,rfl⟩
 |f,s::ss,p::ps,g,k+1,h=>by
  obtain⟨m,hm⟩:=Tm k h.2.2.2;exact⟨m,h.1,h.2.1,h.2.2.1,hm⟩
 |f,[],q::ps,g,k,h=>h.elim
 |f,s::ss,[],g,k,h=>h.elim
theorem wL (hg:AM g) (h:Fu f ss ps g) (hs:ss.length<=1000) (p:Page):
  (∃s g',CA g ss p=some (g',ss++ [s],true)/\Fu f (ss++ [s]) (ps++ [p]) g'/\AM g'/\FX p/\SQ g s.Block s.Leaf)\/CA g ss p=some (g,ss,false):=by
 by_cases hp:FX p
 ·obtain⟨t,t1,t2,t3,t4⟩:=cG hp
  rcases SF hg ss (by omega) p t1 (λ_=>⟨t2,t3⟩)with⟨_,b,l,q1,_,q2⟩|q
  ·left;have hm:ZS g b l t:=by
    obtain⟨x,a1,a2,a3,a4⟩:=q1;exact⟨x,a1,a2,a3,a4,t2,t3⟩
   exact⟨_,_,q2,Tn h hm t4,(Kp hg hm).1,hp,q1⟩
  exact .inr q
 rcases SF hg ss (by omega) p (wO hp) (λhh=>by cases hh)with⟨hh,_⟩|q
 ·cases hh
 exact .inr q
theorem Yi (hf:AM f) (ps:List Page) (rt:Bool) (c:ps.length<=9) (a:List Page) (ss0:List A8) (g0:Flash) (ok0:Bool) (h0:ok0=true->Fu f ss0 a g0/\AM g0/\ss0.length<=1):
  ∃ss ok,Ai (λs:List A8×Bool×Int×List Block=>Bg (ps,rt) s.1 s.2.1 s.2.2.1 s.2.2.2) (ss0,ok0,0,g0.Blocks)=some (ss,ok)/\(ok=true->ok0=true/\∃g,Fu f ss (a++ps) g/\AM g/\∀p∈ps,FX p):=by
 obtain⟨b,h1,h2⟩:=A4 (body:=λs:List A8×Bool×Int×List Block=>Bg (ps,rt) s.1 s.2.1 s.2.2.1 s.2.2.2) (λ(o:List A8×Bool×List Block) i=>(o.1,o.2.1,i,o.2.2)) ps.length
  (λi o=>o.2.1=true->ok0=true/\Fu f o.1 (a++ps.take i) (Flash.mk o.2.2)/\AM (Flash.mk o.2.2)/\o.1.length<=i+1/\∀p∈ps.take i,FX p)
  (λb=>b.2=true->ok0=true/\∃g,Fu f b.1 (a++ps) g/\AM g/\∀p∈ps,FX p)
  (λo i hi hs=>by
   obtain⟨ss,ok,bl⟩:=o;have hx:=Ab hi;simp only[Bg,GR,Ac hi,Al,Aa]
   cases ok with
   |false=>grind
   |true=>
    obtain⟨k0,k1,k2,k3,k4⟩:=hs rfl;simp only[Al,Ap,hx,Aa];refine .inl ?_
    rcases wL k2 k1 (by omega) ps[i]with⟨s,g',q1,q2,q3,q4,_⟩|q
    ·rw[q1];rw[ad1];refine⟨(ss++ [s],true,g'.Blocks),rfl,λ_=>⟨k0,?_,q3,by simp;omega,λp hp=>?_⟩⟩
     ·simp_all
     grind [Ag]
    rw[q];rw[ad1]
    simp)
  (λo hs=>⟨(o.1,o.2.1),by grind [GR,Bg],λhh=>by grind⟩) (s:=(ss0,ok0,g0.Blocks)) (λhh=>by simp_all)
 grind
def BY (d:Device) (c:Int) (a:ByteArray):List Page:=if L a=[]then []else [Page.mk 1 d.Seq c 0 1 a]
def EY (d:Device) (a:ByteArray):Int:=if L a=[]then d.Seq else d.Seq+1
theorem UN (hf:AM d.Flash) (j:0<=d.Seq/\d.Seq<=1000000001) (b:List BV) (h:b≠ []) (hr:b.length<=1000) (i:∀r∈b,EC r=true) (a:ByteArray):
  Ck d b a=some ([],false)\/∃steps T g c,b[b.length-1]?=some c/\Ck d b a=some (steps,true)/\1<=T.length/\T.length<=9/\NG T=IP b/\(∀t∈T,(L t).length<=90)/\
   Fu d.Flash steps (BY d c.Chunk a++Bz (EY d a) d.Tx T) g/\AM g/\(∀p∈BY d c.Chunk a++Bz (EY d a) d.Tx T,FX p)/\T.length<=max 1 b.length:=by
 have k:0<b.length:=H9.2 h;obtain⟨c,e⟩:∃c,b[b.length-1]?=some c:=⟨_,Ab<|by omega⟩;unfold Ck;rw[show(ln b==0)=false by grind [AY]];have first:∃ss0 g0 ok0,(cond (!(seq a<|bs [])) (((gi b<|sb (ln b) 1).bind λx1=>(CA d.Flash []<|Page.mk 1 d.Seq x1.Chunk 0 1 a).bind λv1=>some (v1.2.1,v1.2.2,v1.1.Blocks):Option (List A8×Bool×List Block)).bind λj2=>some (j2.1,ad d.Seq 1,j2.2.1,j2.2.2)) (some ([],d.Seq,true,d.Flash.Blocks)):Option (List A8×Int×Bool×List Block))=some (ss0,EY d a,ok0,Flash.Blocks g0)/\(ok0=true->Fu d.Flash ss0 (BY d c.Chunk a) g0/\AM g0/\ss0.length<=1/\∀p∈BY d c.Chunk a,FX p):=by
  by_cases ht:L a=[]
  ·have:seq a (bs [])=true:=by grind [Jo,Jb,CB]
   rw[this];refine⟨[],d.Flash,true,?_,λ_=>⟨?_,hf,by simp,?_⟩⟩
   ·grind [EY]
   ·unfold BY;rw[Bv ht];rfl
   unfold BY;grind
  have:seq a (bs [])=false:=by grind [Jo,CB]
  rw[this];rw[AY,BD,show(b.length:Int)-1=((b.length-1:Nat):Int) by omega,Ap,e,Aa,BW];have e1:EY d a=d.Seq+1:=by grind [EY]
  have e2:BY d c.Chunk a=[Page.mk 1 d.Seq c.Chunk 0 1 a]:=by grind [BY]
  rw[e1,e2]
  rcases wL (f:=d.Flash) (ss:=[]) (ps:=[]) hf rfl (by simp) (Page.mk 1 d.Seq c.Chunk 0 1 a)with⟨s,g',q1,q2,q3,q4,_⟩|q
  ·rw[q1];refine⟨_,g',true,rfl,λ_=>⟨q2,q3,by simp,λp hp=>?_⟩⟩
   grind
  rw[q];exact⟨_,d.Flash,false,rfl,λhh=>by cases hh⟩
 obtain⟨ss0,g0,ok0,e0,h0⟩:=first
 rw[e0];simp only[Aa];obtain⟨T,t1,t2,t3,tm,t4⟩:=dT (EY d a) d.Tx b hr i
 rcases t4 with⟨t4,t5,t6,t7,t8,t9⟩|⟨t4,_⟩
 ·rw[t4];simp only[Aa];obtain⟨ss,ok,q1,q2⟩:=Yi hf (Bz (EY d a) d.Tx T) true (by unfold Bz;grind) (BY d c.Chunk a) ss0 g0 ok0 λhh=>⟨(h0 hh).1,(h0 hh).2.1,(h0 hh).2.2.1⟩;rw[q1];simp only[Aa]
  grind
 rw[t4];obtain⟨ss,ok,q1,q2⟩:=Yi hf [] false (by simp) (BY d c.Chunk a) ss0 g0 ok0 λhh=>⟨(h0 hh).1,(h0 hh).2.1,(h0 hh).2.2.1⟩
 grind
theorem PN (hf:AM d.Flash) (q:0<=d.Seq/\d.Seq<=1000000001) (h:List BV) (u:h≠ []) (hr:h.length<=1000) (v:∀r∈h,EC r=true) (i:ByteArray):
  Ck d h i=some ([],false)\/∃steps T g j,h[h.length-1]?=some j/\Ck d h i=some (steps,true)/\1<=T.length/\T.length<=9/\NG T=IP h/\(∀t∈T,(L t).length<=90)/\
   Fu d.Flash steps (BY d j.Chunk i++Bz (EY d i) d.Tx T) g/\AM g/\∀p∈BY d j.Chunk i++Bz (EY d i) d.Tx T,FX p:=
 (UN hf q h u hr v i).imp id λ⟨s,T,g,l,a,b,c,e,f,k,m,n,o,_⟩=>⟨s,T,g,l,a,b,c,e,f,k,m,n,o⟩
def JS (r:List Ak) (c:Int):Option Ak:=(r.filter<|HT c).getLast?
noncomputable def X6 (t:ByteArray):Option ByteArray:=match Gb t with
 |some (s,true)=>some s
 |_=>none
noncomputable def Bj (r:List Ak) (c:Int):Option ByteArray:=(JS r c).bind λy=>X6 y.Page.Text
theorem Ut:HT c y=true↔y.Page.Kind=1/\y.Page.Tx=c:=by
 unfold HT
 grind
theorem Yr (h:JS r c=some y):y∈r/\y.Page.Kind=1/\y.Page.Tx=c:=by
 have:=List.mem_of_getLast? h
 grind [Ut]
theorem Ob (r:List Ak) (y:Ak) (c:Int):JS (r++ [y]) c=if y.Page.Kind=1/\y.Page.Tx=c then some y else JS r c:=by simp_all [Ut,JS];grind
theorem cL (r m:List Ak) (h:∀y∈m,y.Page.Kind≠1) (c:Int):JS (r++m) c=JS r c:=by grind [Ut,JS]
theorem YO {α:Type} {y:α} (l:List α) (p:α->Bool) (h:l.getLast? =some y) (hp:p y=true):(l.filter p).getLast? =some y:=by
 rcases Ga l with e|⟨m,x,e⟩
 ·grind
 grind
theorem jU (p:Ak->Bool) (h:JS r c=some y) (hp:p y=true):JS (r.filter p) c=some y:=by
 unfold JS at h⊢;rw[Dx];have:r.filter (λa=>HT c a&&p a)=(r.filter<|HT c).filter p:=by grind [Dx]
 grind [YO]
theorem Yp {o:Option Nat} (h:PY c r r.length o):JS r c=o.bind λj=>r[j]? :=by
 cases o with
 |none=>
  unfold JS;have:r.filter (HT c)=[]:=by
   rw[BE];intro y hy;obtain⟨j,hj,rfl⟩:=Aw hy;have:=h j r[j] hj<|Ab hj;rw[this];simp
  rw[this];rfl
 |some j=>
  obtain⟨h1,⟨y,h2,h3⟩,h4⟩:=h;unfold JS;obtain⟨e1,e2⟩:=I8 h2;have:(r.drop<|j+1).filter (HT c)=[]:=by
   rw[BE];intro z hz;obtain⟨k,hk,rfl⟩:=Aw hz;rw[Oz]at hk;rw[List.getElem_drop];have:=h4 (j+1+k) _ (by omega) (by omega) (Ab<|by omega);rw[this];simp
  grind
theorem m9 (hr:r.length<=1048576) (c:Int):∃y ok,Nh r c=some (y,ok)/\JS r c=(if ok=true then some y else none):=by
 obtain⟨o,h1,h2⟩:=cK r hr c;have h3:=Yp h2
 cases o with
 |none=>grind
 |some j=>
  obtain⟨_,⟨y,k1,_⟩,_⟩:=h2
  grind [JP]
theorem iY (hr:F7 r) (c:Int):∃u ok,Md r c=some (u,ok)/\Bj r c=(if ok=true then some u else none):=by
 obtain⟨y,ok,h1,h2⟩:=m9 hr.len c;unfold Md Bj;rw[h1,h2]
 cases ok with
 |false=>simp
 |true=>
  have hy:=(Yr (by rw[h2];rfl)).1;obtain⟨u,ok2,k1,_,_⟩:=S4 y.Page.Text (by have:=hr.text y hy;omega)
  grind [X6]
structure Iv (r:List Ak):Prop where
 pages:F7 r
 inc:r.Pairwise λx y=>x.Page.Seq<y.Page.Seq
 mu:mA r
def Cv (l:Vs) (c:Int):Prop:=0<c/\∃p∈l,c∈p.2
structure FT (r:List Ak) (P:Int->Prop):Prop where
 data:∀c,P c->∃s,Bj r c=some s
 dist:∀c c',P c->P c'->Bj r c=Bj r c'->c=c'
theorem FT.mono {Q:Int->Prop} (h:FT r P) (hq:∀c,Q c->P c):FT r Q:=⟨λc hc=>h.data c<|hq c hc,λc c' hc hc'=>h.dist c c' (hq c hc)<|hq c' hc'⟩
theorem FT.congr (h:FT r P) (he:∀c,P c->Bj r' c=Bj r c):FT r' P:=⟨λc hc=>by rw[he c hc];exact h.data c hc,λc c' hc hc' e=>h.dist c c' hc hc'<|by grind⟩
theorem FT.metas {m:List Ak} (h:FT r P) (hm:∀y∈m,y.Page.Kind≠1):FT (r++m) P:=h.congr λc _=>by grind [cL,Bj]
theorem mI (h:FT r P) (hy:¬P y.Page.Tx):FT (r++ [y]) P:=h.congr λc hc=>by grind [Ob,Bj]
theorem mJ (h:FT r P) (hy:X6 y.Page.Text=Bj r y.Page.Tx):FT (r++ [y]) P:=h.congr λc hc=>by grind [Ob,Bj]
theorem uL {s:ByteArray} (h:FT r P) (hk:y.Page.Kind=1) (hn:¬P y.Page.Tx) (ht:X6 y.Page.Text=some s) (hs:∀c,P c->Bj r c≠some s):FT (r++ [y]) (λc=>P c\/c=y.Page.Tx):=by
 have b:Bj (r++ [y]) y.Page.Tx=some s:=by grind [Ob,Bj]
 have a:∀c,P c->Bj (r++ [y]) c=Bj r c:=λc hc=>by grind [Ob,Bj]
 refine⟨λc hc=>?_,λc c' hc hc' e=>?_⟩
 ·rcases hc with hc|rfl
  ·rw[a c hc];exact h.data c hc
  grind
 rcases hc with hc|rfl<;>rcases hc' with hc'|rfl
 ·exact h.dist c c' hc hc'<|by grind
 ·grind
 ·grind
 rfl
theorem Iv.filter (h:Iv r) (p:Ak->Bool):Iv (r.filter p):=by
 refine⟨⟨by have:=B7 p r;have:=h.pages.len;omega,λy hy=>h.pages.text y (AI.1 hy).1,λy hy=>h.pages.seq y (AI.1 hy).1,λy hy=>h.pages.tx y (AI.1 hy).1,λy hy=>h.pages.cnt y (AI.1 hy).1,λy hy=>h.pages.part y (AI.1 hy).1⟩,h.inc.filter _,⟨λy hy z hz=>h.mu.uniq y (AI.1 hy).1 z (AI.1 hz).1⟩⟩
theorem Iv.add (h:Iv r) (hl:r.length<=1000000) (hb:FX y.Page) (hs:CZ r<=y.Page.Seq) (hm:y.Page.Kind=2->∀z∈r,z.Page.Kind=2->z.Page.Tx=y.Page.Tx->z.Page.Part≠y.Page.Part):Iv (r++ [y]):=by
 obtain⟨b1,b2,b3,b4,b5,b6,b7⟩:=hb
 have all:∀{P:Ak->Prop},(∀z∈r,P z)->P y->∀z∈r++ [y],P z:=λh1 h2 z hz=>by grind
 refine⟨⟨by simp;omega,all h.pages.text b6,all h.pages.seq b2,all h.pages.tx b3,all h.pages.cnt b4,all h.pages.part b5⟩,?_,⟨λu hu v hv k1 k2 e1 e2=>?_⟩⟩
 ·rw[AS];refine⟨h.inc,List.pairwise_singleton _ _,λu hu v hv=>?_⟩;rw[Bn]at hv;rw[hv];have:=(Lx r).1 u hu;omega
 rw[Ay,Bn]at hu hv
 rcases hu with hu|rfl<;>rcases hv with hv|rfl
 ·exact h.mu.uniq u hu v hv k1 k2 e1 e2
 ·grind
 ·grind
 rfl
theorem bQ (h:CZ r<=y.Page.Seq):CZ (r++ [y])=y.Page.Seq+1:=by rw[Xa,Bv h]
theorem Iv.metas {t:Int} (h:Iv r) (ht:∀y∈r,y.Page.Kind=2->y.Page.Tx<t):∀(m:List Ak) (k:Nat),r.length+m.length<=1000000->(∀(i:Nat) y,m[i]?=some y->y.Page.Kind=2/\y.Page.Tx=t/\y.Page.Part=i/\y.Page.Seq=CZ r+i/\FX y.Page)->k<=m.length->Iv (r++m.take k)/\CZ (r++m.take k)=CZ r+k
 |m,0,_,_,_=>by simpa using h
 |m,k+1,hl,hm,hk=>by
  obtain⟨ih1,ih2⟩:=Iv.metas h ht m k hl hm (by omega);have hx:m[k]?=some m[k]:=Ab (by omega);obtain⟨k1,k2,k3,k4,k5⟩:=hm k _ hx;rw[Ag (by omega),<-Bx];refine⟨Iv.add ih1 (by simp;omega) k5 (by grind) λ_ z hz a b=>?_,?_⟩
  ·grind [Aw]
  grind [bQ]
theorem qT (i:Int):∀(k:Int) (l:List Leaf),(Wf i k l).length<=l.length
 |_,[]=>Ax _
 |k,x::l=>by
  rw[Wf,A3,AD];have:=qT i (k+1) l
  grind [pg]
theorem qU:∀(i:Int) (l:List Block),(J5 i l).length<=nl l
 |_,[]=>Ax _
 |i,b::l=>by
  rw[J5,A3];have:=qU (i+1) l
  grind [qT,nl]
theorem ACL (hf:AM f) (h:SR (J5 0 f.Blocks) r):r.length<=40:=by
 have h1:=qU 0 f.Blocks;have h2:=hf.few;have h3:=h.2.len;omega
theorem ML:∀{ss:List A8} {ps:List Page} {i:Nat} {y:Ak},(BS ss ps)[i]?=some y->ps[i]?=some y.Page
 |[],_,i,y,h=>by simp[BS]at h
 |s::ss,[],i,y,h=>by simp[BS]at h
 |s::ss,p::ps,0,y,h=>by grind [BS]
 |s::ss,p::ps,i+1,y,h=>by grind [BS]
theorem YT (h:ss.length=ps.length):(BS ss ps).length=ps.length:=by unfold BS;grind
theorem Wt (ss:List A8) (ps:List Page) (k:Nat):BS (ss.take k) (ps.take k)=(BS ss ps).take k:=by unfold BS;grind
theorem lB:∀(T:List ByteArray),(∀t∈T,(L t).length<=90)->(NG T).length<=90*T.length
 |[],_=>by simp[NG]
 |t::T,h=>by
  have:=lB T λx hx=>h x<|by simp[hx]
  grind [NG]
theorem cN {r1 m:List Ak} (h:Iv r1) (hl:r1.length<=1000) {a:List BV} (c:1<=T.length) (d:T.length<=9) (e:∀t∈T,(L t).length<=90) (f:NG T=IP a) (g:∀r∈a,EC r=true) (hm:∀(i:Nat) y,m[i]?=some y->(Bz (CZ r1) (DQ r1) T)[i]?=some y.Page) (j:m.length=T.length) (l:∀p∈Bz (CZ r1) (DQ r1) T,FX p) (k:Nat) (hk:k<=T.length):
  Iv (r1++m.take k)/\(∀y∈m.take k,y.Page.Kind≠1)/\(k<T.length->AK (r1++m.take k)=AK r1)/\(k=T.length->∃q,AK (r1++m.take k)=AK r1++ [Tx.mk (DQ r1) q a]):=by
 have n:∀(i:Nat) y,m[i]?=some y->∃t,T[i]?=some t/\y.Page=Page.mk 2 (CZ r1+i) (DQ r1) i T.length t:=by grind [Bz]
 have b:=X7 r1;obtain⟨c1,_⟩:=Iv.metas h b.1 m k (by omega) (λi y hy=>by grind) (by omega);have hN:dX (m.take k) (DQ r1) T.length T:=by
  refine⟨by grind,⟨c,d⟩,rfl,λi y hy=>?_⟩
  grind
 obtain⟨g1,g2⟩:=oE r1 (λy hy=>(h.pages.tx y hy).1) b.1 b.2.1 hN;refine⟨c1,λy hy=>by rw[(hN.all hy).1];omega,λhh=>g1 (by grind),λhh=>g2 (by grind) a ?_⟩
 grind [nA,lB]
structure G5 (d:Device) (r:List Ak):Prop where
 dev:EE d r
 core:Iv r
 data:FT r (Cv (A5 d.Store))
theorem G5.few (h:G5 d r):r.length<=40:=ACL h.dev.fl h.dev.sr
theorem Ls (hg:AM g) (a:SR (J5 0 g.Blocks) r):∃d,Cc g=some (d,true)/\EE d r/\d.Flash=g:=by
 obtain⟨d,r',h1,h2,h3⟩:=TP hg;have:r'=r:=by
  have h4:=h2.sr;rw[h3]at h4;exact h4.uniq a
 grind
theorem S2 (seq tx:Int) (T:List ByteArray):Gl seq (Bz seq tx T):=by
 have a:∀(l:List ByteArray) (i:Nat) (n:Int),n<=seq+i->Gl n (l.mapIdx λj t=>Page.mk 2 (seq+(i+j:Nat)) tx (i+j:Nat) T.length t):=by
  intro l
  induction l with
  |nil=>intro i n _;trivial
  |cons x l ih=>
   intro i n hn;rw[List.mapIdx_cons];refine⟨by simpa using hn,?_⟩;have:=ih (i+1) (seq+(i:Int)+1)<|by omega
   grind
 have:=a T 0 seq<|by omega
 grind [Bz]
theorem oQ (c:Int) (a:ByteArray) (tx:Int) (T:List ByteArray):Gl d.Seq (BY d c a++Bz (EY d a) tx T):=by
 unfold BY EY;by_cases e:L a=[]
 ·grind [S2]
 rw[AT e,AT e];exact⟨GO _,S2 _ _ _⟩
theorem Lf (ss:List A8) (ps:List Page) (k:Nat):∀y∈(BS ss ps).take k,y.Page∈ps:=by
 intro y hy;obtain⟨i,hi,rfl⟩:=Aw<|List.mem_of_mem_take hy;exact An<|ML<|Ab hi
def DI (f:Flash) (n:Int):Prop:=∀b∈f.Blocks,b.Wear<=n
theorem d7 {l:List Block} {n:Int} {x:Block} (h:∀y∈l,y.Wear<=n) (hx:x.Wear<=n):∀y∈si l b x,y.Wear<=n:=by grind [si]
theorem bK {s:A8} {n m:Int} (h:DI f n) (hm:n<=m) (hs:s.Kind=1\/n+1<=m):DI (JZ f s) m:=by
 have h0:∀y∈f.Blocks,y.Wear<=m:=λy hy=>by have:=h y hy;omega
 unfold JZ Qg VT DI;by_cases e:s.Kind=1
 ·rw[Bv e]
  cases hg:gi f.Blocks s.Block with
  |none=>exact h0
  |some x=>exact d7 h0<|h0 x<|An (BK hg).2
 rw[AT e]
 cases hg:gi f.Blocks s.Block with
 |none=>exact h0
 |some x=>exact d7 h0 (by have:=h x<|An (BK hg).2;grind)
theorem Tl {n:Int}:∀{f:Flash} {ss:List A8} {ps:List Page} {g:Flash},Fu f ss ps g->DI f n->DI g n
 |f,[],[],g,h,hw=>by rw[show g=f from h];exact hw
 |f,s::ss,p::ps,g,h,hw=>Tl h.2.2.2 (bK hw (GO _) (.inl h.1))
 |f,[],q::ps,g,h,_=>h.elim
 |f,s::ss,[],g,h,_=>h.elim
theorem PP:∀{f:Flash} {ss:List A8} {ps:List Page} {g:Flash},Fu f ss ps g->∀s∈ss,s.Kind=1
 |f,[],[],g,h,s,hs=>by cases hs
 |f,s::ss,p::ps,g,h,x,hs=>by
  rcases DE.1 hs with rfl|hs
  ·exact h.1
  exact PP h.2.2.2 x hs
 |f,[],q::ps,g,h,_,_=>h.elim
 |f,s::ss,[],g,h,_,_=>h.elim
def Xz (f g:Flash):Prop:=∀n,DI f n->DI g n
theorem Va (h:G5 d r) {l:List BV} (x:∀r∈l,EC r=true) {a:ByteArray} {b:BV} {steps:List A8} (z:1<=T.length) (h0:T.length<=9) (h1:NG T=IP l) (v:∀t∈T,(L t).length<=90) (hp:Fu d.Flash steps (BY d b.Chunk a++Bz (EY d a) d.Tx T) g) (o:∀p∈BY d b.Chunk a++Bz (EY d a) d.Tx T,FX p) (a6:L a≠ []->¬Cv (A5 d.Store) b.Chunk) (k:Nat) (hk:k<=steps.length):
  ∃m d' r',Steps d.Flash (steps.take k) m/\AM m/\Cc m=some (d',true)/\EE d' r'/\d'.Flash=m/\r'=r++(BS steps (BY d b.Chunk a++Bz (EY d a) d.Tx T)).take k/\Xz d.Flash m/\Iv r'/\FT r' (Cv (A5 d.Store))/\
   (k<steps.length->AK r'=AK r)/\(k=steps.length->(∃q,AK r'=AK r++ [Tx.mk d.Tx q l])/\∀s,X6 a=some s->L a≠ []->(∀c,Cv (A5 d.Store) c->Bj r c≠some s)->FT r' (λc=>Cv (A5 d.Store) c\/c=b.Chunk)):=by
 obtain⟨a7,f⟩:=DD hp;obtain⟨m,hm⟩:=Tm k hp;obtain⟨h2,_⟩:=DD hm;have h3:=Sd h.dev.fl h2;have a5:=h.few
 have h4:∀y∈r,y.Page.Seq<d.Seq:=λy hy=>by rw[h.dev.seq];simp_all [Lx]
 have h5:=oQ (d:=d) b.Chunk a d.Tx T;have ascT:∀(ps:List Page) (n:Int) (k:Nat),Gl n ps->Gl n (ps.take k):=by
  intro ps
  induction ps with
  |nil=>grind
  |cons p ps ih=>
   intro n k ha
   cases k with
   |zero=>trivial
   |succ k=>exact⟨ha.1,ih _ k ha.2⟩
 have h6:=Z0 h.dev.fl h.dev.sr hm h4<|ascT _ _ k h5;rw[Wt]at h6;obtain⟨d',u1,u2,u3⟩:=Ls h3 h6;refine⟨m,d',r++(BS steps<|BY d b.Chunk a++Bz (EY d a) d.Tx T).take k,h2,h3,u1,u2,u3,rfl,λ_=>Tl hm,?_⟩;have w:(Bz (EY d a) d.Tx T).length=T.length:=by unfold Bz;grind
 have u:=YT f;by_cases e:L a=[]
 ·
  have e1:BY d b.Chunk a=[]:=by grind [BY]
  have e2:EY d a=d.Seq:=by grind [EY]
  rw[e1,e2,Av]at u f o⊢;rw[e2]at w;rw[h.dev.seq,h.dev.tx]at u f o w⊢;obtain⟨a1,a2,a3,a4⟩:=cN h.core (by omega) z h0 v h1 x (m:=BS steps<|Bz (CZ r) (DQ r) T) (λi y hy=>ML hy) (by omega) o k (by omega);exact⟨a1,h.data.metas a2,λhh=>a3 (by omega),λhh=>⟨a4 (by omega),λs _ h7=>absurd e h7⟩⟩
 have e1:BY d b.Chunk a=[Page.mk 1 d.Seq b.Chunk 0 1 a]:=by grind [BY]
 have e2:EY d a=d.Seq+1:=by grind [EY]
 rw[e1,e2]at u f o⊢;rw[e2]at w;rw[Jg]at u f o⊢;rw[AD]at f u
 match hsteps:steps,f with
 |[],f=>simp at f
 |s0::ss,f=>
  have ef:BS (s0::ss) (Page.mk 1 d.Seq b.Chunk 0 1 a::Bz (d.Seq+1) d.Tx T)=Ak.mk s0.Block s0.Leaf (Page.mk 1 d.Seq b.Chunk 0 1 a)::BS ss (Bz (d.Seq+1) d.Tx T):=rfl;rw[ef]
  cases k with
  |zero=>
   rw[aP,AJ];exact⟨h.core,h.data,λ_=>rfl,λhh=>by simp at hh⟩
  |succ k=>
   rw[List.take_succ_cons];generalize h8:Ak.mk s0.Block s0.Leaf (Page.mk 1 d.Seq b.Chunk 0 1 a)=y0;have j:y0.Page=Page.mk 1 d.Seq b.Chunk 0 1 a:=by rw[<-h8]
   have c1:Iv (r++ [y0]):=Iv.add h.core (by omega) (by grind) (by rw[j,h.dev.seq];exact GO _) (λhh=>by grind);have g1:AK (r++ [y0])=AK r:=Ws r (by rw[j];simp);have s1:CZ (r++ [y0])=d.Seq+1:=by rw[bQ (by rw[j,h.dev.seq];exact GO _),j]
   have t1:DQ (r++ [y0])=d.Tx:=by rw[WY,AT (by rw[j];simp),h.dev.tx]
   have h9:(BS ss<|Bz (d.Seq+1) d.Tx T).length=T.length:=by grind
   rw[List.append_cons];obtain⟨a1,a2,a3,a4⟩:=cN c1 (by simp;omega) z h0 v h1 x (m:=BS ss<|Bz (d.Seq+1) d.Tx T) (by grind [ML]) h9 (by grind) k (by omega);have dz:FT (r++ [y0]) (Cv<|A5 d.Store):=mI h.data (by grind);rw[g1,t1]at a4;rw[g1]at a3;have a8:ss.length=T.length:=by simp at f;omega
   refine⟨a1,dz.metas a2,λhh=>a3 (by simp at hh;omega),λhh=>⟨a4 (by simp at hh;omega),λs hs _ a0=>?_⟩⟩;have:=uL h.data (y:=y0) (s:=s) (by rw[j]) (by grind) (by grind) a0;rw[j]at this;exact this.metas a2
theorem gN (h:BU s):PL s.Arena:=by unfold PL;have:=h.few;omega
theorem wZ (h:BU s) (x:Int):x∈NB s s.Vols.length↔∃p∈A5 s,x∈p.2:=by
 unfold NB A5;simp only[List.mem_flatten,A0]
 have a:∀v∈s.Vols,(J3 s.Arena v.Root).getD []=DF s.Arena.Knots v.Root:=λv hv=>by
  rw[M7 _ (by have:=h.few;omega) h.ar<|h.root _<|A0.2 ⟨v,hv,rfl⟩];rfl
 grind
theorem Fx (h:BU s):∃l,Fg s=some l/\asc l/\(∀x,x∈l↔Cv (A5 s) x)/\l.length<=16777216:=by
 have:=h.len;obtain⟨l,h1,h2,h3⟩:=Wb s (by omega)<|gN h;refine⟨l,h1,h2.1,λx=>?_,h3⟩;rw[h2.2 x,wZ h]
 grind [Cv]
theorem Uq (h:BU s) (hc:Cv (A5 s) c):0<c/\c<s.Next:=by
 obtain⟨h0,p,hp,hx⟩:=hc;unfold A5 at hp;obtain⟨v,hv,rfl⟩:=A0.1 hp;exact⟨h0,h.lt _ (A0.2 ⟨v,hv,rfl⟩) c hx⟩
def Ca (r:List Ak) (live:List Int) (a:Int):List Bool:=live.foldl (ZQ r)<|r.map<|CY a
theorem IQ (r:List Ak) (live:List Int) (a:Int):(Ca r live a).length=r.length:=by unfold Ca;rw[YU,Bm]
theorem Oc (r:List Ak) (live:List Int) (a:Int) (hy:r[j]?=some y):(Ca r live a)[j]?=some (CY a y||live.any (λc=>Qe c r r.length==some j)):=by grind [Yt,Ca]
theorem AAq (h:Qe c r r.length=some j):JS r c=r[j]? :=by
 rw[Yp<|NO c r r.length<|Ax _,h];rfl
theorem AAX (h:JS r c=some y):∃j,Qe c r r.length=some j/\r[j]?=some y:=by
 have:=Yp<|NO c r r.length<|Ax _;rw[h]at this
 cases ht:Qe c r r.length with
 |none=>grind
 |some j=>grind
theorem rZ {p:Nat->Bool} (h:cn n p=0):∀j,j<n->p j=false:=by grind [BE,cn]
theorem AAM {live:List Int} {a b:Int} (h:cn r.length (λj=>(Ca r live a)[j]?.getD false&&bk r b j)=0):∀y∈r,y.Block=b->(y.Page.Kind=2->y.Page.Tx<a)/\∀c∈live,JS r c≠some y:=by
 intro y hy hb;obtain⟨j,hj,rfl⟩:=Aw hy;have hx:=Ab hj;have h1:=rZ h j hj;rw[Oc r live a hx]at h1;have h2:bk r b j=true:=by unfold bk;grind
 rw[h2,Bool.and_true,Er,Bool.or_eq_false_iff]at h1;refine⟨λhk=>?_,λc hc hn=>?_⟩
 ·grind [CY]
 
 obtain⟨i,i1,i2⟩:=AAX hn
 grind [rZ,Oc,bk]
theorem XZ (h:EE d r):∃l,J1 d=some l/\l.length<=10/\∀b∈l,∃x,gi d.Flash.Blocks b=some x/\x.Bad=false/\∀y∈r,y.Block=b->(y.Page.Kind=2->y.Page.Tx<d.Base)/\∀c,Cv (A5 d.Store) c->JS r c≠some y:=by
 obtain⟨live,l1,l2,l3,l4⟩:=Fx h.st;have hn:=h.fl.n;unfold J1;rw[h.scan.s,l1];simp only[Aa];rw[LT r live d.Base h.scan.len l4];have e:live.foldl (ZQ r) (r.map<|CY d.Base)=Ca r live d.Base:=rfl;rw[e];obtain⟨b,q1,q2⟩:=A4 (body:=λs:List Int×Int=>DO d r (Ca r live d.Base) s.1 s.2) (λ(o:List Int) i=>(o,i)) d.Flash.Blocks.length
  (λi o=>o.length<=i/\∀b∈o,∃x,gi d.Flash.Blocks b=some x/\x.Bad=false/\∀y∈r,y.Block=b->(y.Page.Kind=2->y.Page.Tx<d.Base)/\∀c,Cv (A5 d.Store) c->JS r c≠some y)
  (λo=>o.length<=10/\∀b∈o,∃x,gi d.Flash.Blocks b=some x/\x.Bad=false/\∀y∈r,y.Block=b->(y.Page.Kind=2->y.Page.Tx<d.Base)/\∀c,Cv (A5 d.Store) c->JS r c≠some y)
  (λo i hi ho=>by
   have hx:=Ab hi;have hP:=h.fl.blk _<|Aq hi;obtain⟨nbl,_,bl⟩:=lF d.Flash.Blocks[i] (by rw[hP.four];omega);simp only[DO,Da hi,Ap,hx,Aa];rw[bl,Yk r _ (i:Int) h.scan.len<|IQ _ _ _,ad1];simp only[Aa];refine .inl ?_
   cases a:d.Flash.Blocks[i].Bad with
   |true=>grind
   |false=>
    simp only[BQ,Al]
    cases g:(!(!decide (nbl<ln d.Flash.Blocks[i].Leaves)))with
    |false=>grind
    |true=>
     cases hz:((((cn r.length (λj=>(Ca r live d.Base)[j]?.getD false&&bk r (i:Int) j):Nat)):Int)==0)with
     |false=>grind
     |true=>
      rw[AN (by simp;omega)];refine⟨_,rfl,by simp;omega,λb hb=>?_⟩;rw[Ay,Bn]at hb
      rcases hb with hb|rfl
      ·exact ho.2 b hb
      refine⟨_,by grind [Ap],a,λy hy f=>?_⟩;have hz':cn r.length (λj=>(Ca r live d.Base)[j]?.getD false&&bk r (i:Int) j)=0:=by grind
      obtain⟨a1,a2⟩:=AAM hz' y hy f
      grind)
  (λo ho=>⟨o,by simp[CM,DO],by omega,ho.2⟩) (s:=[]) ⟨by simp,λb hb=>by cases hb⟩
 grind
theorem GY (h:EE d r) (h':EE d' r') (e:Cm (AK r')=Cm (AK r)):A5 d'.Store=A5 d.Store/\d'.Store.Next=d.Store.Next/\d'.Base=d.Base:=by
 have h1:=h'.ab;rw[e,<-h.ab]at h1
 injection h1 with h1 h2
 exact⟨h1,h2,by rw[h'.base,h.base,e]⟩
theorem AAl (h:G5 d r) (hb:∀y∈r,y.Block=b->(y.Page.Kind=2->y.Page.Tx<d.Base)/\∀c,Cv (A5 d.Store) c->JS r c≠some y) (hg:AM g) (hp:J5 0 g.Blocks=(J5 0 d.Flash.Blocks).filter λy=>y.Block !=b):
  ∃d',Cc g=some (d',true)/\d'.Flash=g/\G5 d' (r.filter λy=>y.Block !=b)/\A5 d'.Store=A5 d.Store/\d'.Store.Next=d.Store.Next/\d'.Base=d.Base/\∀c,Cv (A5 d.Store) c->Bj (r.filter λy=>y.Block !=b) c=Bj r c:=by
 have a:SR (J5 0 g.Blocks) (r.filter λy=>y.Block !=b):=by rw[hp];exact h.dev.sr.filter _
 obtain⟨d',u1,u2,u3⟩:=Ls hg a
 have hs:=eC r h.core.pages h.core.mu (λy=>y.Block !=b) (λy hy hk ht=>by
  have:y.Block≠b:=λe=>by
   have:=(hb y hy e).1 hk;rw[h.dev.base]at this;omega
  simpa using this)
 obtain⟨e1,e2,e3⟩:=GY h.dev u2 hs
 have ht:∀c,Cv (A5 d.Store) c->Bj (r.filter λy=>y.Block !=b) c=Bj r c:=λc hc=>by grind [jU,Bj,JS]
 refine⟨d',u1,u3,⟨u2,h.core.filter _,?_⟩,e1,e2,e3,ht⟩;rw[e1];exact h.data.congr ht
def Ge (id:Int):Nat->List Int->List BV
 |_,[]=>[]
 |k,x::row=>(if x>0 then [BV.mk 4 id k x]else [])++Ge id (k+1) row
def O5 (p:Int×List Int):List BV:=BV.mk 2 p.1 0 0::Ge p.1 0 p.2
def LA (l:Vs) (nx:Int):List BV:=BV.mk 1 0 nx 0::l.flatMap O5
theorem OP (id x:Int):∀(k:Nat) (a:List Int),Ge id k (a++ [x])=Ge id k a++(if x>0 then [BV.mk 4 id (k+a.length:Nat) x]else [])
 |k,[]=>by simp[Ge]
 |k,y::a=>by
  rw[BX,Ge,OP id x (k+1) a,Ge,Bx,AD,show k+1+a.length=k+(a.length+1) by omega]
theorem Wc (id:Int):∀(k:Nat) (a:List Int),(Ge id k a).length<=a.length
 |_,[]=>Ax _
 |k,x::a=>by
  rw[Ge,A3,AD];have:=Wc id (k+1) a
  grind
theorem eS (K:Ks) (r:Int):(DF K r).length=16:=by unfold DF;simp
theorem kP:∀(l:Vs),(∀p∈l,p.2.length=16)->(l.flatMap O5).length<=17*l.length
 |[],_=>Ax _
 |p::l,h=>by
  have:=kP l λq hq=>h q<|by simp[hq]
  grind [Wc,O5]
theorem TT (h:BU s):M6 s=some (LA (A5 s) s.Next):=by
 have hl:=h.len;unfold M6;obtain⟨b,h1,h2⟩:=A4 (body:=λq:List BV×Int=>Eg s q.1 q.2) (λ(o:List BV) i=>(o,i)) s.Vols.length (λi o=>o=LA ((A5 s).take i) s.Next/\o.length<=1+17*i) (λo=>o=LA (A5 s) s.Next)
  (λo i hi ho=>by
   have hx:=Ab hi;have hr:=h.root _<|A0.2 ⟨s.Vols[i],Aq hi,rfl⟩;have et:(A5 s).take (i+1)=(A5 s).take i++ [(s.Vols[i].Id,DF s.Arena.Knots s.Vols[i].Root)]:=by grind [Dg,A5]
   simp only[Eg,Da hi,Ap,hx,Aa];rw[AN (by simp;omega),Aa,M7 _ (by have:=h.few;omega) h.ar hr];simp only[Aa];obtain⟨u,u1,u2,u3⟩:=A4 (body:=λq:List BV×Int=>Fy s (i:Int) (DF s.Arena.Knots s.Vols[i].Root) q.1 q.2) (λ(l:List BV) k=>(l,k)) (DF s.Arena.Knots s.Vols[i].Root).length
    (λk u=>u=o++ [BV.mk 2 s.Vols[i].Id 0 0]++Ge s.Vols[i].Id 0 ((DF s.Arena.Knots s.Vols[i].Root).take k)/\u.length<=o.length+1+k) (λu=>u=o++ [BV.mk 2 s.Vols[i].Id 0 0]++Ge s.Vols[i].Id 0 (DF s.Arena.Knots s.Vols[i].Root)/\u.length<=o.length+17)
    (λu k hk hu=>by
     obtain⟨c,d⟩:=hu;have a:=Ab hk;have f:=eS s.Arena.Knots s.Vols[i].Root;have etk:=Ag hk;simp only[Fy,Da hk,Ap,a,hx,Aa];rw[ad1];refine .inl ?_;by_cases e:(DF s.Arena.Knots s.Vols[i].Root)[k]>0
     ·rw[Ac e,Al,AN (by simp;omega)]
      grind [OP]
     grind [OP])
    (λu hu=>⟨u,by rfl,by grind,by grind [eS]⟩) (s:=o++ [BV.mk 2 s.Vols[i].Id 0 0]) ⟨by simp[Ge],by simp⟩
   grind [ad1,LA,O5])
  (λo ho=>⟨o,by simp[CM,Eg],by grind [Iq]⟩) (s:=[BV.mk 1 0 s.Next 0]) ⟨rfl,by simp⟩
 grind
structure VsP (l:Vs) (nx:Int):Prop where
 len:l.length<=3
 nxt:1<=nx/\nx<=1000000000
 ids:∀p∈l,1<=p.1/\p.1<=9
 asc:l.Pairwise λp q=>p.1<q.1
 row:∀p∈l,p.2.length=16
 num:∀p∈l,∀x∈p.2,0<=x/\x<nx
theorem lA {r:Int} (hK:Ci K=true) (hr:CH K r=true):∀x∈DF K r,0<=x:=by grind [B5,Fk,yJ,DF,Qd]
theorem BU.vs (h:BU s):VsP (A5 s) s.Next:=by
 have mem:∀p∈A5 s,∃v∈s.Vols,p=(v.Id,DF s.Arena.Knots v.Root):=λp hp=>by
  obtain⟨v,hv,rfl⟩:=A0.1 hp
  grind
 refine⟨by rw[Iq];exact h.len,h.nx,λp hp=>?_,?_,λp hp=>?_,λp hp x hx=>?_⟩
 ·obtain⟨v,hv,rfl⟩:=mem p hp;exact h.ids v hv
 ·have:=h.asc;unfold A5
  grind
 ·grind [eS]
 obtain⟨v,hv,rfl⟩:=mem p hp;have hm:v.Root∈Bb s:=A0.2 ⟨v,hv,rfl⟩;exact⟨lA h.ar (h.root _ hm) x hx,h.lt _ hm x hx⟩
theorem nC {id k x:Int} (h1:1<=id/\id<=9) (h2:0<=k/\k<16) (h3:1<=x/\x<=1000000000):EC (BV.mk 4 id k x)=true:=by grind [EC]
theorem AAE {id a:Int} (h1:1<=id/\id<=9) (h2:0<=a/\a<=9):EC (BV.mk 2 id a 0)=true:=by grind [EC]
theorem sQ {P:Vs} {id:Int} {a:List Int} (h:∀p∈P,p.1<id) (k:Nat) (x:Int):WJ (P++ [(id,a)]) id k x=P++ [(id,a.set k x)]:=by
 unfold WJ;rw[GJ];congr 1
 ·conv=>rhs;rw[<-Ts P]
  apply Dc
  grind
 simp
theorem jB {P:Vs} {id nx:Int} (hP:∀p∈P,p.1<id) (a:1<=id/\id<=9) (b:nx<=1000000000):∀(todo done:List Int),done.length+todo.length=16->(∀x∈todo,0<=x/\x<nx)->Cw (P++ [(id,done++List.replicate todo.length 0)]) nx (Ge id done.length todo)=some (P++ [(id,done++todo)],nx)
 |[],done,hl,hx=>by rfl
 |x::todo,done,hl,hx=>by
  have h1:=hx x (by simp);rw[AD]at hl;have ih:=jB hP a b todo (done++ [x]) (by simp;omega) (λy hy=>hx y<|by simp[hy]);rw[Ge];have c:(done++List.replicate (todo.length+1) 0).set done.length x=done++ [x]++List.replicate todo.length 0:=by grind
  by_cases e:x>0
  ·rw[Bv e,Jg,FP];have d:Cd (P++ [(id,done++List.replicate (x::todo).length 0)]) nx (BV.mk 4 id done.length x)=some (P++ [(id,done++ [x]++List.replicate todo.length 0)],nx):=by
    unfold Cd;rw[nC a (by omega)<|by omega]
    grind [sQ,B8,Dw]
   grind
  grind
theorem tT {P:Vs} {id:Int} {a:List Int} (h:∀p∈P,p.1<id):WL P id a=P++ [(id,a)]:=by grind [F8,BE,WL]
theorem aZ (a:nx<=1000000000):∀(l P:Vs),(P++l).length<=3->(P++l).Pairwise (λp q=>p.1<q.1)->(∀p∈l,(1<=p.1/\p.1<=9)/\p.2.length=16/\∀x∈p.2,0<=x/\x<nx)->Cw P nx (l.flatMap O5)=some (P++l,nx)
 |[],P,_,_,_=>by simp[Cw]
 |p::l,P,e,f,hall=>by
  obtain⟨h1,h2,h3⟩:=hall p<|by simp
  have c:∀q∈P,q.1<p.1:=λq hq=>by grind
  rw[List.flatMap_cons,KO];unfold O5;rw[FP];have d:Cd P nx (BV.mk 2 p.1 0 0)=some (P++ [(p.1,IG)],nx):=by grind [AAE,tT,Cd,Dw]
  rw[d];simp only[Aa];have hz:IG=[]++List.replicate p.2.length 0:=by rw[h2];rfl
  have b:=jB c h1 a p.2 [] (by simpa using h2) h3;rw[<-hz,LC,Av]at b;rw[b];simp only[Aa];have hP:P++ [(p.1,p.2)]=P++ [p]:=rfl;have:=aZ a l (P++ [p]) (by grind) (by grind) (λq hq=>hall q<|by simp[hq]);rw[hP,show(l.flatMap λp=>BV.mk 2 p.1 0 0::Ge p.1 0 p.2)=l.flatMap O5 from rfl,this,Bx];rfl
theorem dQ (h:VsP l nx) (l0:Vs) (n0:Int):Cw l0 n0 (LA l nx)=some (l,nx):=by
 unfold LA;rw[FP];have a:Cd l0 n0 (BV.mk 1 0 nx 0)=some ([],nx):=by
  unfold Cd;have hb:EC (BV.mk 1 0 nx 0)=true:=by
   have:=h.nxt
   grind [EC]
  rw[hb];have:=h.nxt
  grind
 rw[a];have:=aZ h.nxt.2 l [] (by simpa using h.len) (by simpa using h.asc) λp hp=>⟨h.ids p hp,h.row p hp,h.num p hp⟩
 grind
theorem dP (h:VsP l nx):(∀r∈LA l nx,EC r=true)/\(LA l nx).length<=1000:=by
 refine⟨λr hr=>?_,?_⟩
 ·
  cases hb:EC r with
  |true=>rfl
  |false=>
   exfalso;obtain⟨i,hi,rfl⟩:=Aw hr;have h1:=dQ h [] 1;obtain⟨e1,e2⟩:=I8<|Ab hi;rw[e1,KO]at h1
   cases hq:Cw [] 1 ((LA l nx).take i)with
   |none=>grind
   |some q=>grind [FP,Cd]
 unfold LA;rw[AD];have:=kP l h.row;have:=h.len;omega
structure AEn (d d':Device):Prop where
 ab:A5 d'.Store=A5 d.Store
 nx:d'.Store.Next=d.Store.Next
theorem OK (h:EE d r) {steps:List A8} (hs:Steps d.Flash steps g) (hl:steps.length<=1048576) (hm:Cc g=some (d',true)):Hg d steps=some d':=by
 unfold Hg;rw[Lc h.fl hs hl,Aa,hm];rfl
theorem UM:∀{n:Int} {ps:List Page} {p:Page},Gl n ps->(∀q∈ps,q.Seq<p.Seq)->n<=p.Seq->Gl n (ps++ [p])
 |n,[],p,_,_,h=>⟨h,trivial⟩
 |n,q::ps,p,ha,hq,h=>⟨ha.1,UM ha.2 (λx hx=>hq x (by simp[hx])) (by grind)⟩
def nR (d:Device) (r:List Ak) (p:Page):Prop:=p.Kind=1/\Cv (A5 d.Store) p.Tx/\∃y,JS r p.Tx=some y/\p.Text=y.Page.Text
theorem Ys (h:EE d r) {live:List Int} (hl:∀x,x∈live↔Cv (A5 d.Store) x) (hy:r[j]?=some y) (hn:(Ca r live 1000000001)[j]?=some true):y.Page.Kind=1/\Cv (A5 d.Store) y.Page.Tx/\JS r y.Page.Tx=some y:=by
 rw[Oc r live _ hy]at hn
 injection hn with hn
 have a:=h.pages;have ht:=a.tx y<|An hy;have:CY 1000000001 y=false:=by
  unfold CY
  grind
 rw[this,Bool.false_or,Ev]at hn;obtain⟨c,hc,b⟩:=hn;have e:Qe c r r.length=some j:=by simpa using b
 have h1:=AAq e;rw[hy]at h1;obtain⟨_,k1,k2⟩:=Yr h1
 grind
theorem ZM (h:EE d r) (k:r.length<=40) (b:Int):Hk d b=some ([],false)\/∃steps ps g,Hk d b=some (steps,true)/\Fu d.Flash steps ps g/\AM g/\Gl d.Seq ps/\steps.length<=160/\(∀p∈ps,nR d r p/\FX p)/\∀p∈ps,p.Seq<d.Seq+160:=by
 obtain⟨live,l1,l2,l3,l4⟩:=Fx h.st;have l:1<=d.Seq/\d.Seq<=1000000001:=by
  rw[h.seq];have h1:=Lx r;refine⟨h1.2.1,h1.2.2 _ (by omega) λy hy=>?_⟩;have:=(h.pages.seq y hy).2;omega
 unfold Hk;rw[h.scan.s,l1];simp only[Aa];rw[LT r live _ h.scan.len l4];have m:live.foldl (ZQ r) (r.map<|CY 1000000001)=Ca r live 1000000001:=rfl
 let I:Nat->(List A8×Int×List Block)->Prop:=λn o=>∃ps,Fu d.Flash o.1 ps (Flash.mk o.2.2)/\AM (Flash.mk o.2.2)/\Gl d.Seq ps/\(∀p∈ps,p.Seq<o.2.1)/\d.Seq<=o.2.1/\o.2.1<=d.Seq+n/\o.1.length<=n/\∀p∈ps,nR d r p/\FX p
 have I0:I (40*0) ([],d.Seq,d.Flash.Blocks):=by
  refine⟨[],rfl,h.fl,trivial,?_,?_,?_,?_,?_⟩
  ·grind
  ·exact GO _
  ·grind
  ·exact Ax _
  grind
 obtain⟨a,h1,h2⟩:=A4 (body:=λs:List A8×Int×Int×List Block=>FI b r (Ca r live 1000000001) s.1 s.2.1 s.2.2.1 s.2.2.2) (λ(o:List A8×Int×List Block) i=>(o.1,o.2.1,i,o.2.2)) 4
  (λi o=>I (40*i) o) (λa=>a= .inr ([],false)\/∃steps sq bl,a= .inl steps/\I 160 (steps,sq,bl))
  (λo i hi ho=>by
   simp only[FI];rw[cT];obtain⟨q,q1,q2⟩:=A4 (body:=λs:List A8×Int×Int×List Block=>Ey b r (Ca r live 1000000001) (i:Int) s.1 s.2.1 s.2.2.1 s.2.2.2) (λ(o:List A8×Int×List Block) j=>(o.1,o.2.1,j,o.2.2)) r.length
    (λj o=>I (40*i+j) o) (λq=>q= .inr (.inr<|.inr ([],false))\/∃o,q= .inl o/\I (40*i+40) o)
    (λo j hj hs=>by
     obtain⟨ss,sq,bl⟩:=o;obtain⟨ps,p1,p2,p3,p4,p5,p6,p7,p8⟩:=hs;simp only at p1 p2 p4 p5 p6 p7;have hx:=Ab hj;have e:j<(Ca r live 1000000001).length:=by grind [IQ]
     have c:=Ab e;simp only[Ey,Da hj,Ap,hx,c,Aa];rw[ad1];have skip:I (40*i+(j+1)) (ss,sq,bl):=⟨ps,p1,p2,p3,p4,p5,by show sq<=_;omega,by grind,p8⟩
     cases f:(Ca r live 1000000001)[j]with
     |false=>
      exact .inl ⟨(ss,sq,bl),rfl,skip⟩
     |true=>
      simp only[Aj,Ad]
      cases hb:(r[j].Block !=b)with
      |true=>
       exact .inl ⟨(ss,sq,bl),rfl,skip⟩
      |false=>
       simp only[Ad,Aa]
       cases t:(r[j].Leaf !=(i:Int))with
       |true=>
        exact .inl ⟨(ss,sq,bl),rfl,skip⟩
       |false=>
        obtain⟨m1,m2,m3⟩:=Ys h l3 hx<|by rw[c,f]
        rcases wL p2 p1 (by omega) (Page.mk r[j].Page.Kind sq r[j].Page.Tx r[j].Page.Part r[j].Page.Count r[j].Page.Text)with⟨s,g',w1,w2,w3,w4,_⟩|w
        ·rw[w1];simp only[Aa,Aj,Ad];rw[AY,A3,Cl,BD,show((ss.length+1:Nat):Int)-1=(ss.length:Int) by omega,Eh];simp only[Aa]
         cases u:(s.Block==b)with
         |true=>simp
         |false=>
          rw[BW];refine .inl ⟨(ss++ [s],sq+1,g'.Blocks),rfl,_,w2,w3,UM p3 (λq hq=>p4 q hq) p5,λp hp=>?_,by grind,by grind,by simp;omega,λp hp=>?_⟩
          ·grind
          rw[Ay,Bn]at hp
          rcases hp with hp|rfl
          ·exact p8 p hp
          exact⟨⟨m1,m2,_,m3,rfl⟩,w4⟩
        grind)
    (λo hs=>⟨.inl (o.1,o.2.1,o.2.2),by simp[CM,Ey],.inr ⟨o,rfl,by grind⟩⟩) (s:=o) (by omega)
   rw[q1]
   rcases q2 with rfl|⟨o',rfl,q2⟩
   ·simp
   grind [ad1])
  (λo ho=>⟨.inl o.1,by rfl,.inr ⟨o.1,o.2.1,o.2.2,rfl,ho⟩⟩) (s:=([],d.Seq,d.Flash.Blocks)) I0
 grind
theorem xY (h:G5 d r) {steps:List A8} (hp:Fu d.Flash steps ps g) (ha:Gl d.Seq ps) (hl:steps.length<=160) (hm:∀p∈ps,nR d r p/\FX p) (k:Nat):
  ∃m d',Steps d.Flash (steps.take k) m/\AM m/\Cc m=some (d',true)/\d'.Flash=m/\G5 d' (r++(BS steps ps).take k)/\AEn d d'/\d'.Base=d.Base/\Xz d.Flash m/\∀c,Cv (A5 d.Store) c->Bj (r++(BS steps ps).take k) c=Bj r c:=by
 have b:=(DD hp).2;have u:=h.few
 have e:∀y∈r,y.Page.Seq<d.Seq:=λy hy=>by rw[h.dev.seq];simp_all [Lx]
 obtain⟨m,a⟩:=Tm k hp;have f:=Sd h.dev.fl (DD a).1;have ascT:∀(ps:List Page) (n:Int) (k:Nat),Gl n ps->Gl n (ps.take k):=by
  intro ps
  induction ps with
  |nil=>grind
  |cons p ps ih=>
   intro n k ha
   cases k with
   |zero=>trivial
   |succ k=>exact⟨ha.1,ih _ k ha.2⟩
 have l:=Z0 h.dev.fl h.dev.sr a e<|ascT _ _ k ha;rw[Wt]at l;obtain⟨d',u1,u2,u3⟩:=Ls f l;have v:=YT b;have ascG:∀(ps:List Page) (n:Int) (i:Nat) (p:Page),Gl n ps->ps[i]?=some p->n<=p.Seq/\∀j q,j<i->ps[j]?=some q->q.Seq<p.Seq:=by
  intro ps
  induction ps with
  |nil=>grind
  |cons x ps ih=>
   intro n i p ha hp
   cases i with
   |zero=>
    simp only[Mr,Ar]at hp;rw[<-hp];exact⟨ha.1,λj q hj=>by omega⟩
   |succ i=>
    obtain⟨i1,i2⟩:=ih _ i p ha.2 (by simpa using hp);have:=ha.1;refine⟨by omega,λj q hj hq=>?_⟩
    grind
 have main:∀n,n<=(BS steps ps).length->Iv (r++(BS steps ps).take n)/\FT (r++(BS steps ps).take n) (Cv<|A5 d.Store)/\AK (r++(BS steps ps).take n)=AK r/\∀c,Cv (A5 d.Store) c->Bj (r++(BS steps ps).take n) c=Bj r c:=by
  intro n
  induction n with
  |zero=>intro _;rw[aP,AJ];exact⟨h.core,h.data,rfl,λ_ _=>rfl⟩
  |succ n ih=>
   intro hn;obtain⟨i1,i2,i3,i4⟩:=ih (by omega);have hx:(BS steps ps)[n]?=some (BS steps ps)[n]:=Ab (by omega);have o:=ML hx;obtain⟨⟨m1,m2,y,m3,m4⟩,m5⟩:=hm _<|An o;obtain⟨a1,a2⟩:=ascG ps d.Seq n _ ha o;rw[Ag (by omega),<-Bx];have w:X6 (BS steps ps)[n].Page.Text=Bj r (BS steps ps)[n].Page.Tx:=by grind [Bj]
   have s:CZ (r++(BS steps ps).take n)<=(BS steps ps)[n].Page.Seq:=by
    refine(Lx _).2.2 _ (m5.2.1.1) (λz hz=>?_)
    rcases Ay.1 hz with hz|hz
    ·grind
    obtain⟨j,hj,rfl⟩:=Aw hz;rw[Eu]at hj;rw[List.getElem_take];exact a2 j _ (by omega)<|ML<|Ab<|by omega
   refine⟨Iv.add i1 (by simp;omega) m5 s (λhh=>by omega),mJ i2 (by grind),by grind [Ws],λc hc=>?_⟩
   grind [Ob,Bj]
 have t:Iv (r++(BS steps ps).take k)/\FT (r++(BS steps ps).take k) (Cv<|A5 d.Store)/\AK (r++(BS steps ps).take k)=AK r/\∀c,Cv (A5 d.Store) c->Bj (r++(BS steps ps).take k) c=Bj r c:=by grind [BS]
 obtain⟨k1,k2,k3,k4⟩:=t;obtain⟨e1,e2,e3⟩:=GY h.dev u2 (by rw[k3]);exact⟨m,d',(DD a).1,f,u1,u3,⟨u2,k1,by rw[e1];exact k2⟩,⟨e1,e2⟩,e3,λ_=>Tl a,k4⟩
theorem MU (h:EE d r) {live:List Int} (hl:live.length<=16777216) (t:ByteArray):∃v,I5 d.Flash live t=some v/\((v=0/\∀c∈live,Bj r c≠some t)\/(v∈live/\Bj r v=some t)):=by
 have hr:=h.pages;unfold I5 Vj;rw[h.scan.s];obtain⟨b,h1,h2⟩:=A4 (body:=λs:Int=>EZ r live t s) (λ(_:Unit) i=>i) live.length (λi _=>∀c∈live.take i,Bj r c≠some t) (λb=>(b= .inl ()/\∀c∈live,Bj r c≠some t)\/∃v,b= .inr v/\v∈live/\Bj r v=some t)
  (λ_ i hi hs=>by
   have hx:=Ab hi;simp only[EZ,Da hi,Ap,hx,Aa];obtain⟨u,ok,k1,k2⟩:=iY hr live[i];rw[k1,Aa,ad1]
   have no:Bj r live[i]≠some t->∀c∈live.take (i+1),Bj r c≠some t:=λa c hc=>by grind [Ag]
   cases ok with
   |false=>simp_all
   |true=>
    cases e:seq u t with
    |true=>grind [Jo]
    |false=>simp_all [Jo])
  (λ_ hs=>⟨_,by simp[CM,EZ],.inl ⟨rfl,by grind⟩⟩) (s:=()) (by simp)
 grind
structure ABI (q:Ask):Prop where
 kind:1<=q.Kind/\q.Kind<=6
 vol:1<=q.Vol/\q.Vol<=9
 text:(L q.Text).length<=64
 sec:0<=q.Sector/\q.Sector<=15
 of_:0<=q.Of/\q.Of<=9
 cl:q.Kind=4->1<=q.Of
 no:q.Kind≠4->q.Of=0
 tx:q.Kind≠1->L q.Text=[]
theorem NX (q:Ask):∃v,EA q=some v/\(v=true->ABI q):=by
 unfold EA;simp only[CU,Aa];by_cases h1:1<=q.Kind/\q.Kind<=6
 ·rw[Ac h1];by_cases h2:1<=q.Vol/\q.Vol<=9
  ·rw[Ac h2];by_cases h3:FU q.Text>64
   ·simp_all
   rw[Ah h3];rw[Ba]at h3;simp only[Aj,Ad];have ht:(cond (q.Kind !=1) (some<|!(seq q.Text<|bs [])) (some false):Option Bool)=some (decide<|q.Kind≠1/\L q.Text≠ []):=by grind [PU,CB]
   rw[ht];simp only[Aa];by_cases h4:q.Kind≠1/\L q.Text≠ []
   ·grind
   rw[Ah h4]
   have a:q.Kind≠1->L q.Text=[]:=λhk=>Classical.byContradiction λhh=>h4 ⟨hk,hh⟩
   by_cases h5:q.Kind=4
   ·rw[show(q.Kind==4)=true by simpa using h5];by_cases h6:q.Sector=0
    ·rw[show(q.Sector==0)=true by simpa using h6];refine⟨_,rfl,λhh=>?_⟩;rw[Bc]at hh;exact⟨h1,h2,by omega,by omega,by omega,λ_=>hh.1,λhk=>absurd h5 hk,a⟩
    grind
   rw[show(q.Kind==4)=false by simpa using h5];by_cases h6:q.Of=0
   ·rw[show(q.Of !=0)=false by simp[h6]];by_cases h7:q.Kind=3\/q.Kind=5
    ·have:(cond (q.Kind==3) (some true) (some<|q.Kind==5):Option Bool)=some true:=by grind
     rw[this];refine⟨_,rfl,λhh=>?_⟩;rw[JW]at hh;exact⟨h1,h2,by omega,by omega,by omega,λhk=>absurd hk h5,λ_=>h6,a⟩
    have:(cond (q.Kind==3) (some true) (some<|q.Kind==5):Option Bool)=some false:=by grind
    rw[this];refine⟨_,rfl,λhh=>?_⟩;rw[Bc]at hh;exact⟨h1,h2,by omega,hh,by omega,λhk=>absurd hk h5,λ_=>h6,a⟩
   grind
  simp_all [Ah]
 simp_all [Ah]
def Yf (d:Device) (r:List Ak) (q:Ask) (x:BV) (a:ByteArray):Prop:=EC x=true/\x.Kind≠1/\x.Vol=q.Vol/\((L a=[]/\(x.Kind=4->Cv (A5 d.Store) x.Chunk/\Bj r x.Chunk=some q.Text))\/(x.Kind=4/\x.Chunk=d.Store.Next/\L a≠ []/\X6 a=some q.Text/\∀c,Cv (A5 d.Store) c->Bj r c≠some q.Text))
theorem Z4 (h:EE d r) (q:Ask):∃a text no,Cn d q=some (a,text,no)/\((a=[]/\text=bs [])\/(no=0/\∃x,a=[x]/\Yf d r q x text))/\(no≠0->a=[]):=by
 have i:=h.st.len;have b:=h.st.nx;obtain⟨v,a1,a2⟩:=NX q;unfold Cn;rw[a1];simp only[Aa]
 cases v with
 |false=>exact⟨_,_,_,rfl,.inl ⟨rfl,rfl⟩,λ_=>rfl⟩
 |true=>
  have hq:=a2 rfl;simp only[Aj,Ad];obtain⟨w,hw⟩:∃w,C6 d.Store q.Vol=some w:=by
   rcases DM d.Store (by omega) q.Vol with⟨e,_⟩|⟨k,_,e,_⟩<;>exact⟨_,e⟩
  rw[hw];by_cases h34:q.Kind=3\/q.Kind=4
  ·have:(cond (q.Kind==3) (some true) (some<|q.Kind==4):Option Bool)=some true:=by grind
   rw[this];simp only[Aa,Al]
   cases decide (w>=0)with
   |true=>grind
   |false=>
    obtain⟨j2,g⟩:∃j2,(cond (q.Kind==4) ((C6 d.Store q.Of).bind λv3=>some<|decide<|v3<0) (some false):Option Bool)=some j2:=by grind [DM]
    rw[g];simp only[Aa]
    cases j2 with
    |true=>grind
    |false=>
     cases decide (ln d.Store.Vols>=3)with
     |true=>grind
     |false=>
      refine⟨_,_,_,rfl,.inr ⟨rfl,_,rfl,AAE hq.vol hq.of_,by simp,rfl,.inl ⟨CB _,λhh=>by simp at hh⟩⟩,λhh=>absurd rfl hh⟩
  have:(cond (q.Kind==3) (some true) (some<|q.Kind==4):Option Bool)=some false:=by grind
  rw[this];simp only[Aa,Ad]
  cases decide (w>=0)with
  |false=>exact⟨_,_,_,rfl,.inl ⟨rfl,rfl⟩,λ_=>rfl⟩
  |true=>
   simp only[Aj,Ad]
   cases k1:(q.Kind==1)with
   |true=>
    obtain⟨live,l1,l2,l3,l4⟩:=Fx h.st;obtain⟨c,f1,f2⟩:=MU h l4 q.Text;rw[l1,Aa,f1];simp only[Aa]
    rcases f2 with⟨rfl,f2⟩|⟨f2,f3⟩
    ·obtain⟨z,z1,z2,z3⟩:=Zs q.Text hq.text;rw[show((0:Int)==0)=true from rfl,z1];refine⟨_,_,_,rfl,.inr ⟨rfl,_,rfl,nC hq.vol (by have:=hq.sec;omega) ⟨b.1,b.2⟩,by simp,rfl,.inr ⟨rfl,rfl,?_,?_,λc hc=>f2 c<|(l3 c).2 hc⟩⟩,λhh=>absurd rfl hh⟩
     ·grind
     grind [X6]
    have f:=(l3 c).1 f2;have j:=Uq h.st f;rw[show(c==0)=false by grind];refine⟨_,_,_,rfl,.inr ⟨rfl,_,rfl,nC hq.vol (by have:=hq.sec;omega) (by omega),by simp,rfl,.inl ⟨CB _,λ_=>⟨f,f3⟩⟩⟩,λhh=>absurd rfl hh⟩
   |false=>
    cases k2:(q.Kind==2)with
    |true=>
     refine⟨_,_,_,rfl,.inr ⟨rfl,_,rfl,?_,by simp,rfl,.inl ⟨CB _,λhh=>by simp at hh⟩⟩,λhh=>absurd rfl hh⟩;have:=hq.vol;have:=hq.sec
     grind [EC]
    |false=>
     cases k5:(q.Kind==5)with
     |true=>
      refine⟨_,_,_,rfl,.inr ⟨rfl,_,rfl,?_,by simp,rfl,.inl ⟨CB _,λhh=>by simp at hh⟩⟩,λhh=>absurd rfl hh⟩;have:=hq.vol
      grind [EC]
     |false=>grind
theorem Ww (h:Cd l nx x=some (l',nx')) (hk:x.Kind≠1):(∀c,Cv l' c->Cv l c\/c=x.Chunk)/\nx<=nx'/\nx'<=max nx (x.Chunk+1):=by
 unfold Cd at h;split at h
 ·cases h
 split at h
 ·split at h
  ·cases h
  injection h with h
  injection h with h1 h2
  subst h1 h2;refine⟨λc hc=>?_,by omega,by omega⟩;obtain⟨h0,p,hp,hx⟩:=hc;unfold WL at hp;simp only[Ay,AI,Bn]at hp
  rcases hp with(hp|rfl)|hp
  ·exact .inl ⟨h0,p,hp.1,hx⟩
  ·have zz:c∉IG:=λhz=>by have:=Dp hz;omega
   split at hx
   ·cases hg:Dw l x.Arg with
    |none=>grind
    |some row=>
     rw[hg]at hx;obtain⟨w,a,d⟩:=AB.1 hg;have b:=List.mem_of_find?_eq_some a;exact .inl ⟨h0,w,b,by grind⟩
   exact absurd hx zz
  exact .inl ⟨h0,p,hp.1,hx⟩
 split at h
 ·cases h
 split at h
 ·injection h with h
  injection h with h1 h2
  subst h1 h2;refine⟨λc hc=>?_,by omega,by omega⟩;obtain⟨h0,p,hp,hx⟩:=hc;exact .inl ⟨h0,p,(AI.1 hp).1,hx⟩
 injection h with h
 injection h with h1 h2
 subst h1 h2;refine⟨λc hc=>?_,by omega,by omega⟩;obtain⟨h0,p,hp,hx⟩:=hc;obtain⟨w,hw,rfl⟩:=A0.1 hp;split at hx
 ·rcases BP hx with hx|hx
  ·exact .inl ⟨h0,w,hw,hx⟩
  exact .inr hx
 exact .inl ⟨h0,w,hw,hx⟩
theorem oN (h:Cd l nx x=some (l',nx')) (hk:x.Kind≠1):∀p∈l',(∃p'∈l,p'.1=p.1)\/p.1=x.Vol:=by
 unfold Cd at h;split at h
 ·cases h
 split at h
 ·grind [WL]
 split at h
 ·cases h
 split at h
 ·injection h with h
  injection h with h1 h2
  subst h1 h2
  exact λp hp=> .inl ⟨p,(AI.1 hp).1,rfl⟩
 grind [WJ]
theorem ZG (h:EE d r):∃v,My d=some v:=by
 have hr:=h.pages;unfold My
 cases(d.Base !=sb d.Tx 1)with
 |true=>exact⟨_,rfl⟩
 |false=>
  rw[h.scan.s,Aa,Nn r hr];simp only[Aa];obtain⟨g1,_⟩:=Td hr;obtain⟨b,h1,_⟩:=A4 (body:=λs:Int=>G6 d (AK r) s) (λ(_:Unit) i=>i) (AK r).length (λ_ _=>True) (λ_=>True)
   (λ_ i hi _=>by
    have hx:=Ab hi;simp only[G6,Da hi,Ap,hx,Aa];rw[ad1]
    cases((AK r)[i].Num==d.Base)with
    |false=>simp
    |true=>
     cases a:(AK r)[i].Recs with
     |nil=>exact .inr ⟨_,rfl,trivial⟩
     |cons q m=>grind [gi])
   (λ_ _=>⟨.inl (),by simp[CM,G6],trivial⟩) (s:=()) trivial
  rw[h1]
  cases b with
  |inl u=>exact⟨_,rfl⟩
  |inr v=>exact⟨v,rfl⟩
theorem ZI (h:EE d r):∃v,Mz d=some v:=by
 have hn:=h.fl.n;obtain⟨live,l1,_,_,l4⟩:=Fx h.st;unfold Mz;rw[h.scan.s,l1];simp only[Aa];rw[LT r live d.Base h.scan.len l4,LT r live 1000000000 h.scan.len l4]
 have a:∀b,live.foldl (ZQ r) (r.map<|CY b)=Ca r live b:=λ_=>rfl
 rw[a,a];obtain⟨b,h1,_⟩:=A4 (body:=λs:Int×Int×Int=>Dd d r (Ca r live d.Base) (Ca r live 1000000000) s.1 s.2.1 s.2.2) (λ(o:Int×Int) i=>(o.1,o.2,i)) d.Flash.Blocks.length (λ_ _=>True) (λ_=>True)
  (λo i hi _=>by
   have hx:=Ab hi;have hP:=h.fl.blk _<|Aq hi;simp only[Dd,Da hi,Ap,hx,Aa];rw[Yk r _ (i:Int) h.scan.len<|IQ _ _ _,Yk r _ (i:Int) h.scan.len<|IQ _ _ _,Jz _ hP.four,ad1];simp only[Aa,MR]
   cases(bif !d.Flash.Blocks[i].Bad then _ else false)with
   |true=>simp
   |false=>grind)
  (λo _=>⟨o.1,by simp[CM,Dd],trivial⟩) (s:=(-1,4)) trivial
 grind
theorem EE.seqs (h:EE d r):0<=d.Seq/\d.Seq<=1000000001:=by
 rw[h.seq];have h1:=Lx r;refine⟨by omega,h1.2.2 _ (by omega) λy hy=>?_⟩;have:=(h.pages.seq y hy).2;omega
theorem eA (h:∀y∈r',y.Page.Kind=2->y.Page.Tx<DQ r+n):DQ r'<=DQ r+n:=(X7 r').2.2 _ (by have:=(X7 r).2.1;omega) h
theorem WX (n:Nat) (hy:y∈r) (hk:y.Page.Kind=2):y.Page.Tx<DQ r+n:=by have:=(X7 r).1 y hy hk;omega
theorem cE {seq tx:Int} (h:p∈Bz seq tx T):p.Tx=tx:=by grind [Bz]
theorem eI (h:∀y∈r',y.Page.Seq<CZ r+n):CZ r'<=CZ r+n:=(Lx r').2.2 _ (by have:=(Lx r).2.1;omega) h
theorem WZ (n:Nat) (hy:y∈r):y.Page.Seq<CZ r+n:=by have:=(Lx r).1 y hy;omega
theorem nJ {seq tx:Int} (h:p∈Bz seq tx T):p.Seq<seq+T.length:=by grind [Bz]
theorem aX {a:ByteArray} (h:p∈BY d c a++Bz (EY d a) d.Tx T):p.Seq<d.Seq+1+T.length:=by
 rcases Ay.1 h with h|h
 ·grind [BY]
 have h1:=nJ h
 grind [EY]
theorem Nv {seq tx:Int} (h:p∈Bz seq tx T):p.Kind=2:=by grind [Bz]
def uU (m:Flash) (s:A8) (g:Flash):Prop:=AM g/\Xz m g/\((s.Kind=1/\J5 0 g.Blocks=J5 0 m.Blocks)\/(s.Kind=2/\J5 0 g.Blocks=(J5 0 m.Blocks).filter λy=>y.Block !=s.Block))
def Wz (f:Flash) (ss:List A8) (k:Nat) (g:Flash):Prop:=∃m,Steps f (ss.take k) m/\(g=m\/∃s,ss[k]?=some s/\O9 m s/\uU m s g)
theorem Mq:∀{f:Flash} {a:List A8} {g m:Flash},Steps f a g->Steps f a m->g=m
 |f,[],g,m,h,k=>by rw[show g=f from h,show m=f from k]
 |f,s::a,g,m,h,k=>Mq h.2 k.2
theorem dH {m:Flash} {a b:List A8} (h:Wz f (a++b) k g) (hs:Steps f a m):(k<a.length/\Wz f a k g)\/(a.length<=k/\Wz m b (k-a.length) g):=by
 obtain⟨x,h1,h2⟩:=h;by_cases e:k<a.length
 ·left;rw[List.take_append_of_le_length<|by omega]at h1;rw[KQ e]at h2;exact⟨e,x,h1,h2⟩
 right;rw[List.take_append,AF<|by omega]at h1;rw[CS<|by omega]at h2;obtain⟨y,y1,y2⟩:=(HO _ _ _ _).1 h1;rw[Mq y1 hs]at y2;exact⟨by omega,x,y2,h2⟩
structure Iu (n:Nat) (d:Device) (r:List Ak) (d':Device) (r':List Ak):Prop where
 good:G5 d' r'
 ab:A5 d'.Store=A5 d.Store
 nx:d'.Store.Next=d.Store.Next
 pg:∀y∈r',y.Page.Kind=1->∃z∈r,z.Page.Kind=1/\z.Page.Tx=y.Page.Tx/\z.Page.Text=y.Page.Text
 tx:DQ r'<=DQ r+n
 wear:∀w:Int,DI d.Flash w->DI d'.Flash (w+n)
 text:∀c,Cv (A5 d.Store) c->Bj r' c=Bj r c
 sq:CZ r'<=CZ r+200*n
structure As (d:Device) (r:List Ak) (d':Device) (r':List Ak):Prop where
 good:G5 d' r'
 ab:A5 d'.Store=A5 d.Store
 nx:d'.Store.Next=d.Store.Next
 tx:DQ r'<=DQ r+1
 wear:∀w:Int,DI d.Flash w->DI d'.Flash (w+1)
 text:∀c,Cv (A5 d.Store) c->Bj r' c=Bj r c
theorem As.torn {b:List Ak} (h:As d a e b) (hg:AM g) (hp:J5 0 g.Blocks=J5 0 e.Flash.Blocks) (hw:Xz e.Flash g):∃x,Cc g=some (x,true)/\x.Flash=g/\As d a x b:=by
 obtain⟨x,u1,u2,u3⟩:=Ls hg (r:=b) (by rw[hp];exact h.good.dev.sr);obtain⟨e1,e2,_⟩:=GY h.good.dev u2 rfl;exact⟨x,u1,u3,⟨⟨u2,h.good.core,by rw[e1];exact h.good.data⟩,by rw[e1,h.ab],by rw[e2,h.nx],h.tx,λw hh=>by rw[u3];exact hw _<|h.wear w hh,h.text⟩⟩
theorem WU (h:Xz f g) (w:Int) (hw:DI f w):DI g (w+n):=λb hb=>by have:=h w hw b hb;omega
theorem Iu.refl (h:G5 d r):Iu n d r d r:=⟨h,rfl,rfl,λy hy hk=>⟨y,hy,hk,rfl,rfl⟩,by omega,WU λ_ h=>h,λ_ _=>rfl,by omega⟩
theorem Iu.trans {g:Device} {b c:List Ak} (h:Iu n d a e b) (k:Iu m e b g c):Iu (n+m) d a g c:=⟨k.good,by rw[k.ab,h.ab],by rw[k.nx,h.nx],λy hy hk=>by
 obtain⟨z,z1,z2,z3,z4⟩:=k.pg y hy hk;obtain⟨w,w1,w2,w3,w4⟩:=h.pg z z1 z2
 grind,by have:=h.tx;have:=k.tx;omega,λw hw=>by
 have:=k.wear _<|h.wear w hw
 grind,λc hc=>by rw[k.text c (by rw[h.ab];exact hc),h.text c hc],by have:=h.sq;have:=k.sq;omega⟩
theorem Iu.mono {b:List Ak} (h:Iu n d a e b) (hm:n<=m):Iu m d a e b:={h with
 tx:=by have:=h.tx;omega
 wear:=λw hw x hx=>by have:=h.wear w hw x hx;omega
 sq:=by have:=h.sq;omega}
theorem Iu.torn {b:List Ak} (h:Iu n d a e b) (hg:AM g) (hp:J5 0 g.Blocks=J5 0 e.Flash.Blocks) (hw:Xz e.Flash g):∃x,Cc g=some (x,true)/\x.Flash=g/\Iu n d a x b:=by
 obtain⟨x,u1,u2,u3⟩:=Ls hg (r:=b) (by rw[hp];exact h.good.dev.sr);obtain⟨e1,e2,_⟩:=GY h.good.dev u2 rfl;exact⟨x,u1,u3,⟨⟨u2,h.good.core,by rw[e1];exact h.good.data⟩,by rw[e1,h.ab],by rw[e2,h.nx],h.pg,h.tx,λw hh=>by rw[u3];exact hw _<|h.wear w hh,h.text,h.sq⟩⟩
def Kf (n:Nat) (d:Device) (r:List Ak) (steps:List A8):Prop:=(∃m,Steps d.Flash steps m)/\∀k g,k<=steps.length->Wz d.Flash steps k g->∃x rx,Cc g=some (x,true)/\x.Flash=g/\Iu n d r x rx
theorem b9 {steps:List A8} (h1:∀s∈steps,s.Kind=1) (hc:∀k,k<=steps.length->∃x rx,Steps d.Flash (steps.take k) x.Flash/\Cc x.Flash=some (x,true)/\Iu n d r x rx):Kf n d r steps:=by
 refine⟨?_,λk g hk hg=>?_⟩
 ·obtain⟨x,rx,c1,_⟩:=hc steps.length (Ax _)
  grind
 obtain⟨x,rx,c1,c2,c3⟩:=hc k hk;obtain⟨m,m1,m2⟩:=hg;have:=Mq m1 c1;subst this
 rcases m2 with rfl|⟨s,s1,_,s2,s3,⟨_,s4⟩|⟨s4,_⟩⟩
 ·grind
 ·obtain⟨y,y1,y2,y3⟩:=c3.torn s2 s4 s3
  grind
 grind
theorem Kf.full {steps:List A8} (h:G5 d r) (hc:Kf n d r steps) (hl:steps.length<=1000000):∃x rx,Hg d steps=some x/\Steps d.Flash steps x.Flash/\Iu n d r x rx:=by
 obtain⟨⟨m,hm⟩,hk⟩:=hc;obtain⟨x,rx,x1,x2,x3⟩:=hk steps.length m (Ax _) ⟨m,by grind,.inl rfl⟩;exact⟨x,rx,OK h.dev hm (by omega) x1,by rw[x2];exact hm,x3⟩
theorem uM {re:List Ak} {a b:List A8} (hk:Iu n d r e re) (hs:Steps d.Flash a e.Flash) (ha:Kf n d r a) (hb:Kf m e re b):Kf (n+m) d r (a++b):=by
 refine⟨?_,λk g c hg=>?_⟩
 ·obtain⟨x,hx⟩:=hb.1;simp_all [HO];grind
 rw[A3]at c
 rcases dH hg hs with⟨e1,e2⟩|⟨e1,e2⟩
 ·obtain⟨x,rx,x1,x2,x3⟩:=ha.2 k g (by omega) e2;exact⟨x,rx,x1,x2,x3.mono<|by omega⟩
 obtain⟨x,rx,x1,x2,x3⟩:=hb.2 _ g (by omega) e2;exact⟨x,rx,x1,x2,hk.trans x3⟩
theorem Yq (r m:List Ak) (c:Int) (h:∀y∈m,¬(y.Page.Kind=1/\y.Page.Tx=c)):JS (r++m) c=JS r c:=by grind [Ut,JS]
theorem ZA (h:G5 d r) (hw:DI d.Flash 999999999):∃steps ok,M5 d=some (steps,ok)/\steps.length<=200/\(ok=false->steps=[])/\(ok=true->Kf 1 d r steps):=by
 have hv:=h.dev.st.vs;obtain⟨dead,d1,d2,d3⟩:=XZ h.dev;unfold M5;rw[d1];simp only[Aa]
 cases hd:dead with
 |cons b m=>
  rw[Ac (by grind [AY]:ln (b::m)>0),show gi (b::m) 0=some b from Ap (i:=0)];refine⟨_,_,rfl,by simp,(λhh=>by cases hh),λ_=>?_⟩;obtain⟨x,x1,x2,x3⟩:=d3 b (by rw[hd];simp);have hc:zP d.Flash b:=⟨x,x1,x2,λe=>by have:=hw x<|An (BK x1).2;omega⟩;have hs:O9 d.Flash (A8.mk 2 b 0<|bs []):= .inr ⟨rfl,hc⟩;obtain⟨w1,w2⟩:=VS h.dev.fl hc;have he:JZ d.Flash (A8.mk 2 b 0<|bs [])=VT d.Flash b:=by rfl
  have wp:∀g,AM g->J5 0 g.Blocks=((J5 0 d.Flash.Blocks).filter λy=>y.Block !=b)->(∀w:Int,DI d.Flash w->DI g (w+1))->∃x rx,Cc g=some (x,true)/\x.Flash=g/\Iu 1 d r x rx:=by
   intro g g1 g2 g3;obtain⟨d',u1,u2,u3,u4,u5,_,u6⟩:=AAl h x3 g1 g2;exact⟨d',_,u1,u2,u3,u4,u5,λy hy hk=>⟨y,(AI.1 hy).1,hk,rfl,rfl⟩,eA λy hy hk=>WX _ (AI.1 hy).1 hk,by rw[u2];exact g3,u6,eI (n:=200*1) λy hy=>WZ _ (AI.1 hy).1⟩
  refine⟨⟨_,hs,rfl⟩,λk g hk hg=>?_⟩;obtain⟨q,q1,q2⟩:=hg
  cases k with
  |zero=>
   rw[show q=d.Flash from q1]at q2
   rcases q2 with rfl|⟨s,s1,_,s2,s3,⟨s4,_⟩|⟨_,s4⟩⟩
   ·obtain⟨x,u1,u2,u3⟩:=(Iu.refl (n:=1) h).torn h.dev.fl rfl λ_ hh=>hh
    grind
   ·grind
   simp only[Mr,Ar]at s1;rw[<-s1]at s4
   exact wp g s2 s4 λw hh y hy=>by have:=s3 w hh y hy;omega
  |succ k=>grind [bK,Steps]
 |nil=>
  rw[show decide (ln ([]:List Int)>0)=false from rfl];obtain⟨v,v1⟩:=ZG h.dev;rw[v1];simp only[Aa]
  cases v with
  |false=>
   unfold Ns;rw[TT h.dev.st];simp only[Aa];obtain⟨b1,b2⟩:=dP hv
   rcases PN h.dev.fl h.dev.seqs (LA (A5 d.Store) d.Store.Next) (by unfold LA;simp) b2 b1 (bs [])with w|⟨steps,T,g,a,w1,w2,w3,w4,w5,w6,w7,w8,w9⟩
   ·grind
   rw[w2];simp only[Aa];have j:=(DD w7).2;have l:(Bz (EY d<|bs []) d.Tx T).length=T.length:=by unfold Bz;grind
   have o:BY d a.Chunk (bs [])=[]:=by rfl
   rw[o,Av,l]at j;refine⟨_,_,rfl,by omega,(λhh=>by cases hh),λ_=>b9 (PP w7) λk hk=>?_⟩;obtain⟨m,d',r',c1,c2,c3,c4,c5,rfl,cw,c6,c7,c8,c9⟩:=Va h b1 w3 w4 w5 w6 w7 w9 (λhh=>absurd (CB _) hh) k hk;have f:A5 d'.Store=A5 d.Store/\d'.Store.Next=d.Store.Next:=by
    by_cases e:k<steps.length
    ·obtain⟨e1,e2,_⟩:=GY h.dev c4 (by rw[c8 e]);exact⟨e1,e2⟩
    obtain⟨q,hq⟩:=(c9<|by omega).1;have hB:nX (Tx.mk d.Tx q<|LA (A5 d.Store) d.Store.Next)=true:=rfl;have f:=c4.ab
    grind [Ry,dQ,MD]
   have hX:∀y∈(BS steps<|BY d a.Chunk (bs [])++Bz (EY d<|bs []) d.Tx T).take k,y.Page.Kind=2/\y.Page.Tx=d.Tx:=λy hy=>by grind [Lf,Nv,cE]
   refine⟨d',_,by rw[c5];exact c1,by rw[c5];exact c3,⟨c4,c6,by grind⟩,f.1,f.2,λy hy hk=>?_,eA λy hy hk=>?_,by rw[c5];exact WU (n:=1) cw,λc hc=>?_,eI (n:=200*1) λy hy=>?_⟩
   ·grind
   ·rcases Ay.1 hy with hh|hh
    ·exact WX _ hh hk
    rw[(hX y hh).2,h.dev.tx];omega
   ·grind [Yq,Bj]
   rcases Ay.1 hy with hh|hh
   ·exact WZ _ hh
   have:=aX<|Lf _ _ _ y hh;rw[h.dev.seq]at this;omega
  |true=>
   simp only[Aj,Ad];obtain⟨vi,vi1⟩:=ZI h.dev;rw[vi1];simp only[Aa]
   cases decide (vi<0)with
   |true=>grind
   |false=>
    rcases ZM h.dev h.few vi with w|⟨steps,ps,g,w1,w2,w3,w4,w5,w6,w7⟩
    ·grind
    rw[w1];refine⟨steps,true,rfl,by omega,(λhh=>by cases hh),λ_=>b9 (PP w2) λk hk=>?_⟩;obtain⟨m,d',c1,c2,c3,c4,c5,c6,_,cw,c7⟩:=xY h w2 w4 w5 w6 k;refine⟨d',_,by rw[c4];exact c1,by rw[c4];exact c3,c5,c6.ab,c6.nx,λy hy hk=>?_,eA λy hy hk=>?_,by rw[c4];exact WU (n:=1) cw,c7,eI (n:=200*1) λy hy=>?_⟩
    ·rcases Ay.1 hy with hh|hh
     ·grind
     obtain⟨⟨_,_,z,z1,z2⟩,_⟩:=w6 _<|Lf _ _ _ _ hh
     grind [Yr]
    ·rcases Ay.1 hy with hh|hh
     ·exact WX _ hh hk
     have:=(w6 _<|Lf _ _ _ _ hh).1.1;omega
    rcases Ay.1 hy with hh|hh
    ·exact WZ _ hh
    have:=w7 _<|Lf _ _ _ _ hh;rw[h.dev.seq]at this;omega
theorem Oy (h:AM f):∃v:Int,Jy f=some v:=by
 obtain⟨v,v1,_⟩:=VN f h.cap (by have:=h.few;omega);exact⟨v,v1⟩
theorem ZB (h:G5 d r) (hw:DI d.Flash 999999000) (most:Int):∃d' all r',I7 d most=some (d',all)/\Iu 20 d r d' r'/\all.length<=4000/\Steps d.Flash all d'.Flash/\Kf 20 d r all:=by
 unfold I7;rw[IJ h.dev];simp only[Aa]
 have j:∀{n:Nat} {a:List A8},n<=20->Kf n d r a->Kf 20 d r a:=λhn hc=>⟨hc.1,λk g hk hg=>by
  obtain⟨x,rx,x1,x2,x3⟩:=hc.2 k g hk hg
  exact⟨x,rx,x1,x2,x3.mono hn⟩⟩
 obtain⟨b,h1,d',all,r',h2,h3,h4,h5,h6⟩:=A4 (body:=λs:List A8×Int×List Block×List Vol×List AZ×Int×Int×Int×Int=>Ef most s.1 s.2.1 s.2.2.1 s.2.2.2.1 s.2.2.2.2.1 s.2.2.2.2.2.1 s.2.2.2.2.2.2.1 s.2.2.2.2.2.2.2.1 s.2.2.2.2.2.2.2.2)
  (λ(o:List A8×Device) i=>(o.1,i,o.2.Flash.Blocks,o.2.Store.Vols,o.2.Store.Arena.Knots,o.2.Store.Next,o.2.Seq,o.2.Tx,o.2.Base)) 20
  (λi o=>o.1.length<=200*i/\∃r',Iu i d r o.2 r'/\Steps d.Flash o.1 o.2.Flash/\Kf i d r o.1)
  (λb=>∃d' all r',(b= .inr (d',all)\/b= .inl (all,d'.Flash.Blocks,d'.Store.Vols,d'.Store.Arena.Knots,d'.Store.Next,d'.Seq,d'.Tx,d'.Base))/\Iu 20 d r d' r'/\all.length<=4000/\Steps d.Flash all d'.Flash/\Kf 20 d r all)
  (λo i hi hs=>by
   obtain⟨all,e⟩:=o;obtain⟨l,r',hg,c,f⟩:=hs;simp only at l hg c f;have m:Device.mk (Flash.mk e.Flash.Blocks) (Store.mk e.Store.Vols (Arena.mk e.Store.Arena.Knots) e.Store.Next) e.Seq e.Tx e.Base=e:=rfl;have p:Flash.mk e.Flash.Blocks=e.Flash:=rfl;simp only[Ef];rw[m,p];obtain⟨v,v1⟩:=Oy hg.good.dev.fl;rw[v1,Ac (by omega:(i:Int)<20)];simp only[Al,Aa,MR]
   cases(bif decide ((i:Int)<most)then decide (v<12)else false)with
   |false=>
    exact .inr ⟨_,rfl,e,all,r',.inr rfl,hg.mono (by omega),by omega,c,j (by omega) f⟩
   |true=>
    obtain⟨steps,ok,c1,c2,_,c3⟩:=ZA hg.good (λx hx=>by have:=hg.wear _ hw x hx;omega);rw[c1];simp only[Aa]
    cases ok with
    |false=>
     exact .inr ⟨_,rfl,e,all,r',.inl rfl,hg.mono (by omega),by omega,c,j (by omega) f⟩
    |true=>
     obtain⟨d',r2,k1,k2,k3⟩:=(c3 rfl).full hg.good (by omega);rw[k1,Aa,AN (by omega),ad1]
     exact .inl ⟨(all++steps,d'),rfl,by simp;omega,r2,hg.trans k3,(HO _ _ _ _).2 ⟨_,c,k2⟩,uM hg c f<|c3 rfl⟩)
  (λo hs=>by simp_all [Ef];grind) (s:=([],d)) ⟨by simp,r,Iu.refl h,rfl,⟨⟨_,rfl⟩,λk g hk hg=>by
   obtain⟨q,q1,q2⟩:=hg;rw[List.take_nil]at q1;rw[show q=d.Flash from q1]at q2
   rcases q2 with rfl|⟨s,s1,_⟩
   ·obtain⟨x,u1,u2,u3⟩:=(Iu.refl (n:=0) h).torn h.dev.fl rfl λ_ hh=>hh
    grind
   simp at s1⟩⟩
 rw[h1]
 rcases h2 with rfl|rfl
 ·grind
 exact⟨d',all,r',rfl,h3,h4,h5,h6⟩
theorem vY {r:Int} (h:k<16):(DF K r)[k]?=some (Qd K r k):=by grind [DF]
theorem i8 (h:BU s) (vol:Int) (hk:k<16):∃c,Mi s vol (k:Int)=some c/\((Dw (A5 s) vol=none/\c=0)\/∃a,Dw (A5 s) vol=some a/\a[k]?=some c/\0<=c/\(c≠0->Cv (A5 s) c)):=by
 have hl:=h.len;unfold Mi
 rcases DM s (by omega) vol with⟨e,e2⟩|⟨i,v,e,e2,e3,_⟩
 ·grind [GG]
 rw[e];simp only[Aa];have hm:=An e2;have hr:=h.root _<|A0.2 ⟨v,hm,rfl⟩;rw[cF,Ap,e2,Aa,XX _ (by have:=h.few;omega) h.ar hr hk];have hg:=IY h.asc hm;rw[e3]at hg;have h0:=lA h.ar hr _<|Zi hk;exact⟨_,rfl,.inr ⟨_,hg,vY hk,h0,λb=>⟨by omega,_,A0.2 ⟨v,hm,rfl⟩,Zi hk⟩⟩⟩
theorem VY (h:G5 d r) (vol:Int) (hk:k<16):(Dw (A5 d.Store) vol=none/\EK r d.Store vol (k:Int)=some (bs [],false))\/
  ∃a c,Dw (A5 d.Store) vol=some a/\a[k]?=some c/\Mi d.Store vol (k:Int)=some c/\((c=0/\EK r d.Store vol (k:Int)=some (bs [],true))\/(0<c/\Cv (A5 d.Store) c/\∃u,Bj r c=some u/\EK r d.Store vol (k:Int)=some (u,true))):=by
 have hl:=h.dev.st.len;obtain⟨c,c1,c2⟩:=i8 h.dev.st vol hk;unfold EK;rw[c1]
 rcases DM d.Store (by omega) vol with⟨e,e2⟩|⟨i,v,e,e2,e3,_⟩
 ·grind [GG]
 have hg:=IY h.dev.st.asc<|An e2;rw[e3]at hg
 rcases c2 with⟨c2,_⟩|⟨a,c2,c3,c4,c5⟩
 ·grind
 rw[e];simp only[Aa];rw[cF];right;by_cases e0:c=0
 ·grind
 rw[show(c==0)=false by simpa using e0];have b:=c5 e0;obtain⟨u,hu⟩:=h.data.data c b;obtain⟨w,ok,t1,t2⟩:=iY h.dev.pages c
 grind
theorem Z3 (h:EE d r) {a:List BV} {b:ByteArray} (hp:Cn d q=some (a,b,0)):ABI q:=by
 obtain⟨v,a1,a2⟩:=NX q
 grind [Cn]
def mC (r r':List Ak) (c:Int) (a:ByteArray):Prop:=(∀y∈r',y.Page.Kind=1->(∃z∈r,z.Page.Kind=1/\z.Page.Tx=y.Page.Tx/\z.Page.Text=y.Page.Text)\/(L a≠ []/\y.Page.Tx=c/\y.Page.Text=a))/\DQ r'<=DQ r+1/\CZ r'<=CZ r+10
theorem pS (h:G5 d r) {a:ByteArray} (hx:Yf d r q x a):Ck d [x] a=some ([],false)\/∃steps d' r',Ck d [x] a=some (steps,true)/\steps.length<=10/\Hg d steps=some d'/\G5 d' r'/\
  (A5 d'.Store,d'.Store.Next)=(Cd (A5 d.Store) d.Store.Next x).getD (A5 d.Store,d.Store.Next)/\d.Store.Next<=d'.Store.Next/\d'.Store.Next<=d.Store.Next+1/\mC r r' x.Chunk a/\Xz d.Flash d'.Flash/\Steps d.Flash steps d'.Flash/\((∀c,Cv (A5 d.Store) c->Bj r' c=Bj r c)/\(L a≠ []->Bj r' x.Chunk=X6 a))/\1<=steps.length/\∀k g,k<steps.length->Wz d.Flash steps k g->∃y ry,Cc g=some (y,true)/\y.Flash=g/\As d r y ry/\mC r ry x.Chunk a:=by
 obtain⟨x1,x2,xv,x3⟩:=hx;have h6:=h.dev.st.nx
 have i:∀z∈ [x],EC z=true:=λz hz=>by grind
 rcases PN h.dev.fl h.dev.seqs [x] (by simp) (by simp) i a with w|⟨steps,T,g,b,w1,w2,w3,w4,w5,w6,w7,w8,w9⟩
 ·exact .inl w
 right;have j:b=x:=by simpa using w1.symm
 subst j;have o:=(DD w7).2;have h2:(Bz (EY d a) d.Tx T).length=T.length:=by unfold Bz;grind
 have h7:(BY d b.Chunk a).length<=1:=by grind [BY]
 rw[A3,h2]at o
 have t:L a≠ []->¬Cv (A5 d.Store) b.Chunk:=λht h3=>by
  rcases x3 with⟨x3,_⟩|⟨_,x4,_⟩
  ·exact ht x3
  have:=Uq h.dev.st h3;omega
 have tk:∀k c,Cv (A5 d.Store) c->Bj (r++(BS steps<|BY d b.Chunk a++Bz (EY d a) d.Tx T).take k) c=Bj r c:=λk c hc=>by grind [Yq,Lf,Nv,Bj,BY]
 have tn:L a≠ []->Bj (r++(BS steps<|BY d b.Chunk a++Bz (EY d a) d.Tx T).take steps.length) b.Chunk=X6 a:=λe=>by
  rw[AF (by unfold BS;grind),show BY d b.Chunk a=[Page.mk 1 d.Seq b.Chunk 0 1 a] by grind [BY]]
  cases steps with
  |nil=>grind
  |cons s ss=>
   show Bj (r++Ak.mk s.Block s.Leaf (Page.mk 1 d.Seq b.Chunk 0 1 a)::BS ss (Bz (EY d a) d.Tx T)) b.Chunk=_;unfold Bj;rw[List.append_cons,cL _ _ (λy hy=>by have:=Nv (Lf ss _ _ y (by rw[Et];exact hy));omega),Ob,Bv ⟨rfl,rfl⟩];rfl
 have fw:∀k,mC r (r++(BS steps<|BY d b.Chunk a++Bz (EY d a) d.Tx T).take k) b.Chunk a:=λk=>by
  have cP:∀y∈r++(BS steps<|BY d b.Chunk a++Bz (EY d a) d.Tx T).take k,y∈r\/y.Page∈BY d b.Chunk a++Bz (EY d a) d.Tx T:=λy hy=>(Ay.1 hy).imp id<|Lf _ _ _ y
  refine⟨λy hy hk=>?_,eA (n:=1) λy hy hk=>?_,eI (n:=10) λy hy=>?_⟩
  ·grind [Nv,BY]
  ·rcases cP y hy with hh|hh
   ·exact WX _ hh hk
   rcases Ay.1 hh with hh|hh
   ·grind [BY]
   rw[cE hh,h.dev.tx];omega
  rcases cP y hy with hh|hh
  ·exact WZ _ hh
  have:=aX hh;rw[h.dev.seq]at this;omega
 have cut:∀k g,k<steps.length->Wz d.Flash steps k g->∃y ry,Cc g=some (y,true)/\y.Flash=g/\As d r y ry/\mC r ry b.Chunk a:=λk g hk hg=>by
  obtain⟨m,y,ry,c1,c2,c3,c4,c5,hr',cw,c6,c7,c8,_⟩:=Va h i w3 w4 w5 w6 w7 w9 t k (by omega);obtain⟨e1,e2,_⟩:=GY h.dev c4 (by rw[c8 hk]);subst hr';have h4:As d r y (r++(BS steps<|BY d b.Chunk a++Bz (EY d a) d.Tx T).take k):=⟨⟨c4,c6,by rw[e1];exact c7⟩,e1,e2,(fw k).2.1,by grind [WU],tk k⟩;obtain⟨q,q1,q2⟩:=hg;have:=Mq q1 c1;subst this
  rcases q2 with rfl|⟨s,s1,_,s2,s3,⟨_,s4⟩|⟨s4,_⟩⟩
  ·grind
  ·obtain⟨z,z1,z2,z3⟩:=h4.torn s2 (by rw[c5];exact s4) (by rw[c5];exact s3)
   grind
  grind [PP]
 obtain⟨m,d',r',c1,c2,c3,c4,c5,hr',cw,c6,c7,_,c9⟩:=Va h i w3 w4 w5 w6 w7 w9 t steps.length<|Ax _;rw[<-c5]at cw;rw[Et]at c1;have u:Steps d.Flash steps d'.Flash:=by rw[c5];exact c1
 have v:mC r r' b.Chunk a:=by grind
 have tt:(∀c,Cv (A5 d.Store) c->Bj r' c=Bj r c)/\(L a≠ []->Bj r' b.Chunk=X6 a):=by grind
 obtain⟨⟨qn,hq⟩,c10⟩:=c9 rfl;have hB:¬nX (Tx.mk d.Tx qn [b])=true:=by grind [nX]
 have f:=c4.ab;rw[hq,Ry,AT hB,Yw,<-h.dev.ab]at f;have h5:Cw (A5 d.Store) d.Store.Next [b]=Cd (A5 d.Store) d.Store.Next b:=by rfl
 simp only[h5]at f;have h0:=OK h.dev c1 (by omega) c3
 cases l:Cd (A5 d.Store) d.Store.Next b with
 |none=>
  rw[l]at f;have e1:A5 d'.Store=A5 d.Store:=BM Prod.fst f;have e2:d'.Store.Next=d.Store.Next:=BM Prod.snd f;exact⟨steps,d',r',w2,by omega,h0,⟨c4,c6,by rw[e1];exact c7⟩,by grind,by omega,by omega,v,cw,u,tt,by omega,cut⟩
 |some p=>
  obtain⟨l',nx'⟩:=p;rw[l]at f;have e1:A5 d'.Store=l':=BM Prod.fst f;have e2:d'.Store.Next=nx':=BM Prod.snd f;obtain⟨v1,v2,v3⟩:=Ww l x2
  have hz:∀c,Cv l' c->c=b.Chunk->b.Kind≠4->False:=λc hc h8 hk=>by
   have:b.Chunk=0:=by grind [EC]
   have:=hc.1;omega
  have h1:b.Chunk<=d.Store.Next:=by
   by_cases hk:b.Kind=4
   ·rcases x3 with⟨_,x4⟩|⟨_,x4,_⟩
    ·have:=Uq h.dev.st (x4 hk).1;omega
    omega
   grind [EC]
  refine⟨steps,d',r',w2,by omega,h0,⟨c4,c6,?_⟩,by grind,by omega,by omega,v,cw,u,tt,by omega,cut⟩;rw[e1]
  rcases x3 with⟨x3,x4⟩|⟨x3,x4,x5,x6,x7⟩
  ·refine c7.mono λc hc=>?_
   grind
  exact(c10 _ x6 x5 x7).mono v1
def AAf (d d':Device) (v:Int):Prop:=∀p∈A5 d'.Store,(∃p'∈A5 d.Store,p'.1=p.1)\/p.1=v
theorem j6 (h:A5 d'.Store=A5 d.Store) (v:Int):AAf d d' v:=λp hp=> .inl ⟨p,by grind,rfl⟩
structure mK (c:FM):Prop where
 i0:0<=c.i_
 i1:c.i_<=(c.b_.length:Int)
 len:c.b_.length<=1048576
theorem zU (a:Int):0<=ban .i64 a 255/\ban .i64 a 255<=255:=by
 unfold ban;have h:(BitVec.ofInt IntKind.i64.bits a&&&BitVec.ofInt IntKind.i64.bits 255).toNat<=255:=by
  refine Ir Nat.and_le_right ?_;exact Nat.le_of_eq rfl
 grind [MV]
theorem VQ {c:FM} (h:mK c):∃v c',HD c=some (v,c')/\mK c'/\0<=v/\v<=255:=by
 have:=h.i0;have:=h.i1;have:=h.len;unfold HD;by_cases e:c.i_<ln c.b_
 ·rw[Ac e,Al,Kd h.i0<|by grind [AY]];rw[AY]at e;rw[Aa,BW (a:=c.i_) (by omega)<|by omega];exact⟨_,_,rfl,⟨by grind,by grind,h.len⟩,zU _⟩
 rw[Ah e,Ad];exact⟨_,_,rfl,⟨h.i0,h.i1,h.len⟩,zU _⟩
theorem ADb {a n:Int} (h0:0<=a) (hn:0<n):∃v,rm .i64 a n=some v/\0<=v/\v<n:=by
 unfold rm;rw[AT (by omega),JY h0];exact⟨_,rfl,Int.emod_nonneg _ (by omega),Int.emod_lt_of_pos _ hn⟩
theorem ABH {c:FM} (h:mK c) (n:Int):∃v c',OH c n=some (v,c')/\mK c'/\0<=v/\(0<n->v<n):=by
 unfold OH;by_cases h0:n<=0
 ·simp_all;grind
 by_cases h1:n<=256
 ·grind [VQ,ADb]
 rw[Ah h1,Ad];obtain⟨v1,c1,a1,a2,a3,a4⟩:=VQ h;obtain⟨v2,c2,b1,b2,b3,b4⟩:=VQ a2;obtain⟨v3,c3,d1,d2,d3,d4⟩:=VQ b2;obtain⟨v4,c4,e1,e2,e3,e4⟩:=VQ d2;rw[a1,Aa,b1,Aa,d1,Aa,e1,Aa,Oe (by omega) (by omega),Oe (by omega) (by omega),Oe (by omega) (by omega),BW (a:=v1*16777216) (b:=v2*65536) (by omega) (by omega),BW (a:=v1*16777216+v2*65536) (b:=v3*256) (by omega) (by omega),BW (a:=v1*16777216+v2*65536+v3*256) (b:=v4) (by omega)<|by omega];obtain⟨w,w1,w2,w3⟩:=ADb (a:=v1*16777216+v2*65536+v3*256+v4) (n:=n) (by omega)<|by omega
 grind
theorem ABj {c:FM} (h:mK c):mK (FM.mk c.b_ c.i_ c.h_):=h
theorem ADN (h:code.length<=1048576):∃c,TN code=some c/\mK c:=by
 unfold TN;obtain⟨b,h1,_⟩:=A4 (body:=λs:Int×Int=>KV code s.1 s.2) (λ(o:Int) i=>(o,i)) code.length (λ_ _=>True) (λ_=>True)
  (λo i hi _=>by
   have hx:=Ab hi;simp only[KV,GR,Ac hi,Al,Aa,Ap,hx];rw[ad1 (i:=i)<|by omega]
   cases decide ((i:Int)<4000)with
   |true=>grind
   |false=>grind)
  (λo _=>⟨o,by grind [GR,KV],trivial⟩) (s:=ad 36501<|ln code) trivial
 rw[h1];exact⟨_,rfl,⟨GO _,by grind,h⟩⟩
theorem lG (h:3<=n/\n<=10):AM (Flash.mk (List.replicate n (Block.mk false 0 Ky))):=by
 refine⟨by simpa using h,λb hb=>?_⟩
 grind [lH]
theorem TR (h:3<=n/\n<=10):M2 (n:Int)=some (Flash.mk (List.replicate n (Block.mk false 0 Ky)),true):=by
 unfold M2;rw[CU,Ac<|by omega];simp only[Aa,Aj,Ad];have q:=nV (body:=λs:Int×List Block=>G8 (n:Int) s.1 s.2) n (λ_=>Block.mk false 0 Ky)
  (λi a hi ho=>by grind [R9,AN,ad1,G8])
  (λa=>by grind [G8])
 rw[q,Aa,LB,ES]
theorem cC:∀(n:Nat) (i:Int),J5 i (List.replicate n (Block.mk false 0 Ky))=[]
 |0,i=>rfl
 |n+1,i=>by
  rw[List.replicate_succ,J5,cC n (i+1),Uf i 0 _ (λy hy=>by rw[Dp hy];simp)];rfl
theorem mG (h:3<=n/\n<=10):∃d,Nr (n:Int)=some (d,true)/\G5 d []/\A5 d.Store=[]/\d.Store.Next=1/\d.Flash=Flash.mk (List.replicate n (Block.mk false 0 Ky)):=by
 have hP:=lG h;have b:SR (J5 0 (Flash.mk<|List.replicate n<|Block.mk false 0 Ky).Blocks) []:=by
  rw[cC];exact⟨List.Pairwise.nil,λ_=>rfl⟩
 obtain⟨d,u1,u2,u3⟩:=Ls hP b;have a:=u2.ab;have:MD (Cm<|AK [])=([],1):=rfl;rw[this]at a
 injection a with e1 e2
 refine⟨d,?_,⟨u2,⟨⟨by simp,by simp,by simp,by simp,by simp,by simp⟩,List.Pairwise.nil,⟨λy hy=>by cases hy⟩⟩,?_⟩,e1,e2,u3⟩
 ·grind [TR,Nr]
 rw[e1];refine⟨λc hc=>?_,λc c' hc=>?_⟩
 ·obtain⟨_,p,hp,_⟩:=hc;cases hp
 obtain⟨_,p,hp,_⟩:=hc;cases hp
theorem iC (h:code.length<=1048576):∃p,LQ code=some p/\p.length=12/\∀x∈p,0<=x/\x<10000:=by
 unfold LQ;obtain⟨c,c1,c2⟩:=ADN h;rw[c1];simp only[Aa];obtain⟨v,c',b1,b2,_⟩:=VQ c2;rw[b1];simp only[Aa];obtain⟨a,h1,h2,h3⟩:=A4 (body:=λs:List Int×Int×List Int×Int×Int=>Iy s.1 s.2.1 s.2.2.1 s.2.2.2.1 s.2.2.2.2) (λ(o:List Int×FM) i=>(o.1,i,o.2.b_,o.2.i_,o.2.h_)) 12
  (λi o=>mK o.2/\o.1.length=i/\∀x∈o.1,0<=x/\x<10000) (λa=>a.length=12/\∀x∈a,0<=x/\x<10000)
  (λo i hi hs=>by
   obtain⟨p,cu⟩:=o;obtain⟨k1,k2,k3⟩:=hs;simp only at k1 k2 k3;simp only[Iy];rw[cT];obtain⟨w,c3,w1,w2,w3,w4⟩:=ABH (ABj k1) 10000;rw[w1,Aa,AN (by simp;omega),Aa,ad1];refine .inl ⟨(p++ [w],c3),rfl,w2,by simp;omega,λx hx=>?_⟩
   grind)
  (λo hs=>⟨o.1,by rfl,hs.2⟩) (s:=([],c')) ⟨b2,rfl,λx hx=>by cases hx⟩
 grind
def SE (a:List Shelf):Prop:=a.length<=1048576/\∀x∈a,x.Texts.length<=1048576
theorem dV (d:Device) (h:aN d.Flash r) (hs:Jk d.Store<=1048576) (id:Int) (k:Nat) (hk:k<16):∃u ok,EK r d.Store id (k:Int)=some (u,ok)/\Oo d id (k:Int)=some (u,ok):=by
 unfold Jk Xv at hs;have hl:=UY (z:=VR) (l:=d.Store.Arena.Knots);have ha:PL d.Store.Arena:=by unfold PL;omega
 unfold EK Oo;obtain⟨v,h1,h2,h3⟩:=Tw d.Store id (by omega);rw[h1,h2];simp only[Aa]
 cases decide (v<0)with
 |true=>grind
 |false=>
  obtain⟨c,c1,c2⟩:=pP d.Store (by omega) ha id k hk;rw[c1,c2];simp only[Aa]
  cases c==0 with
  |true=>grind
  |false=>
   obtain⟨u,ok,t1,t2⟩:=UW h c
   grind
theorem VO (d:Device) (hz:LD d<=1048576):∃m,EM d=some m/\Gy d=some m:=by
 unfold LD at hz;obtain⟨r,hr⟩:=g7 d.Flash (by omega);have hs:Jk d.Store<=1048576:=by omega
 have hv:d.Store.Vols.length<=1048576:=by grind [Jk]
 unfold EM Gy;rw[hr.s];obtain⟨m,h1,h2,_⟩:=ME (body:=λs:List Shelf×Int=>CT d r s.1 s.2) (body':=λs:List Shelf×Int=>E6 d s.1 s.2) (λ(o:List Shelf) i=>(o,i)) (λ(o:List Shelf) i=>(o,i)) d.Store.Vols.length (λi o=>o.length=i) (λ_=>True)
  (λo i hi ho=>by
   have hg:d.Store.Vols[i]?=some d.Store.Vols[i]:=Ab hi;simp only[CT,E6,GR,Ac hi,Al,Ap,hg,Aa];obtain⟨l,q1,q2,q3⟩:=ME (body:=λs:Int×List ByteArray=>Ez d r d.Store.Vols[i] s.1 s.2) (body':=λs:Int×List ByteArray=>Gk d d.Store.Vols[i] s.1 s.2) (λ(o:List ByteArray) k=>(k,o)) (λ(o:List ByteArray) k=>(k,o)) 16 (λk o=>o.length=k) (λ_=>True)
    (λu k hk hu=>by
     obtain⟨t,ok,g1,g2⟩:=dV d hr hs d.Store.Vols[i].Id k hk
     grind [AN,ad1,Ez,Gk])
    (λu hu=>⟨u,by rfl,by rfl,trivial⟩) (s:=[]) rfl
   grind [AN,ad1])
  (λo ho=>⟨o,by grind [GR,CT],by grind [GR,E6],trivial⟩) (s:=[]) rfl
 grind
theorem uR (h:BU s):Jk s<=1048576:=by
 have h1:=h.len;have h2:=h.small;have a:∀l:List AZ,(∀k∈l,k.Kids.length=4)->(l.map VR).sum=4*l.length:=by
  intro l
  induction l with
  |nil=>intro _;rfl
  |cons k l ih=>grind [VR]
 have:=a s.Arena.Knots (λk hk=>by
  obtain⟨i,hi,rfl⟩:=Aw hk;have:=(F6.1 h.ar i hi).1
  grind [Oh])
 unfold Jk Xv zl;omega
theorem n9 (h:G5 d r) (vol:Int) (hk:k<16):Oo d vol (k:Int)=EK r d.Store vol (k:Int):=by
 obtain⟨u,ok,h1,h2⟩:=dV d h.dev.scan (uR h.dev.st) vol k hk;rw[h1,h2]
theorem YH (h:BU s) {live:List Int} (hl:Fg s=some live):JM s=some live:=by
 obtain⟨l,e1,e2,_,_⟩:=VP s (by have:=h.len;omega)<|gN h
 grind
theorem l9 (h:EE d r) {live:List Int} (hl:Fg d.Store=some live) (l2:asc live) (l4:live.length<=16777216) (a b:Int):XV d.Flash d.Store a b=some ((cn r.length (λj=>(Ca r live a)[j]?.getD false&&bk r b j):Nat):Int)/\Gj d.Flash d.Store a b=some ((cn r.length (λj=>(Ca r live a)[j]?.getD false&&bk r b j):Nat):Int):=by
 obtain⟨n,n1,n2⟩:=WG h.scan d.Store (YH h.st hl) l2 l4 a b;have c:=Yk r (Ca r live a) b h.scan.len<|IQ _ _ _;have e:Ca r live a=live.foldl (ZQ r) (r.map<|CY a):=rfl;rw[e]at c;rw[n1]at c;unfold XV;rw[h.scan.s,hl];simp only[Aa];rw[LT r live _ h.scan.len l4]
 grind
theorem ABe (h:EE d r) (hy:y∈r):FX y.Page:=by
 obtain⟨b,x,g1,g2,_,g3⟩:=h.scan.page y hy;obtain⟨_,k1⟩:=BK g1;obtain⟨_,k2⟩:=BK g2;have hx:=h.fl.text b (An k1) x<|An k2;obtain⟨p,ok,m1,_,_,m2⟩:=H6 x.Text (by omega);rw[g3]at m1
 injection m1 with m1
 obtain⟨v,q1,q2⟩:=SJ p
 grind
theorem ADZ (hc:IC g) (ss:List A8) (hs:ss.length<=1000) (p:Page) (b:Int):
  (∃s g',CA g ss p=some (g',ss++ [s],true)/\IC g'/\Cp (EV.mk g ss) p b=some (if(s.Block==b)=true then(false,EV.mk g ss)else(true,EV.mk g' (ss++ [s]))))\/
  (∃g' st,CA g ss p=some (g',st,false)/\∃w,Cp (EV.mk g ss) p b=some (false,w)):=by
 obtain⟨t,ok,t1,t2⟩:=WD p;obtain⟨bb,l,room,p1,p2,p3⟩:=Z5 g hc;unfold CA Cp;rw[t1,t2,p1,p2]
 cases ok with
 |false=>simp
 |true=>
  cases room with
  |false=>simp
  |true=>
   obtain⟨g2,v,g1,g3,g4⟩:=Si g (A8.mk 1 bb l t) hc;have a:IC g2:=by grind [Tu.cap]
   simp only[Aj,Ad,Aa,g1,g3];rw[AN<|by grind]
   cases v with
   |true=>
    refine .inl ⟨A8.mk 1 bb l t,g2,rfl,a,?_⟩
    cases hb:(bb==b)with
    |true=>rfl
    |false=>rfl
   |false=>
    refine .inr ⟨g2,_,rfl,?_⟩
    cases hb:(bb==b)with
    |true=>grind
    |false=>simp
abbrev MvS:=Int×List A8×List Block
def ZP (sq:Int) (y:Ak):Page:=Page.mk 1 sq y.Page.Tx 0 1 y.Page.Text
noncomputable def mv (b:Int):List Ak->MvS->Option (Option MvS)
 |[],o=>some (some o)
 |y::ys,o=>(CA (Flash.mk o.2.2) o.2.1 (ZP o.1 y)).bind λv=>if v.2.2=true then(match v.2.1.getLast? with
  |some s=>if(s.Block==b)=true then some none else mv b ys (o.1+1,v.2.1,v.1.Blocks)
  |none=>some none)else some none
theorem xU (b:Int):∀(xs ys:List Ak) (o:MvS),mv b (xs++ys) o=(mv b xs o).bind λq=>match q with
  |some o'=>mv b ys o'
  |none=>some none
 |[],ys,o=>rfl
 |x::xs,ys,o=>by
  simp only[BX,mv]
  cases CA (Flash.mk o.2.2) o.2.1 (ZP o.1 x)with
  |none=>rfl
  |some v=>
   simp only[Aa];split
   ·split
    ·split
     ·rfl
     exact xU b xs ys _
    rfl
   rfl
def MvI (m:Nat) (o:MvS):Prop:=IC (Flash.mk o.2.2)/\o.2.1.length<=m/\0<=o.1/\o.1<=1000000001+m
theorem nQ {o:MvS} (h:MvI m o) (hm:m<=1000):
  (∃s g',CA (Flash.mk o.2.2) o.2.1 (ZP o.1 y)=some (g',o.2.1++ [s],true)/\(s.Block==b)=false/\(∀ys,mv b (y::ys) o=mv b ys (o.1+1,o.2.1++ [s],g'.Blocks))/\MvI (m+1) (o.1+1,o.2.1++ [s],g'.Blocks)/\Cp (EV.mk (Flash.mk o.2.2) o.2.1) (ZP o.1 y) b=some (true,EV.mk g' (o.2.1++ [s])))\/
  ((∀ys,mv b (y::ys) o=some none)/\(∃w,Cp (EV.mk (Flash.mk o.2.2) o.2.1) (ZP o.1 y) b=some (false,w))/\((∃s g',CA (Flash.mk o.2.2) o.2.1 (ZP o.1 y)=some (g',o.2.1++ [s],true)/\(s.Block==b)=true)\/∃g' st,CA (Flash.mk o.2.2) o.2.1 (ZP o.1 y)=some (g',st,false))):=by
 obtain⟨h1,h2,h3,h4⟩:=h
 rcases ADZ h1 o.2.1 (by omega) (ZP o.1 y) b with⟨s,g',a1,a2,a3⟩|⟨g',st,a1,w,a2⟩
 ·cases hb:(s.Block==b)with
  |true=>grind [mv]
  |false=>
   rw[hb]at a3;refine .inl ⟨s,g',a1,hb,λys=>by grind [mv],⟨a2,?_,?_,?_⟩,by rw[a3];rfl⟩
   ·grind
   ·omega
   omega
 grind [mv]
theorem xO:∀(xs:List Ak) {m:Nat} {o:MvS},MvI m o->m+xs.length<=1000->∃v,mv b xs o=some v/\∀o',v=some o'->MvI (m+xs.length) o'
 |[],m,o,h,_=>⟨some o,rfl,λo' e=>by grind⟩
 |x::xs,m,o,h,hm=>by
  rw[AD]at hm
  rcases nQ (b:=b) (y:=x) h (by omega)with⟨s,g',a1,a2,a3,a4,a5⟩|⟨a1,_⟩
  ·obtain⟨v,v1,v2⟩:=xO xs a4 (by omega);exact⟨v,by rw[a3,v1],λo' e=>by grind⟩
  simp_all
def Kk (b i:Int) (nd:List Bool) (r:List Ak):List Ak:=((nd.zip r).filter λq=>q.1&&(q.2.Block==b)&&(q.2.Leaf==i)).map Prod.snd
theorem qH (hr:r.length<=40) (hk:∀y∈r,y.Page.Kind=1->y.Page.Count=1/\y.Page.Part=0) (d:nd.length=r.length) (hn:∀(j:Nat) y,r[j]?=some y->nd[j]?=some true->y.Page.Kind=1) (b i:Int):∀(n j:Nat),j+n=r.length->∀{m:Nat} {o:MvS},MvI m o->m+n<=1000->
  Ai (λs:List A8×Int×Int×List Block=>Ey b r nd i s.1 s.2.1 s.2.2.1 s.2.2.2) (o.2.1,o.1,(j:Int),o.2.2)=(mv b (Kk b i (nd.drop j) (r.drop j)) o).map λq=>match q with
   |some o'=> .inl (o'.2.1,o'.1,o'.2.2)
   |none=> .inr (.inr (.inr ([],false)))
 |0,j,hj,m,o,ho,hm=>by
  rw[Au];simp only[Ey,GR];rw[cF,List.drop_of_length_le (by omega),List.drop_of_length_le (by omega)];rfl
 |n+1,j,hj,m,o,ho,hm=>by
  have a:j<r.length:=by omega
  have hx:=Ab a;have c:=Ab (show j<nd.length by omega);have hd:nd.drop j=nd[j]::nd.drop (j+1):=A6 (by omega);have e:r.drop j=r[j]::r.drop (j+1):=A6 a
  have go:∀{m':Nat} {o':MvS},MvI m' o'->m'+n<=1000->_:=λ{m' o'} h1 h2=>qH hr hk d hn b i n (j+1) (by omega) (m:=m') (o:=o') h1 h2
  rw[Au];simp only[Ey,Da a,Ap,hx,c,Aa];rw[ad1,hd,e];have es:Kk b i (nd[j]::nd.drop (j+1)) (r[j]::r.drop (j+1))=if(nd[j]&&(r[j].Block==b)&&(r[j].Leaf==i))=true then r[j]::Kk b i (nd.drop<|j+1) (r.drop<|j+1)else Kk b i (nd.drop<|j+1) (r.drop<|j+1):=by grind [List.zip_cons_cons,Kk]
  rw[es]
  cases f:nd[j]with
  |false=>
   exact go ho<|by omega
  |true=>
   cases hb:(r[j].Block==b)with
   |false=>
    simp only[bne,hb,BQ,Al,Aa,Bool.false_and,Mc,nZ];exact go ho<|by omega
   |true=>
    simp only[bne,hb,Aj,Ad,Aa,Bool.true_and]
    cases g:(r[j].Leaf==i)with
    |false=>
     exact go ho<|by omega
    |true=>
     simp only[Aj,Ad,Co];have h1:=hn j r[j] hx (by rw[c,f]);obtain⟨h2,h3⟩:=hk r[j] (Aq a) h1;have ep:Page.mk r[j].Page.Kind o.1 r[j].Page.Tx r[j].Page.Part r[j].Page.Count r[j].Page.Text=ZP o.1 r[j]:=by rw[h1,h2,h3];rfl
     rw[ep];obtain⟨c1,c2,c3,c4⟩:=ho
     rcases nQ (b:=b) (y:=r[j]) ⟨c1,c2,c3,c4⟩ (by omega)with⟨s,g',a1,a2,a3,a4,_⟩|⟨a1,_,⟨s,g',a2,a3⟩|⟨g',st,a2⟩⟩
     ·rw[a1,a3];simp only[Aa,Aj,Ad];rw[AY,A3,Cl,BD,show((o.2.1.length+1:Nat):Int)-1=(o.2.1.length:Int) by omega,Eh];simp only[Aa,a2,Ad];rw[BW];exact go a4<|by omega
     ·grind [AY,BD,Eh]
     grind
theorem Xx (k:IntKind) (n:Nat) (h:n<=12) (hk:k= .u8\/k= .u64):k.wrap (n:Int)=(n:Int):=by
 have:n=0\/n=1\/n=2\/n=3\/n=4\/n=5\/n=6\/n=7\/n=8\/n=9\/n=10\/n=11\/n=12:=by omega
 rcases hk with rfl|rfl<;>rcases this with rfl|rfl|rfl|rfl|rfl|rfl|rfl|rfl|rfl|rfl|rfl|rfl|rfl<;>rfl
set_option maxRecDepth 20000 in
theorem aK (n:Nat) (h:n<=12):∃v,Vu (IntKind.u64.wrap (n:Int))=some v:=by
 rw[Xx _ n h<|.inr rfl];unfold Vu Yy;generalize hT:(bs _)=T;have a:13<=(L T).length:=by rw[<-hT,CB];decide
 rw[cF,Aa,cF,Aa,cF,Aa,Xx _ n h<|.inl rfl,DT (i:=n) _<|by omega];exact⟨_,rfl⟩
theorem bP {γ:Type} (a:γ->Int) (l:List γ) (hl:l.length<=12):∃r,Ki (Ml a) l=some r/\srt a r/\Br a l r:=by
 obtain⟨v,hv⟩:=aK l.length hl;obtain⟨r,h1,h2,h3⟩:=HI a [] l [] (by simp;omega);unfold Ki
 grind [AY,Au,BD,DJ,EX]
def gM (l:List Ak):Prop:=l.Pairwise λx y=>x.Page.Tx≠y.Page.Tx
theorem YW {l:List Ak} {p:Ak->Bool} (hl:gM l) (hu:∀x∈l,∀y∈l,p x=true->p y=true->x=y) (hy:y∈l) (hp:p y=true):l.filter p=[y]:=by
 induction l with
 |nil=>cases hy
 |cons x l ih=>
  have h1:=BO.1 hl
  have hu':∀a∈l,∀c∈l,p a=true->p c=true->a=c:=λa ha c hc=>hu a (JX _ ha) c<|JX _ hc
  cases hx:p x with
  |true=>grind [BE]
  |false=>
   rw[HQ<|by simp[hx]]
   rcases DE.1 hy with rfl|hy
   ·grind
   exact ih h1.2 hu' hy
theorem vR {c:List Ak} (ha:gM a) (hc:gM c) (hm:∀y,y∈a↔y∈c) (hu:∀x∈a,∀y∈a,x.Leaf=y.Leaf->x=y):Br Bh a c:=by
 intro k
 have e1:∀x,(Bh x==k)=true↔x.Leaf=k:=λx=>by rw[JW];rfl
 by_cases h:∃y∈a,y.Leaf=k
 ·obtain⟨y,y1,y2⟩:=h
  rw[YW ha (λx hx z hz p q=>hu x hx z hz<|by grind) y1<|(e1 y).2 y2,
   YW hc (λx hx z hz p q=>hu x ((hm x).2 hx) z ((hm z).2 hz)<|by grind) ((hm y).1 y1) ((e1 y).2 y2)]
 grind [BE]
def Jm (r:List Ak) (b:Int) (live:List Int):List Ak:=live.filterMap λc=>match Qe c r r.length with
 |some j=>if bk r b j=true then r[j]? else none
 |none=>none
theorem AAu (h:aN f r) {live:List Int} (a:JM s=some live) (hl:live.length<=16777216) (b:Int):RF f s b=some (Jm r b live):=by
 unfold RF;rw[a];simp only[Aa];obtain⟨u,h1,h2⟩:=A4 (body:=λq:List Ak×Int=>Gg f b live q.1 q.2) (λ(u:List Ak) i=>(u,i)) live.length (λi u=>u=Jm r b (live.take i)) (λu=>u=Jm r b live)
  (λu i hi hu=>by
   have hg:live[i]?=some live[i]:=Ab hi;obtain⟨o,o1,o2⟩:=VC f r h.i h.len h.srt live[i];have ho:o=Qe live[i] r r.length:=Vy o2<|NO _ _ _<|Ax _;have c:u.length<=i:=by grind [Jm]
   have et:live.take (i+1)=live.take i++ [live[i]]:=by simp
   refine .inl ?_;simp only[Gg,Da hi,Ap,hg,Aa,o1]
   cases ht:Qe live[i] r r.length with
   |none=>grind [ad1,Jm]
   |some j=>grind [NN,AN,ad1,JP,bk,Jm])
  (λu hu=>⟨u,by simp[CM,Gg],by grind⟩) (s:=[]) (by simp[Jm])
 grind
theorem Rw {live:List Int} (hy:y∈Jm r b live):∃c∈live,∃j,Qe c r r.length=some j/\r[j]?=some y/\y.Block=b/\y.Page.Kind=1/\y.Page.Tx=c:=by
 obtain⟨c,c1,c2⟩:=List.mem_filterMap.1 hy
 grind [NN,bk,HT]
theorem bN (r:List Ak) (b:Int):∀{live:List Int},live.Nodup->gM (Jm r b live)
 |[],_=>List.Pairwise.nil
 |c::live,h=>by
  obtain⟨h1,h2⟩:=C4.1 h;have ih:=bN r b h2;unfold Jm;rw[List.filterMap_cons];split
  ·exact ih
  rename_i y hy;refine BO.2 ⟨λz hz e=>?_,ih⟩;obtain⟨c',q1,j,q2,q3,q4,q5,q6⟩:=Rw (r:=r) (b:=b) (live:=live) hz;obtain⟨c'',p1,j2,p2,p3,p4,p5,p6⟩:=Rw (r:=r) (b:=b) (live:=[c]) (y:=y)<|by grind [Jm]
  grind
def OB (b:Int) (nd:List Bool) (r:List Ak):List Ak:=Kk b 0 nd r++(Kk b 1 nd r++(Kk b 2 nd r++Kk b 3 nd r))
theorem XO {i:Int}:y∈Kk b i nd r↔(∃j:Nat,r[j]?=some y/\nd[j]?=some true)/\y.Block=b/\y.Leaf=i:=by
 unfold Kk;simp only[A0,AI,Ao,JW];constructor
 ·grind [List.getElem?_of_mem,List.getElem?_zip_eq_some]
 rintro⟨⟨j,h1,h2⟩,h3,h4⟩;exact⟨(true,y),⟨An<|List.getElem?_zip_eq_some.2 ⟨h2,h1⟩,⟨rfl,h3⟩,h4⟩,rfl⟩
theorem iT (hn:∀(j:Nat) y,r[j]?=some y->nd[j]?=some true->Qe y.Page.Tx r r.length=some j) (b i:Int):gM (Kk b i nd r):=by
 unfold Kk gM;rw[List.pairwise_map]
 have h0:(nd.zip r).Pairwise λp q=>p.1=true->q.1=true->p.2.Page.Tx≠q.2.Page.Tx:=by
  rw[Cy];intro x y hx hy a p q e;have a1:=(List.getElem?_zip_eq_some (l₁:=nd) (l₂:=r)).1<|Ab hx;have a2:=(List.getElem?_zip_eq_some (l₁:=nd) (l₂:=r)).1<|Ab hy
  grind
 have h1:=h0.filter λq=>q.1&&(q.2.Block==b)&&(q.2.Leaf==i)
 grind
def vO (b:Int) (nd:List Bool) (r:List Ak):Nat->Nat->List Ak
 |0,_=>[]
 |n+1,i=>Kk b (i:Int) nd r++vO b nd r n (i+1)
theorem vN (b i:Int) (nd:List Bool) (r:List Ak):(Kk b i nd r).length<=r.length:=by
 unfold Kk
 grind
theorem qF (hr:r.length<=40) (hk:∀y∈r,y.Page.Kind=1->y.Page.Count=1/\y.Page.Part=0) (c:nd.length=r.length) (hn:∀(j:Nat) y,r[j]?=some y->nd[j]?=some true->y.Page.Kind=1) (b:Int):∀(n i:Nat),i+n=4->∀{m:Nat} {o:MvS},MvI m o->m+n*40<=1000->
  Ai (λs:List A8×Int×Int×List Block=>FI b r nd s.1 s.2.1 s.2.2.1 s.2.2.2) (o.2.1,o.1,(i:Int),o.2.2)=(mv b (vO b nd r n i) o).map λq=>match q with
   |some o'=> .inl o'.2.1
   |none=> .inr ([],false)
 |0,i,hi,m,o,ho,hm=>by
  rw[Au];simp only[FI];rw[cF];rfl
 |n+1,i,hi,m,o,ho,hm=>by
  rw[Au];simp only[FI];rw[cT];have a:=qH hr hk c hn b (i:Int) r.length 0 (by omega) ho (by omega);simp only[List.drop_zero]at a;rw[show((0:Nat):Int)=0 from rfl]at a;rw[a];have d:=vN b (i:Int) nd r;obtain⟨v,v1,v2⟩:=xO (b:=b) (Kk b (i:Int) nd r) ho (by omega);have es:vO b nd r (n+1) i=Kk b (i:Int) nd r++vO b nd r n (i+1):=rfl;rw[es,xU,v1]
  cases v with
  |none=>rfl
  |some o'=>
   rw[ad1];exact qF hr hk c hn b n (i+1) (by omega) (v2 o' rfl)<|by omega
theorem rQ (d:Device) (b:Int) (X:List Ak) (hX:X.length<=100) (hd:0<=d.Seq/\d.Seq<=1000000001):∀(n i:Nat),i+n=X.length->∀{m:Nat} {o:MvS},MvI m o->m+n<=1000->o.1=d.Seq+i->
  Ai (λs:Int×List Block×List A8=>Hz d b X s.1 s.2.1 s.2.2) ((i:Int),o.2.2,o.2.1)=(mv b (X.drop i) o).map λq=>match q with
   |some o'=> .inl (o'.2.2,o'.2.1)
   |none=> .inr ([],false)
 |0,i,hi,m,o,ho,hm,hs=>by
  rw[Au];simp only[Hz,GR];rw[cF,List.drop_of_length_le (by omega)];rfl
 |n+1,i,hi,m,o,ho,hm,hs=>by
  have a:i<X.length:=by omega
  have hx:=Ab a;rw[Au];simp only[Hz,Da a,Ap,hx,Aa];rw[BW,<-hs,A6 a];have ep:Page.mk 1 o.1 X[i].Page.Tx 0 1 X[i].Page.Text=ZP o.1 X[i]:=rfl;rw[ep]
  rcases nQ (b:=b) (y:=X[i]) ho (by omega)with⟨s,g',a1,a2,a3,a4,a5⟩|⟨a1,⟨w,a2⟩,_⟩
  ·rw[a5,a3];rw[ad1];exact rQ d b X hX hd n (i+1) (by omega) a4 (by omega)<|by omega
  grind
theorem cA {x:Ak} (h:EE d r) (hx:x∈r) (hy:y∈r) (hb:x.Block=y.Block) (hl:x.Leaf=y.Leaf):x=y:=by
 obtain⟨b,l,g1,g2,_,g3⟩:=h.scan.page x hx;obtain⟨b',l',k1,k2,_,k3⟩:=h.scan.page y hy;rw[hb,k1]at g1
 injection g1 with g1
 subst g1;rw[hl,k2]at g2
 injection g2 with g2
 subst g2;rw[k3]at g3
 injection g3 with g3
 cases x;cases y
 grind
theorem tN (h:EE d r) (hy:y∈r):0<=y.Leaf/\y.Leaf<4:=by
 obtain⟨b,l,g1,g2,_,g3⟩:=h.scan.page y hy;obtain⟨_,k1⟩:=BK g1;obtain⟨q0,k2⟩:=BK g2;have:=(h.fl.blk b<|An k1).four
 grind
theorem Z6 (h:EE d r) (m:r.length<=40) {live:List Int} (l1:Fg d.Store=some live) (l2:asc live) (l3:∀x,x∈live↔Cv (A5 d.Store) x) (l4:live.length<=16777216) (b:Int):
  ∃v,mv b (OB b (Ca r live 1000000001) r) (d.Seq,[],d.Flash.Blocks)=some v/\Hk d b=some (match v with|some o=>(o.2.1,true)|none=>([],false))/\Ll d b=some (match v with|some o=>(o.2.1,true)|none=>([],false))/\
  (OB b (Ca r live 1000000001) r).length=(Jm r b live).length/\(OB b (Ca r live 1000000001) r).length<=4/\∀y,y∈OB b (Ca r live 1000000001) r↔y∈Jm r b live:=by
 have n:=h.pages;have w:1<=d.Seq/\d.Seq<=1000000001:=by
  rw[h.seq];have h1:=Lx r;refine⟨h1.2.1,h1.2.2 _ (by omega) λy hy=>?_⟩;have:=(n.seq y hy).2;omega
 have hk:∀y∈r,y.Page.Kind=1->y.Page.Count=1/\y.Page.Part=0:=by
  intro y hy k1;obtain⟨_,_,_,c1,c2,_,c3⟩:=ABe h hy;omega
 have hn:∀(j:Nat) y,r[j]?=some y->(Ca r live 1000000001)[j]?=some true->y.Page.Kind=1:=λj y hy hj=>(Ys h l3 hy hj).1
 have f:∀(j:Nat) y,r[j]?=some y->(Ca r live 1000000001)[j]?=some true->Qe y.Page.Tx r r.length=some j/\y.Page.Tx∈live:=by
  intro j y hy hj;rw[Oc r live _ hy]at hj
  injection hj with hj
  rw[GK]at hj
  rcases hj with hj|hj
  ·simp only[CY,Ao,JW,Bc]at hj;have:=(n.tx y<|An hy).2;omega
  grind [NN,HT]
 have hm:∀y,y∈OB b (Ca r live 1000000001) r↔y∈Jm r b live:=by
  intro y;have e1:y∈OB b (Ca r live 1000000001) r↔(∃j:Nat,r[j]?=some y/\(Ca r live 1000000001)[j]?=some true)/\y.Block=b:=by
   unfold OB;simp only[Ay,XO];constructor
   ·grind
   rintro⟨⟨j,q1,q2⟩,q3⟩;have:=tN h<|An q1
   grind
  rw[e1];constructor
  ·rintro⟨⟨j,q1,q2⟩,q3⟩;obtain⟨q4,q5⟩:=f j y q1 q2;refine List.mem_filterMap.2 ⟨y.Page.Tx,q5,?_⟩
   grind [bk]
  intro hy;obtain⟨c,c1,j,c2,c3,c4,c5,c6⟩:=Rw hy;refine⟨⟨j,c3,?_⟩,c4⟩;rw[Oc r live _ c3,Ar,GK]
  grind
 have p:∀y∈Jm r b live,y∈r/\y.Block=b:=λy hy=>by grind [Rw]
 have q:∀x∈Jm r b live,∀y∈Jm r b live,x.Leaf=y.Leaf->x=y:=λx hx y hy e=>cA h (p x hx).1 (p y hy).1 (by grind) e
 have t:∀i:Int,∀y∈Kk b i (Ca r live 1000000001) r,y∈r/\y.Block=b/\y.Leaf=i:=λi y hy=>by grind [XO]
 have h3:∀i:Int,(Kk b i (Ca r live 1000000001) r).length<=1:=by
  intro i;have hd:=iT (λj y hy hj=>(f j y hy hj).1) b i
  rcases hc:Kk b i (Ca r live 1000000001) r with _|⟨x,_|⟨y,l⟩⟩
  ·exact HU 1
  ·exact Ax 1
  have hx:=t i x (by rw[hc];simp);have hy:=t i y (by rw[hc];simp);rw[hc]at hd;exact absurd (cA h hx.1 hy.1 (by rw[hx.2.1,hy.2.1])<|by rw[hx.2.2,hy.2.2]) λe=>(BO.1 hd).1 y (by simp)<|by rw[e]
 have z:(OB b (Ca r live 1000000001) r).length<=4:=by
  unfold OB
  grind
 have h0:gM (OB b (Ca r live 1000000001) r):=by
  have hd:∀i:Int,gM (Kk b i (Ca r live 1000000001) r):=λi=>iT (λj y hy hj=>(f j y hy hj).1) b i
  have cross:∀i k:Int,i≠k->∀x∈Kk b i (Ca r live 1000000001) r,∀y∈Kk b k (Ca r live 1000000001) r,x.Page.Tx≠y.Page.Tx:=by grind [XO]
  grind [OB,gM]
 have a:Br Bh (Jm r b live) (OB b (Ca r live 1000000001) r):=vR (bN r b<|dS l2) h0 (λy=>(hm y).symm) q;have u:=a.len;have g:srt Bh (OB b (Ca r live 1000000001) r):=by
  have hc:∀i:Int,srt Bh (Kk b i (Ca r live 1000000001) r):=by
   intro i
   refine List.pairwise_of_forall_mem_list λx hx y hy=>?_
   show x.Leaf<=y.Leaf
   grind
  have cross:∀i k:Int,i<=k->∀x∈Kk b i (Ca r live 1000000001) r,∀y∈Kk b k (Ca r live 1000000001) r,Bh x<=Bh y:=by
   intro i k h4 x hx y hy;show x.Leaf<=y.Leaf
   grind
  grind [OB,srt]
 have I0:MvI 0 (d.Seq,[],d.Flash.Blocks):=⟨h.fl.cap,Ax _,by omega,by omega⟩;obtain⟨v,v1,v2⟩:=xO (b:=b) (OB b (Ca r live 1000000001) r) I0 (by omega);refine⟨v,v1,?_,?_,u.symm,z,hm⟩
 ·unfold Hk;rw[h.scan.s,l1];simp only[Aa];rw[LT r live _ h.scan.len l4];have h2:live.foldl (ZQ r) (r.map<|CY 1000000001)=Ca r live 1000000001:=rfl;rw[h2];have ho:=qF m hk (IQ r live 1000000001) hn b 4 0 (by omega) I0 (by omega)
  grind [vO,OB]
 unfold Ll;rw[AAu h.scan (YH h.st l1) l4 b];simp only[Aa];obtain⟨X,x1,x2,x3⟩:=bP Bh (Jm r b live) (by omega);have hX:X=OB b (Ca r live 1000000001) r:=Mu Bh x2 g (λk=>by rw[x3 k,<-a k]);rw[x1,hX];have ho:=rQ d b (OB b (Ca r live 1000000001) r) (by omega) ⟨by omega,w.2⟩ (OB b (Ca r live 1000000001) r).length 0 (by omega) I0 (by omega)<|by omega
 grind
end Go.TI
