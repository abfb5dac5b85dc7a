/- What is told of a drawn life, spoilt or not, is what the document tells. No condition; no program is in sight. -/
import Derived.Test.YtogblbgocmfigaaGreatWAP1
set_option linter.unusedVariables false
set_option linter.unusedSimpArgs false
namespace Go.TI
open Go
theorem zX (s:ByteArray) (f a:Nat) (hf:f<a) (ha:a<=(L s).length) (hs:(L s).length<=64):∃k:Nat,O3 s (f:Int) (a:Int)=some (k:Int)/\k<=31/\a+k<=(L s).length/\∀j,j<k->(L s)[f+j]?=(L s)[a+j]? :=by
 obtain⟨b,h1,k,rfl,h2,h3,h4⟩:=AC (body:=λn:Int=>Jt s (f:Int) (a:Int) n) (λ(_:Unit) i=>i) 31 (λi _=>a+i<=(L s).length/\∀j,j<i->(L s)[f+j]?=(L s)[a+j]?) (λb=>∃k:Nat,b=(k:Int)/\k<=31/\a+k<=(L s).length/\∀j,j<k->(L s)[f+j]?=(L s)[a+j]?)
  (λ_ i hi hs=>by
   simp only[Jt];rw[cT,Cl,Cl,Bv];by_cases c:a+i<(L s).length
   ·rw[cT];have e1:((f:Int)+(i:Int))=((f+i:Nat):Int):=by omega
    have e2:((a:Int)+(i:Int))=((a+i:Nat):Int):=by omega
    rw[e1,e2,EN s (by omega),EN s c];simp only[Aa]
    cases hq:((((L s)[f+i]).toNat:Int)==(((L s)[a+i]).toNat:Int))with
    |true=>
     rw[ad1];refine .inl ⟨(),rfl,by omega,λj hj=>?_⟩
     grind [UInt8.toNat_inj]
    |false=>grind
   grind)
  (λ_ hs=>by
   simp only[Jt];rw[cF]
   exact⟨_,rfl,31,rfl,by omega,hs.1,hs.2⟩) (s:=()) ⟨by omega,λj hj=>by omega⟩
 unfold O3
 grind
def ACM (s:ByteArray) (a z b:Nat):Prop:=z<=31/\a+z<=(L s).length/\(z=0\/(4<=z/\1<=b/\b<=a/\∀j,j<z->(L s)[a-b+j]?=(L s)[a+j]?))
theorem ABq (s:ByteArray) (a:Nat) (ha:a<=(L s).length) (hs:(L s).length<=64):∃z b:Nat,Ah (λq:Int×Int×Int=>Ef s (a:Int) q.1 q.2.1 q.2.2) (0,0,sb (a:Int) 1)=some ((z:Int),(b:Int))/\ACM s a z b:=by
 rw[BY];obtain⟨r,h1,z,b,rfl,h2⟩:=AC (body:=λq:Int×Int×Int=>Ef s (a:Int) q.1 q.2.1 q.2.2) (λ(q:Nat×Nat) i=>((q.1:Int),(q.2:Int),(a:Int)-1-i)) a (λi q=>ACM s a q.1 q.2) (λr=>∃z b:Nat,r=((z:Int),(b:Int))/\ACM s a z b)
  (λq i hi hq=>by
   obtain⟨k,m1,m2,m3,m4⟩:=zX s (a-1-i) a (by omega) ha hs;have e1:((a:Int)-1-(i:Int))=((a-1-i:Nat):Int):=by omega
   simp only[Ef,e1];rw[Ac (by omega:(((a-1-i:Nat)):Int)>=0),Ao,m1,Aa,BY,BY];refine .inl ?_;have e2:(((a-1-i:Nat):Int)-1)=(a:Int)-1-((i+1:Nat):Int):=by omega
   have e3:((a:Int)-((a-1-i:Nat):Int))=((1+i:Nat):Int):=by omega
   rw[e2,e3];by_cases h4:4<=k
   ·rw[cT];by_cases h5:q.1<k
    ·rw[Ac (by omega:(k:Int)>(q.1:Int))];exact⟨(k,1+i),rfl,m2,m3,.inr ⟨h4,by omega,by omega,λj hj=>by grind⟩⟩
    grind
   grind)
  (λq hq=>by grind [Ef]) (s:=(0,0)) ⟨by omega,by omega,.inl rfl⟩
 grind
def YK:Nat->Nat->List UInt8->List UInt8
 |0,_,out=>out
 |n+1,b,out=>YK n b (out++ [(out[out.length-b]?).getD 0])
def dM (a:List UInt8) (t:AO):List UInt8:=if t.Back=0 then a++L t.Text else YK t.Size.toNat t.Back.toNat a
def Fu (l:List AO):List UInt8:=l.foldl dM []
def okT (a:List UInt8) (t:AO):Prop:=(t.Back=0/\t.Size=0/\1<=(L t.Text).length/\(L t.Text).length<=31)\/(1<=t.Back/\t.Back<=(a.length:Int)/\1<=t.Size/\t.Size<=31/\L t.Text=[])
def okL (l:List AO):Prop:=∀(i:Nat) t,l[i]?=some t->okT (Fu<|l.take i) t
theorem Qe (l:List AO) (t:AO):Fu (l++ [t])=dM (Fu l) t:=by unfold Fu;grind
variable {r a r':List Al} {d e d':Device} {y:Al} {n k m j:Nat} {g f:Flash} {s:Store} {c:Bg} {P:Int->Prop} {T:List ByteArray} {b nx nx':Int} {l l':Vs} {t:AO} {p:Page} {q:Ask} {ps:List Page} {x:Cm} {nd:List Bool} {ss:List AH} {K:Ks}
theorem mU {l:List AO} (h:okL l) (ht:okT (Fu l) t):okL (l++ [t]):=by
 intro i x hx;by_cases e:i<l.length
 ·rw[M3 e]at hx;rw[List.take_append_of_le_length<|by omega];exact h i x hx
 grind
theorem ABT {l:List AO} (h:okL (l++ [t])):okL l/\okT (Fu l) t:=by
 refine⟨λi x hx=>?_,?_⟩
 ·have:=h i x (by grind)
  grind
 have:=h l.length t<|by grind
 grind
theorem kC (S:List UInt8):∀(n a b:Nat),a+n<=S.length->1<=b->b<=a->(∀j,j<n->S[a-b+j]?=S[a+j]?)->YK n b (S.take a)=S.take (a+n)
 |0,a,b,_,_,_,_=>rfl
 |n+1,a,b,h1,h2,h3,h4=>by
  rw[YK];have hl:(S.take a).length=a:=by grind
  have e:((S.take a)[(S.take a).length-b]?).getD 0=S[a]'(by omega):=by
   have:=h4 0<|by omega
   grind
  rw[e,<-Ag (by omega),kC S n (a+1) b (by omega) h2 (by omega) λj hj=>by grind];congr 1;omega
theorem sE:∀(n b:Nat) (a:List UInt8),(YK n b a).length=a.length+n
 |0,_,_=>rfl
 |n+1,b,a=>by rw[YK,sE];simp;omega
theorem We (s:ByteArray) (hs:(L s).length<=64):∀(n a:Nat) (c:List AO),(L s).length-a<=n->a<=(L s).length->c.length<=a->okL c->Fu c=(L s).take a->∃l,Ah (λq:List AO×Int=>C4 s q.1 q.2) (c,(a:Int))=some l/\okL l/\Fu l=L s/\l.length<=64
 |n,a,c,hn,ha,g,d,hpl=>by
  by_cases h:a<(L s).length
  ·obtain⟨z,b,h1,h2,h3,h4⟩:=ABq s a ha hs
   match n,hn with
   |0,hn=>omega
   |n+1,hn=>
   rcases h4 with rfl|⟨h4,h5,h6,h7⟩
   ·
    have f:sub s (a:Int) ((a+1:Nat):Int)=some (s.extract a<|a+1):=FW s (by omega) (by omega);have hx:L (s.extract a<|a+1)=[(L s)[a]]:=by
     rw[K8,show a+1-a=1 by omega,AD h];rfl
    have fresh:∃l,Ah (λq:List AO×Int=>C4 s q.1 q.2) (c++ [AO.mk 0 0<|s.extract a<|a+1],((a+1:Nat):Int))=some l/\okL l/\Fu l=L s/\l.length<=64:=
     We s hs n (a+1) _ (by omega) (by omega) (by simp;omega) (mU d<|.inl ⟨rfl,rfl,by rw[hx];simp,by rw[hx];simp⟩) (by grind [Qe,Ag,dM])
    rcases Hp c with e|⟨out0,t0,e⟩
    ·subst e;obtain⟨l,f1,f2⟩:=fresh;rw[Ay];have hb:C4 s [] (a:Int)=some (.inl ([AO.mk 0 0<|s.extract a<|a+1],((a+1:Nat):Int))):=by
      simp only[C4];rw[Bv,cT,h1];simp only[Aa];rw[show decide ((((0:Nat):Int))>0)=false from rfl,Ae,ad1,f,show decide ((sb (ln ([]:List AO)) 1)>=0)=false from rfl];rfl
     grind
    rw[KE]at e;subst e;obtain⟨ok0,okt0⟩:=ABT d;have hol':out0.length+1<=a:=by simpa using g
    have j:ln (out0++ [t0])=((out0.length+1:Nat):Int):=by rw[Bb];simp
    have k:sb (ln<|out0++ [t0]) 1=(out0.length:Int):=by grind [BY]
    have m:gi (out0++ [t0]) (out0.length:Int)=some t0:=Fd _ _;by_cases hm:t0.Back=0/\(L t0.Text).length<31
    ·have i:HY t0.Text (s.extract a<|a+1)=some (t0.Text++s.extract a (a+1)):=GY _ _ (by grind);have hb:C4 s (out0++ [t0]) (a:Int)=some (.inl (out0++ [AO.mk t0.Back t0.Size<|t0.Text++s.extract a (a+1)],((a+1:Nat):Int))):=by
      simp only[C4];rw[Bv,cT,h1];simp only[Aa]
      grind [ad1,Bv,Kf]
     have hX:L (t0.Text++s.extract a (a+1))=L t0.Text++ [(L s)[a]]:=by rw[Hq,hx]
     obtain⟨l,f1,f2⟩:=We s hs n (a+1) (out0++ [AO.mk t0.Back t0.Size<|t0.Text++s.extract a (a+1)]) (by omega) (by omega) (by grind) (mU ok0 (by
      rcases okt0 with⟨k1,k2,k3,k4⟩|⟨k1,_⟩
      ·exact .inl ⟨k1,k2,by rw[hX];simp,by grind⟩
      omega))<|by grind [Qe,Ag,dM]
     grind [Ay]
    have hb:C4 s (out0++ [t0]) (a:Int)=some (.inl (out0++ [t0]++ [AO.mk 0 0<|s.extract a<|a+1],((a+1:Nat):Int))):=by grind [Bv,ad1,AZ,C4]
    grind [Ay]
   have hb:C4 s c (a:Int)=some (.inl (c++ [AO.mk (b:Int) (z:Int)<|bs []],((a+z:Nat):Int))):=by grind [Bv,AZ,Cl,C4]
   obtain⟨l,f1,f2⟩:=We s hs n (a+z) (c++ [AO.mk (b:Int) (z:Int)<|bs []]) (by omega) h3 (by simp;omega) (mU d<|.inr ⟨by simp;omega,by grind,by simp;omega,by simp;omega,DS _⟩)<|by grind [Qe,kC,dM]
   grind [Ay]
  grind [Ay,Bv,C4]
theorem ACT (s:ByteArray) (hs:(L s).length<=64):∃l,LM s=some l/\okL l/\Fu l=L s/\l.length<=64:=by
 obtain⟨l,h1,h2⟩:=We s hs (L s).length 0 [] (by omega) (by omega) (by simp) (λi t h=>by simp at h)<|by simp[Fu]
 grind [Bv,LM]
def Pd (t:AO):List UInt8:=if t.Back=0 then UInt8.ofNat (L t.Text).length::L t.Text else [UInt8.ofNat (128+t.Size).toNat,UInt8.ofNat t.Back.toNat]
theorem yL {a:List UInt8} (h:okT a t) (ho:a.length<=64):(Pd t).length<=32:=by
 unfold Pd
 rcases h with⟨h1,h2,h3,h4⟩|⟨h1,h2,h3,h4,h5⟩
 ·grind
 grind
theorem AD5 {a:List UInt8} (h:okT a t):a.length<=(dM a t).length:=by grind [sE,dM]
theorem OC {l:List AO} (h:okL l):∀i,i<=l.length->(Fu (l.take i)).length<=(Fu l).length:=by
 have step:∀i,i<l.length->(Fu<|l.take i).length<=(Fu<|l.take<|i+1).length:=λi hi=>by
  rw[Ag hi,Qe];exact AD5<|h i _<|Ab hi
 intro i hi;have:∀k,i+k<=l.length->(Fu<|l.take i).length<=(Fu<|l.take<|i+k).length:=by
  intro k
  induction k with
  |zero=>grind
  |succ k ih=>grind
 have:=this (l.length-i) (by omega);simp_all
theorem AFx (s:ByteArray) (hs:(L s).length<=64):∃l,okL l/\Fu l=L s/\l.length<=64/\((EE s=some (bs (122::l.flatMap Pd),true))\/EE s=some (bs (114::L s),true)):=by
 obtain⟨l,h1,h2,h3,h4⟩:=ACT s hs;refine⟨l,h2,h3,h4,?_⟩;unfold EE;rw[Bv,cF,h1];simp only[Aa];obtain⟨b,q1,q2⟩:=AC (body:=λq:ByteArray×Int=>EX l q.1 q.2) (λz i=>(z,i)) l.length (λi z=>L z=122::(l.take i).flatMap Pd/\(L z).length<=1+32*i) (λz=>L z=122::l.flatMap Pd/\(L z).length<=3000)
  (λz i hi hz=>by
   have hx:=Ab hi;have c:=h2 i _ hx;have a:=OC h2 i (by omega);rw[h3]at a;have d:=yL c (by omega);have et:(l.take<|i+1).flatMap Pd=(l.take i).flatMap Pd++Pd l[i]:=by grind [Ag]
   simp only[EX,Ds hi,Aq,hx,Aa];rw[ad1];refine .inl ?_
   rcases c with⟨k1,k2,k3,k4⟩|⟨k1,k2,k3,k4,k5⟩
   ·grind [GY,Hq,OY,Bv,IntKind.wrap_u8,Pd]
   grind [Cl,GY,Hq,OY,IntKind.wrap_u8,Pd])
  (λz hz=>⟨z,by simp[CU,EX],by grind,by omega⟩) (s:=bs [122]) ⟨by rw[DS];rfl,by rw[DS];simp⟩
 rw[q1];simp only[Aa];have hb:b=bs (122::l.flatMap Pd):=JH<|by rw[q2.1,DS]
 cases decide (ad ((L s).length:Int) 1<=GF b)with
 |false=>grind
 |true=>
  right;rw[GY _ _<|by grind [DS]];rfl
theorem Xy (t:ByteArray) (ht:(L t).length<=10000):∀(l:List AO) (a:Nat) (c:List AO),(∀x∈l,∃o:List UInt8,okT o x/\o.length<=64)->(L t).drop a=l.flatMap Pd->a<=(L t).length->c.length<=a->Ah (λq:List AO×Int=>BR t q.1 q.2) (c,(a:Int))=some (.inl (c++l))
 |[],a,c,hl,h,ha,ho=>by
  have:(L t).length=a:=by simp_all;grind
  grind [Ay,Bv,BR]
 |x::l,a,c,hl,h,ha,ho=>by
  obtain⟨o,k,p⟩:=hl x (by simp);rw[List.flatMap_cons]at h;have d:=Cu List.length h;rw[Q9,AE]at d
  rcases k with⟨k1,k2,k3,k4⟩|⟨k1,k2,k3,k4,k5⟩
  ·have he:Pd x=UInt8.ofNat (L x.Text).length::L x.Text:=by grind [Pd]
   rw[he]at h d;rw[AY]at d;have f:a<(L t).length:=by omega
   have e:=AD f;rw[h,Cw]at e
   injection e with hx hd
   have j:(((L t)[a]).toNat:Int)=((L x.Text).length:Int):=by grind [He]
   have n:sub t ((a+1:Nat):Int) ((a+1+(L x.Text).length:Nat):Int)=some x.Text:=by
    rw[FW t (by omega)<|by omega]
    grind [JH,K8,List.take_left']
   have hb:BR t c (a:Int)=some (.inl (c++ [AO.mk 0 0 x.Text],((a+1+(L x.Text).length:Nat):Int))):=by grind [Bv,EN,Pa,Cl,AZ,BR]
   have i:AO.mk 0 0 x.Text=x:=by
    cases x with
    |mk b z u=>grind
   rw[i]at hb;rw[Ay];simp only[hb];have:=Xy t ht l (a+1+(L x.Text).length) (c++ [x]) (λy hy=>hl y<|by simp[hy]) (by rw[<-E5,<-hd,Kb rfl]) (by omega) (by simp;omega)
   grind
  have he:Pd x=[UInt8.ofNat (128+x.Size).toNat,UInt8.ofNat x.Back.toNat]:=by unfold Pd;grind
  rw[he]at h d;simp only[AY,N6]at d;have f:a<(L t).length:=by omega
  have e:=AD f;rw[h]at e;simp only[Cw,Az]at e
  injection e with hx hd
  have g:=AD (show a+1<(L t).length by omega);rw[<-hd]at g
  injection g with hx2 hd2
  have j:(((L t)[a]).toNat:Int)=128+x.Size:=by grind [He]
  have m:(((L t)[a+1]'(by omega)).toNat:Int)=x.Back:=by grind [He]
  have hb:BR t c (a:Int)=some (.inl (c++ [AO.mk x.Back x.Size<|bs []],((a+2:Nat):Int))):=by
   simp only[BR];rw[Bv,cT,EN t f,Aa,j,Pa (by omega) (by omega),cT,Cl (b:=2) (by omega) (by omega),cF,ad1,EN t (by omega),Aa,m,Pa (by omega) (by omega),BY,AZ (by simp;omega),Aa,show 128+x.Size-128=x.Size by omega];rfl
  have i:AO.mk x.Back x.Size (bs [])=x:=by
   cases x with
   |mk b z u=>grind [JH,DS]
  rw[i]at hb;rw[Ay];simp only[hb];have:=Xy t ht l (a+2) (c++ [x]) (λy hy=>hl y<|by simp[hy]) (by grind) (by omega) (by simp;omega)
  grind
def Jy (l:List UInt8):List Int:=l.map λc=>(c.toNat:Int)
theorem AAi (l:List UInt8):L (F7 (Jy l))=l:=by
 rw[OY,Jy,HQ];have:((λn:Int=>UInt8.ofNat n.toNat)∘λc:UInt8=>(c.toNat:Int))=id:=by
  funext c;simp
 rw[this,VS]
theorem ABo (b:ByteArray):zW b=Jy (L b):=rfl
theorem bM (x:AO) (b:1<=x.Back) (hs:0<=x.Size/\x.Size<=31):∀(n k:Nat) (a:List UInt8),(k:Int)+n=x.Size->x.Back<=(a.length:Int)->a.length+n<=1000->Ah (λq:List Int×Int=>DC x q.1 q.2) (Jy a,(k:Int))=some (Jy (YK n x.Back.toNat a))
 |0,k,a,hk,c,ho=>by
  rw[Ay];have hb:DC x (Jy a) (k:Int)=some (.inr (Jy a)):=by grind [DC]
  simp only[hb];rfl
 |n+1,k,a,hk,c,ho=>by
  have d:ln (Jy a)=(a.length:Int):=by rw[Bb,Jy,Ba]
  have e:gi (Jy a) ((a.length:Int)-x.Back)=some (((a[a.length-x.Back.toNat]?).getD 0).toNat:Int):=by grind [Aq,Jy]
  have hb:DC x (Jy a) (k:Int)=some (.inl (Jy<|a++ [(a[a.length-x.Back.toNat]?).getD 0],((k+1:Nat):Int))):=by grind [BY,AZ,ad1,DC,Jy]
  rw[Ay];simp only[hb];rw[YK];exact bM x b hs n (k+1) _ (by omega) (by simp;omega) (by simp;omega)
theorem uH (l:List AO) (hl:l.length<=64) (a:okL l) (h64:(Fu l).length<=64):Ah (λq:List Int×Int=>Ei l q.1 q.2) ([],0)=some (.inl (Jy (Fu l))):=by
 obtain⟨b,h1,h2⟩:=AC (body:=λq:List Int×Int=>Ei l q.1 q.2) (λ(o:List UInt8) i=>(Jy o,i)) l.length (λi o=>o=Fu (l.take i)) (λb=>b= .inl (Jy<|Fu l))
  (λo i hi ho=>by
   have hx:=Ab hi;have hk:=a i _ hx;have hm:=OC a i (by omega);have c:=OC a (i+1) (by omega);have et:Fu (l.take<|i+1)=dM o l[i]:=by grind [Ag,Qe]
   rw[<-ho]at hk hm;rw[et]at c
   have d:∀q:List UInt8,ln (Jy q)=(q.length:Int):=λq=>by rw[Bb,Jy,Ba]
   simp only[Ei,Ds hi,Aq,hx,Aa];refine .inl ⟨dM o l[i],?_,et.symm⟩
   rcases hk with⟨k1,k2,k3,k4⟩|⟨k1,k2,k3,k4,k5⟩
   ·rw[show(l[i].Back==0)=true by simpa using k1,Ao,Bv,CM,Ac<|by omega]
    grind [ABo,ad1,ap,Jy,dM]
   rw[show(l[i].Back==0)=false by simp;omega,Ae,d,CM,Ac<|by omega];rw[CM,Ac<|by omega];simp only[Aa,Ak,Ae];have e:seq l[i].Text (bs [])=true:=by grind [KH,JH,DS]
   grind [bM,ad1,dM])
  (λo ho=>⟨.inl<|Jy o,by simp[CU,Ei],by grind⟩) (s:=[]) rfl
 rw[<-h2];exact h1
theorem sU (s:ByteArray) (hs:(L s).length<=64):∃z,EE s=some (z,true)/\Gd z=some (s,true)/\1<=(L z).length:=by
 obtain⟨l,h1,h2,h3,h4⟩:=AFx s hs;have fin:∀z:ByteArray,EE s=some (z,true)->((EE s).bind λv3=>(cond (!v3.2) (some true) (some<|!(seq v3.1 z)):Option Bool).bind λj2=>cond j2 (some (bs [],false))<|some (s,true))=some (s,true):=by grind [seq]
 rcases h4 with h4|h4
 ·refine⟨_,h4,?_,by rw[DS];simp⟩;have hf:=fin _ h4;generalize hz:bs (122::l.flatMap Pd)=z at h4 hf;have hL:L z=122::l.flatMap Pd:=by rw[<-hz,DS]
  have f:(L z).length<=3000:=by
   have:∀m:List AO,(∀x∈m,∃o:List UInt8,okT o x/\o.length<=64)->(m.flatMap Pd).length<=32*m.length:=by
    intro m
    induction m with
    |nil=>intro _;simp
    |cons x m ih=>
     intro hm;obtain⟨o,g,h⟩:=hm x<|by simp
     grind [yL]
   have:=this l (λx hx=>by
    obtain⟨i,hi,rfl⟩:=Au hx;have hm:=OC h1 i (by omega);rw[h2]at hm
    exact⟨_,h1 i _<|Ab hi,by omega⟩)
   grind
  unfold Gd;have a:1<=(L z).length:=by rw[hL];simp
  rw[Bv,show(((L z).length:Int)==0)=false by grind,Ae];have b:sub z 1 ((L z).length:Int)=some (bs<|l.flatMap Pd):=by
   rw[show(1:Int)=((1:Nat):Int)from rfl,FW z a<|A4 _]
   grind [JH,K8,DS]
  have c:sx z 0=some 122:=by
   rw[show(0:Int)=((0:Nat):Int)from rfl,EN z (i:=0) a];simp_all
  rw[b,c];simp only[Aa];rw[show((122:Int)==122)=true from rfl];have d:(L<|bs<|l.flatMap Pd).length<=10000:=by rw[DS];grind
  have e:=Xy (bs<|l.flatMap Pd) d l 0 [] (λx hx=>by
    obtain⟨i,hi,rfl⟩:=Au hx;have hm:=OC h1 i (by omega);rw[h2]at hm
    exact⟨_,h1 i _<|Ab hi,by omega⟩) (by rw[DS];rfl) (by omega)<|by simp
  rw[show((0:Nat):Int)=0 from rfl,Az]at e
  grind [uH,JH,AAi,MF,GN]
 refine⟨_,h4,?_,by rw[DS];simp⟩;have hf:=fin _ h4;generalize hz:bs (114::L s)=z at h4 hf;have hL:L z=114::L s:=by rw[<-hz,DS]
 unfold Gd;have a:1<=(L z).length:=by rw[hL];simp
 rw[Bv,show(((L z).length:Int)==0)=false by grind,Ae];have b:sub z 1 ((L z).length:Int)=some s:=by
  rw[show(1:Int)=((1:Nat):Int)from rfl,FW z a<|A4 _]
  grind [JH,K8]
 have c:sx z 0=some 114:=by
  rw[show(0:Int)=((0:Nat):Int)from rfl,EN z (i:=0) a];simp_all
 grind
theorem ACF (a b:List ByteArray):PP (a++b)=PP a++PP b:=by unfold PP;grind
def Cg (seq tx:Int) (T:List ByteArray):List Page:=T.mapIdx λi t=>Page.mk 2 (seq+i) tx i T.length t
theorem AAK (a:List Cm) (hr:a.length<=1048576) (d:∀r∈a,G0 r=true):∃T:List ByteArray,Ah (λs:List ByteArray×Int=>Ee a s.1 s.2) ([bs []],0)=some (.inl T)/\1<=T.length/\T.length<=max 1 a.length/\PP T=Kt a/\∀t∈T,(L t).length<=90:=by
 obtain⟨b,h1,T,h2,h3⟩:=AC (body:=λs:List ByteArray×Int=>Ee a s.1 s.2) (λ(o:List ByteArray) i=>(o,i)) a.length
  (λi T=>1<=T.length/\(T.length<=max 1 i/\(i=0->T=[bs []]))/\PP T=Kt (a.take i)/\∀t∈T,(L t).length<=90)
  (λb=>∃T:List ByteArray,b= .inl T/\1<=T.length/\T.length<=max 1 a.length/\PP T=Kt a/\∀t∈T,(L t).length<=90)
  (λT i hi hT=>by
   obtain⟨g,⟨h,q⟩,j,k⟩:=hT;have hx:=Ab hi;obtain⟨t,t1,t2⟩:=lT<|d _<|Aw hi;have l:=ABz<|d _<|Aw hi;rw[<-t2]at l;have et:Kt (a.take<|i+1)=Kt (a.take i)++L t:=by grind [Ag,Kt]
   rcases Hp T with e|⟨T0,c,e⟩
   ·grind
   rw[KE]at e;subst e;have u:ln (T0++ [c])=((T0.length+1:Nat):Int):=by rw[Bb];simp
   rw[AE,Dg]at g h;have m:sb (ln<|T0++ [c]) 1=(T0.length:Int):=by grind [BY]
   have n:gi (T0++ [c]) (T0.length:Int)=some c:=Fd _ _;have p:=k c (by simp);rw[ACF]at j;simp only[Ee,Ds hi,Aq,hx,Aa];rw[t1];rw[m,n];simp only[Aa];rw[Bv,Bv,Cl,ad1];refine .inl ?_;by_cases f:((L c).length:Int)+((L t).length:Int)>90
   ·have v:i≠0:=λe=>by grind [DS]
    grind [AZ,PP]
   rw[Ai f,Ae,GY _ _<|by omega];simp only[Aa];rw[Kf];refine⟨T0++ [c++t],rfl,by simp,⟨by simp;omega,by omega⟩,?_,λx w=>?_⟩
   ·grind [Hq,PP]
   grind [Hq])
  (λT hT=>⟨_,by simp[CU,Ee],T,rfl,hT.1,hT.2.1.1,by grind,hT.2.2.2⟩) (s:=[bs []]) ⟨by simp,⟨by simp,λ_=>rfl⟩,by rfl,λt ht=>by grind [DS]⟩
 grind
theorem AAL (seq tx:Int) (a:List Cm) (hr:a.length<=1000) (c:∀r∈a,G0 r=true):∃T:List ByteArray,1<=T.length/\PP T=Kt a/\(∀t∈T,(L t).length<=90)/\T.length<=max 1 a.length/\
  ((IM seq tx a=some (Cg seq tx T,true)/\T.length<=9/\1<=seq/\seq+T.length-1<=1000000000/\1<=tx/\tx<=1000000000)\/(IM seq tx a=some ([],false)/\¬(T.length<=9/\1<=seq/\seq+T.length-1<=1000000000/\1<=tx/\tx<=1000000000))):=by
 obtain⟨T,h1,h2,h2',h3,h4⟩:=AAK a (by omega) c;refine⟨T,h2,h3,h4,h2',?_⟩;unfold IM;rw[h1];simp only[Aa,Dj];rw[Bb];by_cases h9:(T.length:Int)>9
 ·grind
 rw[Ai h9];rw[BY,Cl,CM,CM];simp only[Aa];by_cases hs:1<=seq/\seq<=1000000000-(T.length:Int)+1
 ·rw[Ac hs];by_cases ht:1<=tx/\tx<=1000000000
  ·left;obtain⟨b,q1,q2⟩:=AC (body:=λs:List Page×Int=>Ge seq tx T s.1 s.2) (λ(o:List Page) i=>(o,i)) T.length (λi o=>o=(Cg seq tx T).take i) (λb=>b=Cg seq tx T)
    (λo i hi ho=>by grind [Aq,Cl,Bb,AZ,D9,Ge,Cg])
    (λo ho=>⟨o,by simp[CU,Ge],by grind [AQ,Cg]⟩) (s:=[]) rfl
   grind
  grind
 grind
def Steps:Flash->List AH->Flash->Prop
 |f,[],g=>g=f
 |f,s::ss,g=>QH f s/\Steps (M7 f s) ss g
theorem HO:∀(f:Flash) (a b:List AH) (g:Flash),Steps f (a++b) g↔∃m,Steps f a m/\Steps m b g
 |f,[],b,g=>⟨λh=>⟨f,rfl,h⟩,λ⟨m,h1,h2⟩=>by rw[h1]at h2;exact h2⟩
 |f,s::a,b,g=>by
  rw[Cw];simp only[Steps,HO]
  grind
theorem U8:∀{f:Flash} {a:List AH} {g:Flash},Bl f->Steps f a g->Bl g
 |f,[],g,hf,h=>by rw[h];exact hf
 |f,s::a,g,hf,h=>U8 (lA hf h.1) h.2
theorem wG {a:List AH} {m:Flash} {s:AH} (h:Steps f a m) (hs:QH m s):Steps f (a++ [s]) (M7 m s):=(HO f a [s] _).2 ⟨m,h,hs,rfl⟩
theorem MT {a:List AH} (hf:Bl f) (h:Steps f a g) (ha:a.length<=1048576):IR f a=some (g,(a.length:Int)):=by
 unfold IR;rw[Cx f hf.cap];simp only[Aa];obtain⟨b,h1,h2⟩:=AC (body:=λs:Int×List Block=>DE a s.1 s.2) (λ(o:List Block) i=>(i,o)) a.length (λi o=>Steps f (a.take i) (Flash.mk o)/\Steps (Flash.mk o) (a.drop i) g) (λb=>b= .inl g.Blocks)
  (λo i hi hs=>by
   have hx:=Ab hi;obtain⟨s1,s2⟩:=hs;rw[AD hi]at s2;simp only[DE,Ds hi,Aq,hx,Aa];have hP:=U8 hf s1
   rcases QW hP a[i]with⟨k1,k2⟩|⟨k1,k2⟩
   ·rw[k2];rw[ad1];refine .inl ⟨(M7 (Flash.mk o) a[i]).Blocks,rfl,?_,s2.2⟩;rw[Ag hi];exact wG s1 k1
   exact absurd s2.1 k1)
  (λo hs=>⟨.inl o,by simp[CU,DE],by
   have:=hs.2;rw[List.drop_length]at this
   rw[show g=Flash.mk o from this]⟩) (s:=f.Blocks) ⟨rfl,h⟩
 rw[h1,h2];rfl
def IH:Flash->List AH->List Page->Flash->Prop
 |f,[],[],g=>g=f
 |f,s::ss,p::ps,g=>s.Kind=1/\qV f s.Block s.Leaf s.Text/\Fs s.Text=some (p,true)/\IH (M7 f s) ss ps g
 |_,_,_,_=>False
theorem Fe:∀{f:Flash} {ss:List AH} {ps:List Page} {g:Flash},IH f ss ps g->Steps f ss g/\ss.length=ps.length
 |f,[],[],g,h=>⟨h,rfl⟩
 |f,s::ss,p::ps,g,h=>⟨⟨.inl ⟨h.1,h.2.1⟩,(Fe h.2.2.2).1⟩,by rw[AY,AY,(Fe h.2.2.2).2]⟩
 |f,[],p::ps,g,h=>h.elim
 |f,s::ss,[],g,h=>h.elim
theorem eJ:∀{f:Flash} {ss:List AH} {ps:List Page} {g:Flash} {b l:Int} {t:ByteArray} {p:Page},IH f ss ps g->qV g b l t->Fs t=some (p,true)->IH f (ss++ [AH.mk 1 b l t]) (ps++ [p]) (V0 g b l (Leaf.mk 1 t))
 |f,[],[],g,b,l,t,p,h,h1,h2=>by
  have:g=f:=h;subst this;exact⟨rfl,h1,h2,by unfold M7;rfl⟩
 |f,s::ss,q::ps,g,b,l,t,p,h,h1,h2=>⟨h.1,h.2.1,h.2.2.1,eJ h.2.2.2 h1 h2⟩
 |f,[],q::ps,g,b,l,t,p,h,h1,h2=>h.elim
 |f,s::ss,[],g,b,l,t,p,h,h1,h2=>h.elim
def Cv (ss:List AH) (ps:List Page):List Al:=List.zipWith (λs p=>Al.mk s.Block s.Leaf p) ss ps
def H6:Int->List Page->Prop
 |_,[]=>True
 |n,p::ps=>n<=p.Seq/\H6 (p.Seq+1) ps
theorem eK:∀{f:Flash} {ss:List AH} {ps:List Page} {g:Flash} {r:List Al} {n:Int},Bl f->SR (KY 0 f.Blocks) r->IH f ss ps g->(∀y∈r,y.Page.Seq<n)->H6 n ps->SR (KY 0 g.Blocks) (r++Cv ss ps)
 |f,[],[],g,r,n,hf,a,h,hn,ha=>by
  have:g=f:=h;simp_all [Cv]
 |f,s::ss,p::ps,g,r,n,hf,a,h,hn,ha=>by
  obtain⟨h1,h2,h3,h4⟩:=h;obtain⟨k1,_,A,B,k2,k3,_⟩:=Rg hf h2;have c:M7 f s=V0 f s.Block s.Leaf (Leaf.mk 1 s.Text):=by grind [M7]
  rw[c]at h4;have b:SR (KY 0 (V0 f s.Block s.Leaf<|Leaf.mk 1 s.Text).Blocks) (r++ [Al.mk s.Block s.Leaf p]):=by
   rw[k3 p<|qJ h3]
   refine SR.add (by grind) λx hx=>?_
   have:=hn x hx;have:=ha.1;show x.Page.Seq<p.Seq;omega
  have:=eK k1 b h4 (n:=p.Seq+1) (λy hy=>by
   rw[A8,Cp]at hy
   rcases hy with hy|rfl
   ·have:=hn y hy;have:=ha.1;omega
   grind) ha.2
  rw[BU]at this;exact this
 |f,[],q::ps,g,r,n,hf,a,h,hn,ha=>h.elim
 |f,s::ss,[],g,r,n,hf,a,h,hn,ha=>h.elim
theorem VN:∀{f:Flash} {ss:List AH} {ps:List Page} {g:Flash} (k:Nat),IH f ss ps g->∃m,IH f (ss.take k) (ps.take k) m
 |f,[],[],g,k,h=>⟨f,by simp[IH]⟩
 |f,s::ss,p::ps,g,0,h=>⟨f,rfl⟩
 |f,s::ss,p::ps,g,k+1,h=>by
  obtain⟨m,hm⟩:=VN k h.2.2.2;exact⟨m,h.1,h.2.1,h.2.2.1,hm⟩
 |f,[],q::ps,g,k,h=>h.elim
 |f,s::ss,[],g,k,h=>h.elim
theorem ABH (hg:Bl g) (h:IH f ss ps g) (hs:ss.length<=1000) (p:Page):
  (∃s g',D1 g ss p=some (g',ss++ [s],true)/\IH f (ss++ [s]) (ps++ [p]) g'/\Bl g'/\Jx p/\V3 g s.Block s.Leaf)\/D1 g ss p=some (g,ss,false):=by
 by_cases hp:Jx p
 ·obtain⟨t,t1,t2,t3,t4⟩:=AAd hp
  rcases aS hg ss (by omega) p t1 (λ_=>⟨t2,t3⟩)with⟨_,b,l,q1,_,q2⟩|q
  ·left;have hm:qV g b l t:=by
    obtain⟨x,a1,a2,a3,a4⟩:=q1;exact⟨x,a1,a2,a3,a4,t2,t3⟩
   exact⟨_,_,q2,eJ h hm t4,(Rg hg hm).1,hp,q1⟩
  exact .inr q
 rcases aS hg ss (by omega) p (ABL hp) (λhh=>by cases hh)with⟨hh,_⟩|q
 ·cases hh
 exact .inr q
theorem bN (hf:Bl f) (ps:List Page) (rt:Bool) (c:ps.length<=9) (a:List Page) (ss0:List AH) (g0:Flash) (ok0:Bool) (h0:ok0=true->IH f ss0 a g0/\Bl g0/\ss0.length<=1):
  ∃ss ok,Ah (λs:List AH×Bool×Int×List Block=>BP (ps,rt) s.1 s.2.1 s.2.2.1 s.2.2.2) (ss0,ok0,0,g0.Blocks)=some (ss,ok)/\(ok=true->ok0=true/\∃g,IH f ss (a++ps) g/\Bl g/\∀p∈ps,Jx p):=by
 obtain⟨b,h1,h2⟩:=AC (body:=λs:List AH×Bool×Int×List Block=>BP (ps,rt) s.1 s.2.1 s.2.2.1 s.2.2.2) (λ(o:List AH×Bool×List Block) i=>(o.1,o.2.1,i,o.2.2)) ps.length
  (λi o=>o.2.1=true->ok0=true/\IH f o.1 (a++ps.take i) (Flash.mk o.2.2)/\Bl (Flash.mk o.2.2)/\o.1.length<=i+1/\∀p∈ps.take i,Jx p)
  (λb=>b.2=true->ok0=true/\∃g,IH f b.1 (a++ps) g/\Bl g/\∀p∈ps,Jx p)
  (λo i hi hs=>by
   obtain⟨ss,ok,bl⟩:=o;have hx:=Ab hi;simp only[BP,Fv,Ac hi,Ao,Aa]
   cases ok with
   |false=>grind
   |true=>
    obtain⟨k0,k1,k2,k3,k4⟩:=hs rfl;simp only[Ao,Aq,hx,Aa];refine .inl ?_
    rcases ABH k2 k1 (by omega) ps[i]with⟨s,g',q1,q2,q3,q4,_⟩|q
    ·rw[q1];rw[ad1];refine⟨(ss++ [s],true,g'.Blocks),rfl,λ_=>⟨k0,?_,q3,by simp;omega,λp hp=>?_⟩⟩
     ·simp_all
     grind [Ag]
    rw[q];rw[ad1]
    simp)
  (λo hs=>⟨(o.1,o.2.1),by grind [Fv,BP],λhh=>by grind⟩) (s:=(ss0,ok0,g0.Blocks)) (λhh=>by simp_all)
 grind
def C9 (d:Device) (c:Int) (a:ByteArray):List Page:=if L a=[]then []else [Page.mk 1 d.Seq c 0 1 a]
def Jk (d:Device) (a:ByteArray):Int:=if L a=[]then d.Seq else d.Seq+1
theorem oH (hf:Bl d.Flash) (j:0<=d.Seq/\d.Seq<=1000000001) (b:List Cm) (h:b≠ []) (hr:b.length<=1000) (i:∀r∈b,G0 r=true) (a:ByteArray):
  Da d b a=some ([],false)\/∃steps T g c,b[b.length-1]?=some c/\Da d b a=some (steps,true)/\1<=T.length/\T.length<=9/\PP T=Kt b/\(∀t∈T,(L t).length<=90)/\
   IH d.Flash steps (C9 d c.Chunk a++Cg (Jk d a) d.Tx T) g/\Bl g/\(∀p∈C9 d c.Chunk a++Cg (Jk d a) d.Tx T,Jx p)/\T.length<=max 1 b.length:=by
 have k:0<b.length:=Ns.2 h;obtain⟨c,e⟩:∃c,b[b.length-1]?=some c:=⟨_,Ab<|by omega⟩;unfold Da;rw[show(ln b==0)=false by grind [Bb]];have first:∃ss0 g0 ok0,(cond (!(seq a<|bs [])) (((gi b<|sb (ln b) 1).bind λx1=>(D1 d.Flash []<|Page.mk 1 d.Seq x1.Chunk 0 1 a).bind λv1=>some (v1.2.1,v1.2.2,v1.1.Blocks):Option (List AH×Bool×List Block)).bind λj2=>some (j2.1,ad d.Seq 1,j2.2.1,j2.2.2)) (some ([],d.Seq,true,d.Flash.Blocks)):Option (List AH×Int×Bool×List Block))=some (ss0,Jk d a,ok0,Flash.Blocks g0)/\(ok0=true->IH d.Flash ss0 (C9 d c.Chunk a) g0/\Bl g0/\ss0.length<=1/\∀p∈C9 d c.Chunk a,Jx p):=by
  by_cases ht:L a=[]
  ·have:seq a (bs [])=true:=by grind [KH,JH,DS]
   rw[this];refine⟨[],d.Flash,true,?_,λ_=>⟨?_,hf,by simp,?_⟩⟩
   ·grind [Jk]
   ·unfold C9;rw[Cn ht];rfl
   unfold C9;grind
  have:seq a (bs [])=false:=by grind [KH,DS]
  rw[this];rw[Bb,BY,show(b.length:Int)-1=((b.length-1:Nat):Int) by omega,Aq,e,Aa,Cl];have e1:Jk d a=d.Seq+1:=by grind [Jk]
  have e2:C9 d c.Chunk a=[Page.mk 1 d.Seq c.Chunk 0 1 a]:=by grind [C9]
  rw[e1,e2]
  rcases ABH (f:=d.Flash) (ss:=[]) (ps:=[]) hf rfl (by simp) (Page.mk 1 d.Seq c.Chunk 0 1 a)with⟨s,g',q1,q2,q3,q4,_⟩|q
  ·rw[q1];refine⟨_,g',true,rfl,λ_=>⟨q2,q3,by simp,λp hp=>?_⟩⟩
   grind
  rw[q];exact⟨_,d.Flash,false,rfl,λhh=>by cases hh⟩
 obtain⟨ss0,g0,ok0,e0,h0⟩:=first
 rw[e0];simp only[Aa];obtain⟨T,t1,t2,t3,tm,t4⟩:=AAL (Jk d a) d.Tx b hr i
 rcases t4 with⟨t4,t5,t6,t7,t8,t9⟩|⟨t4,_⟩
 ·rw[t4];simp only[Aa];obtain⟨ss,ok,q1,q2⟩:=bN hf (Cg (Jk d a) d.Tx T) true (by unfold Cg;grind) (C9 d c.Chunk a) ss0 g0 ok0 λhh=>⟨(h0 hh).1,(h0 hh).2.1,(h0 hh).2.2.1⟩;rw[q1];simp only[Aa]
  grind
 rw[t4];obtain⟨ss,ok,q1,q2⟩:=bN hf [] false (by simp) (C9 d c.Chunk a) ss0 g0 ok0 λhh=>⟨(h0 hh).1,(h0 hh).2.1,(h0 hh).2.2.1⟩
 grind
theorem RU (hf:Bl d.Flash) (q:0<=d.Seq/\d.Seq<=1000000001) (h:List Cm) (u:h≠ []) (hr:h.length<=1000) (v:∀r∈h,G0 r=true) (i:ByteArray):
  Da d h i=some ([],false)\/∃steps T g j,h[h.length-1]?=some j/\Da d h i=some (steps,true)/\1<=T.length/\T.length<=9/\PP T=Kt h/\(∀t∈T,(L t).length<=90)/\
   IH d.Flash steps (C9 d j.Chunk i++Cg (Jk d i) d.Tx T) g/\Bl g/\∀p∈C9 d j.Chunk i++Cg (Jk d i) d.Tx T,Jx p:=
 (oH hf q h u hr v i).imp id λ⟨s,T,g,l,a,b,c,e,f,k,m,n,o,_⟩=>⟨s,T,g,l,a,b,c,e,f,k,m,n,o⟩
def Lx (r:List Al) (c:Int):Option Al:=(r.filter<|Jm c).getLast?
noncomputable def ZY (t:ByteArray):Option ByteArray:=match Gd t with
 |some (s,true)=>some s
 |_=>none
noncomputable def BX (r:List Al) (c:Int):Option ByteArray:=(Lx r c).bind λy=>ZY y.Page.Text
theorem WO {c:Int}:Jm c y=true↔y.Page.Kind=1/\y.Page.Tx=c:=by
 unfold Jm
 grind
theorem bW {c:Int} (h:Lx r c=some y):y∈r/\y.Page.Kind=1/\y.Page.Tx=c:=by
 have:=List.mem_of_getLast? h
 grind [WO]
theorem Qh (r:List Al) (y:Al) (c:Int):Lx (r++ [y]) c=if y.Page.Kind=1/\y.Page.Tx=c then some y else Lx r c:=by simp_all [WO,Lx];grind
theorem jG (r m:List Al) (h:∀y∈m,y.Page.Kind≠1) (c:Int):Lx (r++m) c=Lx r c:=by grind [WO,Lx]
theorem dC {α:Type} {y:α} (l:List α) (p:α->Bool) (h:l.getLast? =some y) (hp:p y=true):(l.filter p).getLast? =some y:=by
 rcases Hp l with e|⟨m,x,e⟩
 ·grind
 grind
theorem qT {c:Int} (p:Al->Bool) (h:Lx r c=some y) (hp:p y=true):Lx (r.filter p) c=some y:=by
 unfold Lx at h⊢;rw[DX];have:r.filter (λa=>Jm c a&&p a)=(r.filter<|Jm c).filter p:=by grind [DX]
 grind [dC]
theorem bU {c:Int} {o:Option Nat} (h:Sg c r r.length o):Lx r c=o.bind λj=>r[j]? :=by
 cases o with
 |none=>
  unfold Lx;have:r.filter (Jm c)=[]:=by
   rw[BM];intro y hy;obtain⟨j,hj,rfl⟩:=Au hy;have:=h j r[j] hj<|Ab hj;rw[this];simp
  rw[this];rfl
 |some j=>
  obtain⟨h1,⟨y,h2,h3⟩,h4⟩:=h;unfold Lx;obtain⟨e1,e2⟩:=JU h2;have:(r.drop<|j+1).filter (Jm c)=[]:=by
   rw[BM];intro z hz;obtain⟨k,hk,rfl⟩:=Au hz;rw[Q9]at hk;rw[List.getElem_drop];have:=h4 (j+1+k) _ (by omega) (by omega) (Ab<|by omega);rw[this];simp
  grind
theorem uD (hr:r.length<=1048576) (c:Int):∃y ok,MC r c=some (y,ok)/\Lx r c=(if ok=true then some y else none):=by
 obtain⟨o,h1,h2⟩:=jF r hr c;have h3:=bU h2
 cases o with
 |none=>grind
 |some j=>
  obtain⟨_,⟨y,k1,_⟩,_⟩:=h2
  grind [Lp]
theorem aV (hr:G6 r) (c:Int):∃u ok,Ki r c=some (u,ok)/\BX r c=(if ok=true then some u else none):=by
 obtain⟨y,ok,h1,h2⟩:=uD hr.len c;unfold Ki BX;rw[h1,h2]
 cases ok with
 |false=>simp
 |true=>
  have hy:=(bW (by rw[h2];rfl)).1;obtain⟨u,ok2,k1,_,_⟩:=Ve y.Page.Text (by have:=hr.text y hy;omega)
  grind [ZY]
structure JJ (r:List Al):Prop where
 pages:G6 r
 inc:r.Pairwise λx y=>x.Page.Seq<y.Page.Seq
 mu:tB r
def Dz (l:Vs) (c:Int):Prop:=0<c/\∃p∈l,c∈p.2
structure Hc (r:List Al) (P:Int->Prop):Prop where
 data:∀c,P c->∃s,BX r c=some s
 dist:∀c c',P c->P c'->BX r c=BX r c'->c=c'
theorem Hc.mono {Q:Int->Prop} (h:Hc r P) (hq:∀c,Q c->P c):Hc r Q:=⟨λc hc=>h.data c<|hq c hc,λc c' hc hc'=>h.dist c c' (hq c hc)<|hq c' hc'⟩
theorem Hc.congr (h:Hc r P) (he:∀c,P c->BX r' c=BX r c):Hc r' P:=⟨λc hc=>by rw[he c hc];exact h.data c hc,λc c' hc hc' e=>h.dist c c' hc hc'<|by grind⟩
theorem Hc.metas {m:List Al} (h:Hc r P) (hm:∀y∈m,y.Page.Kind≠1):Hc (r++m) P:=h.congr λc _=>by grind [jG,BX]
theorem tH (h:Hc r P) (hy:¬P y.Page.Tx):Hc (r++ [y]) P:=h.congr λc hc=>by grind [Qh,BX]
theorem tI (h:Hc r P) (hy:ZY y.Page.Text=BX r y.Page.Tx):Hc (r++ [y]) P:=h.congr λc hc=>by grind [Qh,BX]
theorem AAS {s:ByteArray} (h:Hc r P) (hk:y.Page.Kind=1) (hn:¬P y.Page.Tx) (ht:ZY y.Page.Text=some s) (hs:∀c,P c->BX r c≠some s):Hc (r++ [y]) (λc=>P c\/c=y.Page.Tx):=by
 have b:BX (r++ [y]) y.Page.Tx=some s:=by grind [Qh,BX]
 have a:∀c,P c->BX (r++ [y]) c=BX r c:=λc hc=>by grind [Qh,BX]
 refine⟨λc hc=>?_,λc c' hc hc' e=>?_⟩
 ·rcases hc with hc|rfl
  ·rw[a c hc];exact h.data c hc
  grind
 rcases hc with hc|rfl<;>rcases hc' with hc'|rfl
 ·exact h.dist c c' hc hc'<|by grind
 ·grind
 ·grind
 rfl
theorem JJ.filter (h:JJ r) (p:Al->Bool):JJ (r.filter p):=by
 refine⟨⟨by have:=Be p r;have:=h.pages.len;omega,λy hy=>h.pages.text y (AR.1 hy).1,λy hy=>h.pages.seq y (AR.1 hy).1,λy hy=>h.pages.tx y (AR.1 hy).1,λy hy=>h.pages.cnt y (AR.1 hy).1,λy hy=>h.pages.part y (AR.1 hy).1⟩,h.inc.filter _,⟨λy hy z hz=>h.mu.uniq y (AR.1 hy).1 z (AR.1 hz).1⟩⟩
theorem JJ.add (h:JJ r) (hl:r.length<=1000000) (hb:Jx y.Page) (hs:D6 r<=y.Page.Seq) (hm:y.Page.Kind=2->∀z∈r,z.Page.Kind=2->z.Page.Tx=y.Page.Tx->z.Page.Part≠y.Page.Part):JJ (r++ [y]):=by
 obtain⟨b1,b2,b3,b4,b5,b6,b7⟩:=hb
 have all:∀{P:Al->Prop},(∀z∈r,P z)->P y->∀z∈r++ [y],P z:=λh1 h2 z hz=>by grind
 refine⟨⟨by simp;omega,all h.pages.text b6,all h.pages.seq b2,all h.pages.tx b3,all h.pages.cnt b4,all h.pages.part b5⟩,?_,⟨λu hu v hv k1 k2 e1 e2=>?_⟩⟩
 ·rw[Bo];refine⟨h.inc,List.pairwise_singleton _ _,λu hu v hv=>?_⟩;rw[Cp]at hv;rw[hv];have:=(Ow r).1 u hu;omega
 rw[A8,Cp]at hu hv
 rcases hu with hu|rfl<;>rcases hv with hv|rfl
 ·exact h.mu.uniq u hu v hv k1 k2 e1 e2
 ·grind
 ·grind
 rfl
theorem iK (h:D6 r<=y.Page.Seq):D6 (r++ [y])=y.Page.Seq+1:=by rw[Zz,Cn h]
theorem JJ.metas {t:Int} (h:JJ r) (ht:∀y∈r,y.Page.Kind=2->y.Page.Tx<t):∀(m:List Al) (k:Nat),r.length+m.length<=1000000->(∀(i:Nat) y,m[i]?=some y->y.Page.Kind=2/\y.Page.Tx=t/\y.Page.Part=i/\y.Page.Seq=D6 r+i/\Jx y.Page)->k<=m.length->JJ (r++m.take k)/\D6 (r++m.take k)=D6 r+k
 |m,0,_,_,_=>by simpa using h
 |m,k+1,hl,hm,hk=>by
  obtain⟨ih1,ih2⟩:=JJ.metas h ht m k hl hm (by omega);have hx:m[k]?=some m[k]:=Ab (by omega);obtain⟨k1,k2,k3,k4,k5⟩:=hm k _ hx;rw[Ag (by omega),<-BU];refine⟨JJ.add ih1 (by simp;omega) k5 (by grind) λ_ z hz a b=>?_,?_⟩
  ·grind [Au]
  grind [iK]
theorem yI (i:Int):∀(k:Int) (l:List Leaf),(Y1 i k l).length<=l.length
 |_,[]=>A4 _
 |k,x::l=>by
  rw[Y1,AE,AY];have:=yI i (k+1) l
  grind [pg]
theorem yJ:∀(i:Int) (l:List Block),(KY i l).length<=nl l
 |_,[]=>A4 _
 |i,b::l=>by
  rw[KY,AE];have:=yJ (i+1) l
  grind [yI,nl]
theorem AFt (hf:Bl f) (h:SR (KY 0 f.Blocks) r):r.length<=40:=by
 have h1:=yJ 0 f.Blocks;have h2:=hf.few;have h3:=h.2.len;omega
theorem OO:∀{ss:List AH} {ps:List Page} {i:Nat} {y:Al},(Cv ss ps)[i]?=some y->ps[i]?=some y.Page
 |[],_,i,y,h=>by simp[Cv]at h
 |s::ss,[],i,y,h=>by simp[Cv]at h
 |s::ss,p::ps,0,y,h=>by grind [Cv]
 |s::ss,p::ps,i+1,y,h=>by grind [Cv]
theorem dG (h:ss.length=ps.length):(Cv ss ps).length=ps.length:=by unfold Cv;grind
theorem YD (ss:List AH) (ps:List Page) (k:Nat):Cv (ss.take k) (ps.take k)=(Cv ss ps).take k:=by unfold Cv;grind
theorem sH:∀(T:List ByteArray),(∀t∈T,(L t).length<=90)->(PP T).length<=90*T.length
 |[],_=>by simp[PP]
 |t::T,h=>by
  have:=sH T λx hx=>h x<|by simp[hx]
  grind [PP]
theorem jI {r1 m:List Al} (h:JJ r1) (hl:r1.length<=1000) {a:List Cm} (c:1<=T.length) (d:T.length<=9) (e:∀t∈T,(L t).length<=90) (f:PP T=Kt a) (g:∀r∈a,G0 r=true) (hm:∀(i:Nat) y,m[i]?=some y->(Cg (D6 r1) (EI r1) T)[i]?=some y.Page) (j:m.length=T.length) (l:∀p∈Cg (D6 r1) (EI r1) T,Jx p) (k:Nat) (hk:k<=T.length):
  JJ (r1++m.take k)/\(∀y∈m.take k,y.Page.Kind≠1)/\(k<T.length->AU (r1++m.take k)=AU r1)/\(k=T.length->∃q,AU (r1++m.take k)=AU r1++ [Tx.mk (EI r1) q a]):=by
 have n:∀(i:Nat) y,m[i]?=some y->∃t,T[i]?=some t/\y.Page=Page.mk 2 (D6 r1+i) (EI r1) i T.length t:=by grind [Cg]
 have b:=kZ r1;obtain⟨c1,_⟩:=JJ.metas h b.1 m k (by omega) (λi y hy=>by grind) (by omega);have hN:kR (m.take k) (EI r1) T.length T:=by
  refine⟨by grind,⟨c,d⟩,rfl,λi y hy=>?_⟩
  grind
 obtain⟨g1,g2⟩:=vD r1 (λy hy=>(h.pages.tx y hy).1) b.1 b.2.1 hN;refine⟨c1,λy hy=>by rw[(hN.all hy).1];omega,λhh=>g1 (by grind),λhh=>g2 (by grind) a ?_⟩
 grind [uE,sH]
structure Jn (d:Device) (r:List Al):Prop where
 dev:Hb d r
 core:JJ r
 data:Hc r (Dz (AF d.Store))
theorem Jn.few (h:Jn d r):r.length<=40:=AFt h.dev.fl h.dev.sr
theorem Nn (hg:Bl g) (a:SR (KY 0 g.Blocks) r):∃d,Cs g=some (d,true)/\Hb d r/\d.Flash=g:=by
 obtain⟨d,r',h1,h2,h3⟩:=QR hg;have:r'=r:=by
  have h4:=h2.sr;rw[h3]at h4;exact h4.uniq a
 grind
theorem Vc (seq tx:Int) (T:List ByteArray):H6 seq (Cg seq tx T):=by
 have a:∀(l:List ByteArray) (i:Nat) (n:Int),n<=seq+i->H6 n (l.mapIdx λj t=>Page.mk 2 (seq+(i+j:Nat)) tx (i+j:Nat) T.length t):=by
  intro l
  induction l with
  |nil=>intro i n _;trivial
  |cons x l ih=>
   intro i n hn;rw[List.mapIdx_cons];refine⟨by simpa using hn,?_⟩;have:=ih (i+1) (seq+(i:Int)+1)<|by omega
   grind
 have:=a T 0 seq<|by omega
 grind [Cg]
theorem vO (c:Int) (a:ByteArray) (tx:Int) (T:List ByteArray):H6 d.Seq (C9 d c a++Cg (Jk d a) tx T):=by
 unfold C9 Jk;by_cases e:L a=[]
 ·grind [Vc]
 rw[B6 e,B6 e];exact⟨L0 _,Vc _ _ _⟩
theorem MX (ss:List AH) (ps:List Page) (k:Nat):∀y∈(Cv ss ps).take k,y.Page∈ps:=by
 intro y hy;obtain⟨i,hi,rfl⟩:=Au<|List.mem_of_mem_take hy;exact Aj<|OO<|Ab hi
def FU (f:Flash) (n:Int):Prop:=∀b∈f.Blocks,b.Wear<=n
theorem kW {l:List Block} {n:Int} {x:Block} (h:∀y∈l,y.Wear<=n) (hx:x.Wear<=n):∀y∈si l b x,y.Wear<=n:=by grind [si]
theorem iE {s:AH} {n m:Int} (h:FU f n) (hm:n<=m) (hs:s.Kind=1\/n+1<=m):FU (M7 f s) m:=by
 have h0:∀y∈f.Blocks,y.Wear<=m:=λy hy=>by have:=h y hy;omega
 unfold M7 V0 Yg FU;by_cases e:s.Kind=1
 ·rw[Cn e]
  cases hg:gi f.Blocks s.Block with
  |none=>exact h0
  |some x=>exact kW h0<|h0 x<|Aj (Ct hg).2
 rw[B6 e]
 cases hg:gi f.Blocks s.Block with
 |none=>exact h0
 |some x=>exact kW h0 (by have:=h x<|Aj (Ct hg).2;grind)
theorem VM {n:Int}:∀{f:Flash} {ss:List AH} {ps:List Page} {g:Flash},IH f ss ps g->FU f n->FU g n
 |f,[],[],g,h,hw=>by rw[show g=f from h];exact hw
 |f,s::ss,p::ps,g,h,hw=>VM h.2.2.2 (iE hw (L0 _) (.inl h.1))
 |f,[],q::ps,g,h,_=>h.elim
 |f,s::ss,[],g,h,_=>h.elim
theorem RY:∀{f:Flash} {ss:List AH} {ps:List Page} {g:Flash},IH f ss ps g->∀s∈ss,s.Kind=1
 |f,[],[],g,h,s,hs=>by cases hs
 |f,s::ss,p::ps,g,h,x,hs=>by
  rcases GC.1 hs with rfl|hs
  ·exact h.1
  exact RY h.2.2.2 x hs
 |f,[],q::ps,g,h,_,_=>h.elim
 |f,s::ss,[],g,h,_,_=>h.elim
def ZU (f g:Flash):Prop:=∀n,FU f n->FU g n
theorem Xv (h:Jn d r) {l:List Cm} (x:∀r∈l,G0 r=true) {a:ByteArray} {b:Cm} {steps:List AH} (z:1<=T.length) (h0:T.length<=9) (h1:PP T=Kt l) (v:∀t∈T,(L t).length<=90) (hp:IH d.Flash steps (C9 d b.Chunk a++Cg (Jk d a) d.Tx T) g) (o:∀p∈C9 d b.Chunk a++Cg (Jk d a) d.Tx T,Jx p) (a6:L a≠ []->¬Dz (AF d.Store) b.Chunk) (k:Nat) (hk:k<=steps.length):
  ∃m d' r',Steps d.Flash (steps.take k) m/\Bl m/\Cs m=some (d',true)/\Hb d' r'/\d'.Flash=m/\r'=r++(Cv steps (C9 d b.Chunk a++Cg (Jk d a) d.Tx T)).take k/\ZU d.Flash m/\JJ r'/\Hc r' (Dz (AF d.Store))/\
   (k<steps.length->AU r'=AU r)/\(k=steps.length->(∃q,AU r'=AU r++ [Tx.mk d.Tx q l])/\∀s,ZY a=some s->L a≠ []->(∀c,Dz (AF d.Store) c->BX r c≠some s)->Hc r' (λc=>Dz (AF d.Store) c\/c=b.Chunk)):=by
 obtain⟨a7,f⟩:=Fe hp;obtain⟨m,hm⟩:=VN k hp;obtain⟨h2,_⟩:=Fe hm;have h3:=U8 h.dev.fl h2;have a5:=h.few
 have h4:∀y∈r,y.Page.Seq<d.Seq:=λy hy=>by rw[h.dev.seq];simp_all [Ow]
 have h5:=vO (d:=d) b.Chunk a d.Tx T;have ascT:∀(ps:List Page) (n:Int) (k:Nat),H6 n ps->H6 n (ps.take k):=by
  intro ps
  induction ps with
  |nil=>grind
  |cons p ps ih=>
   intro n k ha
   cases k with
   |zero=>trivial
   |succ k=>exact⟨ha.1,ih _ k ha.2⟩
 have h6:=eK h.dev.fl h.dev.sr hm h4<|ascT _ _ k h5;rw[YD]at h6;obtain⟨d',u1,u2,u3⟩:=Nn h3 h6;refine⟨m,d',r++(Cv steps<|C9 d b.Chunk a++Cg (Jk d a) d.Tx T).take k,h2,h3,u1,u2,u3,rfl,λ_=>VM hm,?_⟩;have w:(Cg (Jk d a) d.Tx T).length=T.length:=by unfold Cg;grind
 have u:=dG f;by_cases e:L a=[]
 ·
  have e1:C9 d b.Chunk a=[]:=by grind [C9]
  have e2:Jk d a=d.Seq:=by grind [Jk]
  rw[e1,e2,Az]at u f o⊢;rw[e2]at w;rw[h.dev.seq,h.dev.tx]at u f o w⊢;obtain⟨a1,a2,a3,a4⟩:=jI h.core (by omega) z h0 v h1 x (m:=Cv steps<|Cg (D6 r) (EI r) T) (λi y hy=>OO hy) (by omega) o k (by omega);exact⟨a1,h.data.metas a2,λhh=>a3 (by omega),λhh=>⟨a4 (by omega),λs _ h7=>absurd e h7⟩⟩
 have e1:C9 d b.Chunk a=[Page.mk 1 d.Seq b.Chunk 0 1 a]:=by grind [C9]
 have e2:Jk d a=d.Seq+1:=by grind [Jk]
 rw[e1,e2]at u f o⊢;rw[e2]at w;rw[KD]at u f o⊢;rw[AY]at f u
 match hsteps:steps,f with
 |[],f=>simp at f
 |s0::ss,f=>
  have ef:Cv (s0::ss) (Page.mk 1 d.Seq b.Chunk 0 1 a::Cg (d.Seq+1) d.Tx T)=Al.mk s0.Block s0.Leaf (Page.mk 1 d.Seq b.Chunk 0 1 a)::Cv ss (Cg (d.Seq+1) d.Tx T):=rfl;rw[ef]
  cases k with
  |zero=>
   rw[List.take_zero,AW];exact⟨h.core,h.data,λ_=>rfl,λhh=>by simp at hh⟩
  |succ k=>
   rw[List.take_succ_cons];generalize h8:Al.mk s0.Block s0.Leaf (Page.mk 1 d.Seq b.Chunk 0 1 a)=y0;have j:y0.Page=Page.mk 1 d.Seq b.Chunk 0 1 a:=by rw[<-h8]
   have c1:JJ (r++ [y0]):=JJ.add h.core (by omega) (by grind) (by rw[j,h.dev.seq];exact L0 _) (λhh=>by grind);have g1:AU (r++ [y0])=AU r:=YC r (by rw[j];simp);have s1:D6 (r++ [y0])=d.Seq+1:=by rw[iK (by rw[j,h.dev.seq];exact L0 _),j]
   have t1:EI (r++ [y0])=d.Tx:=by rw[Zx,B6 (by rw[j];simp),h.dev.tx]
   have h9:(Cv ss<|Cg (d.Seq+1) d.Tx T).length=T.length:=by grind
   rw[List.append_cons];obtain⟨a1,a2,a3,a4⟩:=jI c1 (by simp;omega) z h0 v h1 x (m:=Cv ss<|Cg (d.Seq+1) d.Tx T) (by grind [OO]) h9 (by grind) k (by omega);have dz:Hc (r++ [y0]) (Dz<|AF d.Store):=tH h.data (by grind);rw[g1,t1]at a4;rw[g1]at a3;have a8:ss.length=T.length:=by simp at f;omega
   refine⟨a1,dz.metas a2,λhh=>a3 (by simp at hh;omega),λhh=>⟨a4 (by simp at hh;omega),λs hs _ a0=>?_⟩⟩;have:=AAS h.data (y:=y0) (s:=s) (by rw[j]) (by grind) (by grind) a0;rw[j]at this;exact this.metas a2
theorem dX (h:Ci s):Ls s.Arena:=by unfold Ls;have:=h.few;omega
theorem ABW (h:Ci s) (x:Int):x∈Hd s s.Vols.length↔∃p∈AF s,x∈p.2:=by
 unfold Hd AF;simp only[List.mem_flatten,A6]
 have a:∀v∈s.Vols,(HS s.Arena v.Root).getD []=DJ s.Arena.Knots v.Root:=λv hv=>by
  rw[O9 _ (by have:=h.few;omega) h.ar<|h.root _<|A6.2 ⟨v,hv,rfl⟩];rfl
 grind
theorem Gy (h:Ci s):∃l,EK s=some l/\asc l/\(∀x,x∈l↔Dz (AF s) x)/\l.length<=16777216:=by
 have:=h.len;obtain⟨l,h1,h2,h3⟩:=Yw s (by omega)<|dX h;refine⟨l,h1,h2.1,λx=>?_,h3⟩;rw[h2.2 x,ABW h]
 grind [Dz]
theorem ZA {c:Int} (h:Ci s) (hc:Dz (AF s) c):0<c/\c<s.Next:=by
 obtain⟨h0,p,hp,hx⟩:=hc;unfold AF at hp;obtain⟨v,hv,rfl⟩:=A6.1 hp;exact⟨h0,h.lt _ (A6.2 ⟨v,hv,rfl⟩) c hx⟩
def C1 (r:List Al) (live:List Int) (a:Int):List Bool:=live.foldl (fU r)<|r.map<|D5 a
theorem Ku (r:List Al) (live:List Int) (a:Int):(C1 r live a).length=r.length:=by unfold C1;rw[dH,Ba]
theorem Qi (r:List Al) (live:List Int) (a:Int) (hy:r[j]?=some y):(C1 r live a)[j]?=some (D5 a y||live.any (λc=>Sm c r r.length==some j)):=by grind [bY,C1]
theorem ADg {c:Int} (h:Sm c r r.length=some j):Lx r c=r[j]? :=by
 rw[bU<|PX c r r.length<|A4 _,h];rfl
theorem ADK {c:Int} (h:Lx r c=some y):∃j,Sm c r r.length=some j/\r[j]?=some y:=by
 have:=bU<|PX c r r.length<|A4 _;rw[h]at this
 cases ht:Sm c r r.length with
 |none=>grind
 |some j=>grind
theorem zI {p:Nat->Bool} (h:cn n p=0):∀j,j<n->p j=false:=by grind [BM,cn]
theorem ADC {live:List Int} {a b:Int} (h:cn r.length (λj=>(C1 r live a)[j]?.getD false&&bk r b j)=0):∀y∈r,y.Block=b->(y.Page.Kind=2->y.Page.Tx<a)/\∀c∈live,Lx r c≠some y:=by
 intro y hy hb;obtain⟨j,hj,rfl⟩:=Au hy;have hx:=Ab hj;have h1:=zI h j hj;rw[Qi r live a hx]at h1;have h2:bk r b j=true:=by unfold bk;grind
 rw[h2,Bool.and_true,D4,Bool.or_eq_false_iff]at h1;refine⟨λhk=>?_,λc hc hn=>?_⟩
 ·grind [D5]
 
 obtain⟨i,i1,i2⟩:=ADK hn
 grind [zI,Qi,bk]
theorem bG (h:Hb d r):∃l,IS d=some l/\l.length<=10/\∀b∈l,∃x,gi d.Flash.Blocks b=some x/\x.Bad=false/\∀y∈r,y.Block=b->(y.Page.Kind=2->y.Page.Tx<d.Base)/\∀c,Dz (AF d.Store) c->Lx r c≠some y:=by
 obtain⟨live,l1,l2,l3,l4⟩:=Gy h.st;have hn:=h.fl.n;unfold IS;rw[h.scan.s,l1];simp only[Aa];rw[NF r live d.Base h.scan.len l4];have e:live.foldl (fU r) (r.map<|D5 d.Base)=C1 r live d.Base:=rfl;rw[e];obtain⟨b,q1,q2⟩:=AC (body:=λs:List Int×Int=>DN d r (C1 r live d.Base) s.1 s.2) (λ(o:List Int) i=>(o,i)) d.Flash.Blocks.length
  (λi o=>o.length<=i/\∀b∈o,∃x,gi d.Flash.Blocks b=some x/\x.Bad=false/\∀y∈r,y.Block=b->(y.Page.Kind=2->y.Page.Tx<d.Base)/\∀c,Dz (AF d.Store) c->Lx r c≠some y)
  (λo=>o.length<=10/\∀b∈o,∃x,gi d.Flash.Blocks b=some x/\x.Bad=false/\∀y∈r,y.Block=b->(y.Page.Kind=2->y.Page.Tx<d.Base)/\∀c,Dz (AF d.Store) c->Lx r c≠some y)
  (λo i hi ho=>by
   have hx:=Ab hi;have hP:=h.fl.blk _<|Aw hi;obtain⟨nbl,_,bl⟩:=sM d.Flash.Blocks[i] (by rw[hP.four];omega);simp only[DN,Ds hi,Aq,hx,Aa];rw[bl,bP r _ (i:Int) h.scan.len<|Ku _ _ _,ad1];simp only[Aa];refine .inl ?_
   cases a:d.Flash.Blocks[i].Bad with
   |true=>grind
   |false=>
    simp only[CG,Ao]
    cases g:(!(!decide (nbl<ln d.Flash.Blocks[i].Leaves)))with
    |false=>grind
    |true=>
     cases hz:((((cn r.length (λj=>(C1 r live d.Base)[j]?.getD false&&bk r (i:Int) j):Nat)):Int)==0)with
     |false=>grind
     |true=>
      rw[AZ (by simp;omega)];refine⟨_,rfl,by simp;omega,λb hb=>?_⟩;rw[A8,Cp]at hb
      rcases hb with hb|rfl
      ·exact ho.2 b hb
      refine⟨_,by grind [Aq],a,λy hy f=>?_⟩;have hz':cn r.length (λj=>(C1 r live d.Base)[j]?.getD false&&bk r (i:Int) j)=0:=by grind
      obtain⟨a1,a2⟩:=ADC hz' y hy f
      grind)
  (λo ho=>⟨o,by simp[CU,DN],by omega,ho.2⟩) (s:=[]) ⟨by simp,λb hb=>by cases hb⟩
 grind
theorem Ic (h:Hb d r) (h':Hb d' r') (e:CB (AU r')=CB (AU r)):AF d'.Store=AF d.Store/\d'.Store.Next=d.Store.Next/\d'.Base=d.Base:=by
 have h1:=h'.ab;rw[e,<-h.ab]at h1
 injection h1 with h1 h2
 exact⟨h1,h2,by rw[h'.base,h.base,e]⟩
theorem ADb (h:Jn d r) (hb:∀y∈r,y.Block=b->(y.Page.Kind=2->y.Page.Tx<d.Base)/\∀c,Dz (AF d.Store) c->Lx r c≠some y) (hg:Bl g) (hp:KY 0 g.Blocks=(KY 0 d.Flash.Blocks).filter λy=>y.Block !=b):
  ∃d',Cs g=some (d',true)/\d'.Flash=g/\Jn d' (r.filter λy=>y.Block !=b)/\AF d'.Store=AF d.Store/\d'.Store.Next=d.Store.Next/\d'.Base=d.Base/\∀c,Dz (AF d.Store) c->BX (r.filter λy=>y.Block !=b) c=BX r c:=by
 have a:SR (KY 0 g.Blocks) (r.filter λy=>y.Block !=b):=by rw[hp];exact h.dev.sr.filter _
 obtain⟨d',u1,u2,u3⟩:=Nn hg a
 have hs:=lC r h.core.pages h.core.mu (λy=>y.Block !=b) (λy hy hk ht=>by
  have:y.Block≠b:=λe=>by
   have:=(hb y hy e).1 hk;rw[h.dev.base]at this;omega
  simpa using this)
 obtain⟨e1,e2,e3⟩:=Ic h.dev u2 hs
 have ht:∀c,Dz (AF d.Store) c->BX (r.filter λy=>y.Block !=b) c=BX r c:=λc hc=>by grind [qT,BX,Lx]
 refine⟨d',u1,u3,⟨u2,h.core.filter _,?_⟩,e1,e2,e3,ht⟩;rw[e1];exact h.data.congr ht
def Hw (id:Int):Nat->List Int->List Cm
 |_,[]=>[]
 |k,x::row=>(if x>0 then [Cm.mk 4 id k x]else [])++Hw id (k+1) row
def QE (p:Int×List Int):List Cm:=Cm.mk 2 p.1 0 0::Hw p.1 0 p.2
def N3 (l:Vs) (nx:Int):List Cm:=Cm.mk 1 0 nx 0::l.flatMap QE
theorem QZ (id x:Int):∀(k:Nat) (a:List Int),Hw id k (a++ [x])=Hw id k a++(if x>0 then [Cm.mk 4 id (k+a.length:Nat) x]else [])
 |k,[]=>by simp[Hw]
 |k,y::a=>by
  rw[Cw,Hw,QZ id x (k+1) a,Hw,BU,AY,show k+1+a.length=k+(a.length+1) by omega]
theorem Yy (id:Int):∀(k:Nat) (a:List Int),(Hw id k a).length<=a.length
 |_,[]=>A4 _
 |k,x::a=>by
  rw[Hw,AE,AY];have:=Yy id (k+1) a
  grind
theorem mI (K:Ks) (r:Int):(DJ K r).length=16:=by unfold DJ;simp
theorem rY:∀(l:Vs),(∀p∈l,p.2.length=16)->(l.flatMap QE).length<=17*l.length
 |[],_=>A4 _
 |p::l,h=>by
  have:=rY l λq hq=>h q<|by simp[hq]
  grind [Yy,QE]
theorem W6 (h:Ci s):LU s=some (N3 (AF s) s.Next):=by
 have hl:=h.len;unfold LU;obtain⟨b,h1,h2⟩:=AC (body:=λq:List Cm×Int=>En s q.1 q.2) (λ(o:List Cm) i=>(o,i)) s.Vols.length (λi o=>o=N3 ((AF s).take i) s.Next/\o.length<=1+17*i) (λo=>o=N3 (AF s) s.Next)
  (λo i hi ho=>by
   have hx:=Ab hi;have hr:=h.root _<|A6.2 ⟨s.Vols[i],Aw hi,rfl⟩;have et:(AF s).take (i+1)=(AF s).take i++ [(s.Vols[i].Id,DJ s.Arena.Knots s.Vols[i].Root)]:=by grind [D9,AF]
   simp only[En,Ds hi,Aq,hx,Aa];rw[AZ (by simp;omega),Aa,O9 _ (by have:=h.few;omega) h.ar hr];simp only[Aa];obtain⟨u,u1,u2,u3⟩:=AC (body:=λq:List Cm×Int=>EZ s (i:Int) (DJ s.Arena.Knots s.Vols[i].Root) q.1 q.2) (λ(l:List Cm) k=>(l,k)) (DJ s.Arena.Knots s.Vols[i].Root).length
    (λk u=>u=o++ [Cm.mk 2 s.Vols[i].Id 0 0]++Hw s.Vols[i].Id 0 ((DJ s.Arena.Knots s.Vols[i].Root).take k)/\u.length<=o.length+1+k) (λu=>u=o++ [Cm.mk 2 s.Vols[i].Id 0 0]++Hw s.Vols[i].Id 0 (DJ s.Arena.Knots s.Vols[i].Root)/\u.length<=o.length+17)
    (λu k hk hu=>by
     obtain⟨c,d⟩:=hu;have a:=Ab hk;have f:=mI s.Arena.Knots s.Vols[i].Root;have etk:=Ag hk;simp only[EZ,Ds hk,Aq,a,hx,Aa];rw[ad1];refine .inl ?_;by_cases e:(DJ s.Arena.Knots s.Vols[i].Root)[k]>0
     ·rw[Ac e,Ao,AZ (by simp;omega)]
      grind [QZ]
     grind [QZ])
    (λu hu=>⟨u,by rfl,by grind,by grind [mI]⟩) (s:=o++ [Cm.mk 2 s.Vols[i].Id 0 0]) ⟨by simp[Hw],by simp⟩
   grind [ad1,N3,QE])
  (λo ho=>⟨o,by simp[CU,En],by grind [Lt]⟩) (s:=[Cm.mk 1 0 s.Next 0]) ⟨rfl,by simp⟩
 grind
structure VsP (l:Vs) (nx:Int):Prop where
 len:l.length<=3
 nxt:1<=nx/\nx<=1000000000
 ids:∀p∈l,1<=p.1/\p.1<=9
 asc:l.Pairwise λp q=>p.1<q.1
 row:∀p∈l,p.2.length=16
 num:∀p∈l,∀x∈p.2,0<=x/\x<nx
theorem sG {r:Int} (hK:Cy K=true) (hr:CA K r=true):∀x∈DJ K r,0<=x:=by grind [BN,F5,ACd,DJ,Qz]
theorem Ci.vs (h:Ci s):VsP (AF s) s.Next:=by
 have mem:∀p∈AF s,∃v∈s.Vols,p=(v.Id,DJ s.Arena.Knots v.Root):=λp hp=>by
  obtain⟨v,hv,rfl⟩:=A6.1 hp
  grind
 refine⟨by rw[Lt];exact h.len,h.nx,λp hp=>?_,?_,λp hp=>?_,λp hp x hx=>?_⟩
 ·obtain⟨v,hv,rfl⟩:=mem p hp;exact h.ids v hv
 ·have:=h.asc;unfold AF
  grind
 ·grind [mI]
 obtain⟨v,hv,rfl⟩:=mem p hp;have hm:v.Root∈AM s:=A6.2 ⟨v,hv,rfl⟩;exact⟨sG h.ar (h.root _ hm) x hx,h.lt _ hm x hx⟩
theorem ABA {id k x:Int} (h1:1<=id/\id<=9) (h2:0<=k/\k<16) (h3:1<=x/\x<=1000000000):G0 (Cm.mk 4 id k x)=true:=by grind [G0]
theorem AE5 {id a:Int} (h1:1<=id/\id<=9) (h2:0<=a/\a<=9):G0 (Cm.mk 2 id a 0)=true:=by grind [G0]
theorem zV {P:Vs} {id:Int} {a:List Int} (h:∀p∈P,p.1<id) (k:Nat) (x:Int):fA (P++ [(id,a)]) id k x=P++ [(id,a.set k x)]:=by
 unfold fA;rw[Ka];congr 1
 ·conv=>rhs;rw[<-VS P]
  apply D8
  grind
 simp
theorem qG {P:Vs} {id nx:Int} (hP:∀p∈P,p.1<id) (a:1<=id/\id<=9) (b:nx<=1000000000):∀(todo done:List Int),done.length+todo.length=16->(∀x∈todo,0<=x/\x<nx)->CP (P++ [(id,done++List.replicate todo.length 0)]) nx (Hw id done.length todo)=some (P++ [(id,done++todo)],nx)
 |[],done,hl,hx=>by rfl
 |x::todo,done,hl,hx=>by
  have h1:=hx x (by simp);rw[AY]at hl;have ih:=qG hP a b todo (done++ [x]) (by simp;omega) (λy hy=>hx y<|by simp[hy]);rw[Hw];have c:(done++List.replicate (todo.length+1) 0).set done.length x=done++ [x]++List.replicate todo.length 0:=by grind
  by_cases e:x>0
  ·rw[Cn e,KD,GW];have d:CN (P++ [(id,done++List.replicate (x::todo).length 0)]) nx (Cm.mk 4 id done.length x)=some (P++ [(id,done++ [x]++List.replicate todo.length 0)],nx):=by
    unfold CN;rw[ABA a (by omega)<|by omega]
    grind [zV,Cj,Jg]
   grind
  grind
theorem AAu {P:Vs} {id:Int} {a:List Int} (h:∀p∈P,p.1<id):cH P id a=P++ [(id,a)]:=by grind [IK,BM,cH]
theorem g7 (a:nx<=1000000000):∀(l P:Vs),(P++l).length<=3->(P++l).Pairwise (λp q=>p.1<q.1)->(∀p∈l,(1<=p.1/\p.1<=9)/\p.2.length=16/\∀x∈p.2,0<=x/\x<nx)->CP P nx (l.flatMap QE)=some (P++l,nx)
 |[],P,_,_,_=>by simp[CP]
 |p::l,P,e,f,hall=>by
  obtain⟨h1,h2,h3⟩:=hall p<|by simp
  have c:∀q∈P,q.1<p.1:=λq hq=>by grind
  rw[List.flatMap_cons,M1];unfold QE;rw[GW];have d:CN P nx (Cm.mk 2 p.1 0 0)=some (P++ [(p.1,Ok)],nx):=by grind [AE5,AAu,CN,Jg]
  rw[d];simp only[Aa];have hz:Ok=[]++List.replicate p.2.length 0:=by rw[h2];rfl
  have b:=qG c h1 a p.2 [] (by simpa using h2) h3;rw[<-hz,N6,Az]at b;rw[b];simp only[Aa];have hP:P++ [(p.1,p.2)]=P++ [p]:=rfl;have:=g7 a l (P++ [p]) (by grind) (by grind) (λq hq=>hall q<|by simp[hq]);rw[hP,show(l.flatMap λp=>Cm.mk 2 p.1 0 0::Hw p.1 0 p.2)=l.flatMap QE from rfl,this,BU];rfl
theorem kK (h:VsP l nx) (l0:Vs) (n0:Int):CP l0 n0 (N3 l nx)=some (l,nx):=by
 unfold N3;rw[GW];have a:CN l0 n0 (Cm.mk 1 0 nx 0)=some ([],nx):=by
  unfold CN;have hb:G0 (Cm.mk 1 0 nx 0)=true:=by
   have:=h.nxt
   grind [G0]
  rw[hb];have:=h.nxt
  grind
 rw[a];have:=g7 h.nxt.2 l [] (by simpa using h.len) (by simpa using h.asc) λp hp=>⟨h.ids p hp,h.row p hp,h.num p hp⟩
 grind
theorem kJ (h:VsP l nx):(∀r∈N3 l nx,G0 r=true)/\(N3 l nx).length<=1000:=by
 refine⟨λr hr=>?_,?_⟩
 ·
  cases hb:G0 r with
  |true=>rfl
  |false=>
   exfalso;obtain⟨i,hi,rfl⟩:=Au hr;have h1:=kK h [] 1;obtain⟨e1,e2⟩:=JU<|Ab hi;rw[e1,M1]at h1
   cases hq:CP [] 1 ((N3 l nx).take i)with
   |none=>grind
   |some q=>grind [GW,CN]
 unfold N3;rw[AY];have:=rY l h.row;have:=h.len;omega
structure AG3 (d d':Device):Prop where
 ab:AF d'.Store=AF d.Store
 nx:d'.Store.Next=d.Store.Next
theorem QP (h:Hb d r) {steps:List AH} (hs:Steps d.Flash steps g) (hl:steps.length<=1048576) (hm:Cs g=some (d',true)):Hu d steps=some d':=by
 unfold Hu;rw[MT h.fl hs hl,Aa,hm];rfl
theorem Xl:∀{n:Int} {ps:List Page} {p:Page},H6 n ps->(∀q∈ps,q.Seq<p.Seq)->n<=p.Seq->H6 n (ps++ [p])
 |n,[],p,_,_,h=>⟨h,trivial⟩
 |n,q::ps,p,ha,hq,h=>⟨ha.1,Xl ha.2 (λx hx=>hq x (by simp[hx])) (by grind)⟩
def uQ (d:Device) (r:List Al) (p:Page):Prop:=p.Kind=1/\Dz (AF d.Store) p.Tx/\∃y,Lx r p.Tx=some y/\p.Text=y.Page.Text
theorem bX (h:Hb d r) {live:List Int} (hl:∀x,x∈live↔Dz (AF d.Store) x) (hy:r[j]?=some y) (hn:(C1 r live 1000000001)[j]?=some true):y.Page.Kind=1/\Dz (AF d.Store) y.Page.Tx/\Lx r y.Page.Tx=some y:=by
 rw[Qi r live _ hy]at hn
 injection hn with hn
 have a:=h.pages;have ht:=a.tx y<|Aj hy;have:D5 1000000001 y=false:=by
  unfold D5
  grind
 rw[this,oZ,Fo]at hn;obtain⟨c,hc,b⟩:=hn;have e:Sm c r r.length=some j:=by simpa using b
 have h1:=ADg e;rw[hy]at h1;obtain⟨_,k1,k2⟩:=bW h1
 grind
theorem fO (h:Hb d r) (k:r.length<=40) (b:Int):Hk d b=some ([],false)\/∃steps ps g,Hk d b=some (steps,true)/\IH d.Flash steps ps g/\Bl g/\H6 d.Seq ps/\steps.length<=160/\(∀p∈ps,uQ d r p/\Jx p)/\∀p∈ps,p.Seq<d.Seq+160:=by
 obtain⟨live,l1,l2,l3,l4⟩:=Gy h.st;have l:1<=d.Seq/\d.Seq<=1000000001:=by
  rw[h.seq];have h1:=Ow r;refine⟨h1.2.1,h1.2.2 _ (by omega) λy hy=>?_⟩;have:=(h.pages.seq y hy).2;omega
 unfold Hk;rw[h.scan.s,l1];simp only[Aa];rw[NF r live _ h.scan.len l4];have m:live.foldl (fU r) (r.map<|D5 1000000001)=C1 r live 1000000001:=rfl
 let I:Nat->(List AH×Int×List Block)->Prop:=λn o=>∃ps,IH d.Flash o.1 ps (Flash.mk o.2.2)/\Bl (Flash.mk o.2.2)/\H6 d.Seq ps/\(∀p∈ps,p.Seq<o.2.1)/\d.Seq<=o.2.1/\o.2.1<=d.Seq+n/\o.1.length<=n/\∀p∈ps,uQ d r p/\Jx p
 have I0:I (40*0) ([],d.Seq,d.Flash.Blocks):=by
  refine⟨[],rfl,h.fl,trivial,?_,?_,?_,?_,?_⟩
  ·grind
  ·exact L0 _
  ·grind
  ·exact A4 _
  grind
 obtain⟨a,h1,h2⟩:=AC (body:=λs:List AH×Int×Int×List Block=>Ft b r (C1 r live 1000000001) s.1 s.2.1 s.2.2.1 s.2.2.2) (λ(o:List AH×Int×List Block) i=>(o.1,o.2.1,i,o.2.2)) 4
  (λi o=>I (40*i) o) (λa=>a= .inr ([],false)\/∃steps sq bl,a= .inl steps/\I 160 (steps,sq,bl))
  (λo i hi ho=>by
   simp only[Ft];rw[cT];obtain⟨q,q1,q2⟩:=AC (body:=λs:List AH×Int×Int×List Block=>Ew b r (C1 r live 1000000001) (i:Int) s.1 s.2.1 s.2.2.1 s.2.2.2) (λ(o:List AH×Int×List Block) j=>(o.1,o.2.1,j,o.2.2)) r.length
    (λj o=>I (40*i+j) o) (λq=>q= .inr (.inr<|.inr ([],false))\/∃o,q= .inl o/\I (40*i+40) o)
    (λo j hj hs=>by
     obtain⟨ss,sq,bl⟩:=o;obtain⟨ps,p1,p2,p3,p4,p5,p6,p7,p8⟩:=hs;simp only at p1 p2 p4 p5 p6 p7;have hx:=Ab hj;have e:j<(C1 r live 1000000001).length:=by grind [Ku]
     have c:=Ab e;simp only[Ew,Ds hj,Aq,hx,c,Aa];rw[ad1];have skip:I (40*i+(j+1)) (ss,sq,bl):=⟨ps,p1,p2,p3,p4,p5,by show sq<=_;omega,by grind,p8⟩
     cases f:(C1 r live 1000000001)[j]with
     |false=>
      exact .inl ⟨(ss,sq,bl),rfl,skip⟩
     |true=>
      simp only[Ak,Ae]
      cases hb:(r[j].Block !=b)with
      |true=>
       exact .inl ⟨(ss,sq,bl),rfl,skip⟩
      |false=>
       simp only[Ae,Aa]
       cases t:(r[j].Leaf !=(i:Int))with
       |true=>
        exact .inl ⟨(ss,sq,bl),rfl,skip⟩
       |false=>
        obtain⟨m1,m2,m3⟩:=bX h l3 hx<|by rw[c,f]
        rcases ABH p2 p1 (by omega) (Page.mk r[j].Page.Kind sq r[j].Page.Tx r[j].Page.Part r[j].Page.Count r[j].Page.Text)with⟨s,g',w1,w2,w3,w4,_⟩|w
        ·rw[w1];simp only[Aa,Ak,Ae];rw[Bb,AE,Dg,BY,show((ss.length+1:Nat):Int)-1=(ss.length:Int) by omega,Fd];simp only[Aa]
         cases u:(s.Block==b)with
         |true=>simp
         |false=>
          rw[Cl];refine .inl ⟨(ss++ [s],sq+1,g'.Blocks),rfl,_,w2,w3,Xl p3 (λq hq=>p4 q hq) p5,λp hp=>?_,by grind,by grind,by simp;omega,λp hp=>?_⟩
          ·grind
          rw[A8,Cp]at hp
          rcases hp with hp|rfl
          ·exact p8 p hp
          exact⟨⟨m1,m2,_,m3,rfl⟩,w4⟩
        grind)
    (λo hs=>⟨.inl (o.1,o.2.1,o.2.2),by simp[CU,Ew],.inr ⟨o,rfl,by grind⟩⟩) (s:=o) (by omega)
   rw[q1]
   rcases q2 with rfl|⟨o',rfl,q2⟩
   ·simp
   grind [ad1])
  (λo ho=>⟨.inl o.1,by rfl,.inr ⟨o.1,o.2.1,o.2.2,rfl,ho⟩⟩) (s:=([],d.Seq,d.Flash.Blocks)) I0
 grind
theorem AB3 (h:Jn d r) {steps:List AH} (hp:IH d.Flash steps ps g) (ha:H6 d.Seq ps) (hl:steps.length<=160) (hm:∀p∈ps,uQ d r p/\Jx p) (k:Nat):
  ∃m d',Steps d.Flash (steps.take k) m/\Bl m/\Cs m=some (d',true)/\d'.Flash=m/\Jn d' (r++(Cv steps ps).take k)/\AG3 d d'/\d'.Base=d.Base/\ZU d.Flash m/\∀c,Dz (AF d.Store) c->BX (r++(Cv steps ps).take k) c=BX r c:=by
 have b:=(Fe hp).2;have u:=h.few
 have e:∀y∈r,y.Page.Seq<d.Seq:=λy hy=>by rw[h.dev.seq];simp_all [Ow]
 obtain⟨m,a⟩:=VN k hp;have f:=U8 h.dev.fl (Fe a).1;have ascT:∀(ps:List Page) (n:Int) (k:Nat),H6 n ps->H6 n (ps.take k):=by
  intro ps
  induction ps with
  |nil=>grind
  |cons p ps ih=>
   intro n k ha
   cases k with
   |zero=>trivial
   |succ k=>exact⟨ha.1,ih _ k ha.2⟩
 have l:=eK h.dev.fl h.dev.sr a e<|ascT _ _ k ha;rw[YD]at l;obtain⟨d',u1,u2,u3⟩:=Nn f l;have v:=dG b;have ascG:∀(ps:List Page) (n:Int) (i:Nat) (p:Page),H6 n ps->ps[i]?=some p->n<=p.Seq/\∀j q,j<i->ps[j]?=some q->q.Seq<p.Seq:=by
  intro ps
  induction ps with
  |nil=>grind
  |cons x ps ih=>
   intro n i p ha hp
   cases i with
   |zero=>
    simp only[List.getElem?_cons_zero,A0]at hp;rw[<-hp];exact⟨ha.1,λj q hj=>by omega⟩
   |succ i=>
    obtain⟨i1,i2⟩:=ih _ i p ha.2 (by simpa using hp);have:=ha.1;refine⟨by omega,λj q hj hq=>?_⟩
    grind
 have main:∀n,n<=(Cv steps ps).length->JJ (r++(Cv steps ps).take n)/\Hc (r++(Cv steps ps).take n) (Dz<|AF d.Store)/\AU (r++(Cv steps ps).take n)=AU r/\∀c,Dz (AF d.Store) c->BX (r++(Cv steps ps).take n) c=BX r c:=by
  intro n
  induction n with
  |zero=>intro _;rw[List.take_zero,AW];exact⟨h.core,h.data,rfl,λ_ _=>rfl⟩
  |succ n ih=>
   intro hn;obtain⟨i1,i2,i3,i4⟩:=ih (by omega);have hx:(Cv steps ps)[n]?=some (Cv steps ps)[n]:=Ab (by omega);have o:=OO hx;obtain⟨⟨m1,m2,y,m3,m4⟩,m5⟩:=hm _<|Aj o;obtain⟨a1,a2⟩:=ascG ps d.Seq n _ ha o;rw[Ag (by omega),<-BU];have w:ZY (Cv steps ps)[n].Page.Text=BX r (Cv steps ps)[n].Page.Tx:=by grind [BX]
   have s:D6 (r++(Cv steps ps).take n)<=(Cv steps ps)[n].Page.Seq:=by
    refine(Ow _).2.2 _ (m5.2.1.1) (λz hz=>?_)
    rcases A8.1 hz with hz|hz
    ·grind
    obtain⟨j,hj,rfl⟩:=Au hz;rw[Fl]at hj;rw[List.getElem_take];exact a2 j _ (by omega)<|OO<|Ab<|by omega
   refine⟨JJ.add i1 (by simp;omega) m5 s (λhh=>by omega),tI i2 (by grind),by grind [YC],λc hc=>?_⟩
   grind [Qh,BX]
 have t:JJ (r++(Cv steps ps).take k)/\Hc (r++(Cv steps ps).take k) (Dz<|AF d.Store)/\AU (r++(Cv steps ps).take k)=AU r/\∀c,Dz (AF d.Store) c->BX (r++(Cv steps ps).take k) c=BX r c:=by grind [Cv]
 obtain⟨k1,k2,k3,k4⟩:=t;obtain⟨e1,e2,e3⟩:=Ic h.dev u2 (by rw[k3]);exact⟨m,d',(Fe a).1,f,u1,u3,⟨u2,k1,by rw[e1];exact k2⟩,⟨e1,e2⟩,e3,λ_=>VM a,k4⟩
theorem Sa (h:Hb d r) {live:List Int} (hl:live.length<=16777216) (t:ByteArray):∃v,Ip d.Flash live t=some v/\((v=0/\∀c∈live,BX r c≠some t)\/(v∈live/\BX r v=some t)):=by
 have hr:=h.pages;unfold Ip TN;rw[h.scan.s];obtain⟨b,h1,h2⟩:=AC (body:=λs:Int=>EO r live t s) (λ(_:Unit) i=>i) live.length (λi _=>∀c∈live.take i,BX r c≠some t) (λb=>(b= .inl ()/\∀c∈live,BX r c≠some t)\/∃v,b= .inr v/\v∈live/\BX r v=some t)
  (λ_ i hi hs=>by
   have hx:=Ab hi;simp only[EO,Ds hi,Aq,hx,Aa];obtain⟨u,ok,k1,k2⟩:=aV hr live[i];rw[k1,Aa,ad1]
   have no:BX r live[i]≠some t->∀c∈live.take (i+1),BX r c≠some t:=λa c hc=>by grind [Ag]
   cases ok with
   |false=>simp_all
   |true=>
    cases e:seq u t with
    |true=>grind [KH]
    |false=>simp_all [KH])
  (λ_ hs=>⟨_,by simp[CU,EO],.inl ⟨rfl,by grind⟩⟩) (s:=()) (by simp)
 grind
structure AEo (q:Ask):Prop where
 kind:1<=q.Kind/\q.Kind<=6
 vol:1<=q.Vol/\q.Vol<=9
 text:(L q.Text).length<=64
 sec:0<=q.Sector/\q.Sector<=15
 of_:0<=q.Of/\q.Of<=9
 cl:q.Kind=4->1<=q.Of
 no:q.Kind≠4->q.Of=0
 tx:q.Kind≠1->L q.Text=[]
theorem Qb (q:Ask):∃v,Hv q=some v/\(v=true->AEo q):=by
 unfold Hv;simp only[CM,Aa];by_cases h1:1<=q.Kind/\q.Kind<=6
 ·rw[Ac h1];by_cases h2:1<=q.Vol/\q.Vol<=9
  ·rw[Ac h2];by_cases h3:GF q.Text>64
   ·simp_all
   rw[Ai h3];rw[Bv]at h3;simp only[Ak,Ae];have ht:(cond (q.Kind !=1) (some<|!(seq q.Text<|bs [])) (some false):Option Bool)=some (decide<|q.Kind≠1/\L q.Text≠ []):=by grind [Se,DS]
   rw[ht];simp only[Aa];by_cases h4:q.Kind≠1/\L q.Text≠ []
   ·grind
   rw[Ai h4]
   have a:q.Kind≠1->L q.Text=[]:=λhk=>Classical.byContradiction λhh=>h4 ⟨hk,hh⟩
   by_cases h5:q.Kind=4
   ·rw[show(q.Kind==4)=true by simpa using h5];by_cases h6:q.Sector=0
    ·rw[show(q.Sector==0)=true by simpa using h6];refine⟨_,rfl,λhh=>?_⟩;rw[Bi]at hh;exact⟨h1,h2,by omega,by omega,by omega,λ_=>hh.1,λhk=>absurd h5 hk,a⟩
    grind
   rw[show(q.Kind==4)=false by simpa using h5];by_cases h6:q.Of=0
   ·rw[show(q.Of !=0)=false by simp[h6]];by_cases h7:q.Kind=3\/q.Kind=5
    ·have:(cond (q.Kind==3) (some true) (some<|q.Kind==5):Option Bool)=some true:=by grind
     rw[this];refine⟨_,rfl,λhh=>?_⟩;rw[HW]at hh;exact⟨h1,h2,by omega,by omega,by omega,λhk=>absurd hk h5,λ_=>h6,a⟩
    have:(cond (q.Kind==3) (some true) (some<|q.Kind==5):Option Bool)=some false:=by grind
    rw[this];refine⟨_,rfl,λhh=>?_⟩;rw[Bi]at hh;exact⟨h1,h2,by omega,hh,by omega,λhk=>absurd hk h5,λ_=>h6,a⟩
   grind
  simp_all [Ai]
 simp_all [Ai]
def qK (d:Device) (r:List Al) (q:Ask) (x:Cm) (a:ByteArray):Prop:=G0 x=true/\x.Kind≠1/\x.Vol=q.Vol/\((L a=[]/\(x.Kind=4->Dz (AF d.Store) x.Chunk/\BX r x.Chunk=some q.Text))\/(x.Kind=4/\x.Chunk=d.Store.Next/\L a≠ []/\ZY a=some q.Text/\∀c,Dz (AF d.Store) c->BX r c≠some q.Text))
theorem s9 (h:Hb d r) (q:Ask):∃a text no,Eu d q=some (a,text,no)/\((a=[]/\text=bs [])\/(no=0/\∃x,a=[x]/\qK d r q x text))/\(no≠0->a=[]):=by
 have i:=h.st.len;have b:=h.st.nx;obtain⟨v,a1,a2⟩:=Qb q;unfold Eu;rw[a1];simp only[Aa]
 cases v with
 |false=>exact⟨_,_,_,rfl,.inl ⟨rfl,rfl⟩,λ_=>rfl⟩
 |true=>
  have hq:=a2 rfl;simp only[Ak,Ae];obtain⟨w,hw⟩:∃w,CR d.Store q.Vol=some w:=by
   rcases ED d.Store (by omega) q.Vol with⟨e,_⟩|⟨k,_,e,_⟩<;>exact⟨_,e⟩
  rw[hw];by_cases h34:q.Kind=3\/q.Kind=4
  ·have:(cond (q.Kind==3) (some true) (some<|q.Kind==4):Option Bool)=some true:=by grind
   rw[this];simp only[Aa,Ao]
   cases decide (w>=0)with
   |true=>grind
   |false=>
    obtain⟨j2,g⟩:∃j2,(cond (q.Kind==4) ((CR d.Store q.Of).bind λv3=>some<|decide<|v3<0) (some false):Option Bool)=some j2:=by grind [ED]
    rw[g];simp only[Aa]
    cases j2 with
    |true=>grind
    |false=>
     cases decide (ln d.Store.Vols>=3)with
     |true=>grind
     |false=>
      refine⟨_,_,_,rfl,.inr ⟨rfl,_,rfl,AE5 hq.vol hq.of_,by simp,rfl,.inl ⟨DS _,λhh=>by simp at hh⟩⟩,λhh=>absurd rfl hh⟩
  have:(cond (q.Kind==3) (some true) (some<|q.Kind==4):Option Bool)=some false:=by grind
  rw[this];simp only[Aa,Ae]
  cases decide (w>=0)with
  |false=>exact⟨_,_,_,rfl,.inl ⟨rfl,rfl⟩,λ_=>rfl⟩
  |true=>
   simp only[Ak,Ae]
   cases k1:(q.Kind==1)with
   |true=>
    obtain⟨live,l1,l2,l3,l4⟩:=Gy h.st;obtain⟨c,f1,f2⟩:=Sa h l4 q.Text;rw[l1,Aa,f1];simp only[Aa]
    rcases f2 with⟨rfl,f2⟩|⟨f2,f3⟩
    ·obtain⟨z,z1,z2,z3⟩:=sU q.Text hq.text;rw[show((0:Int)==0)=true from rfl,z1];refine⟨_,_,_,rfl,.inr ⟨rfl,_,rfl,ABA hq.vol (by have:=hq.sec;omega) ⟨b.1,b.2⟩,by simp,rfl,.inr ⟨rfl,rfl,?_,?_,λc hc=>f2 c<|(l3 c).2 hc⟩⟩,λhh=>absurd rfl hh⟩
     ·grind
     grind [ZY]
    have f:=(l3 c).1 f2;have j:=ZA h.st f;rw[show(c==0)=false by grind];refine⟨_,_,_,rfl,.inr ⟨rfl,_,rfl,ABA hq.vol (by have:=hq.sec;omega) (by omega),by simp,rfl,.inl ⟨DS _,λ_=>⟨f,f3⟩⟩⟩,λhh=>absurd rfl hh⟩
   |false=>
    cases k2:(q.Kind==2)with
    |true=>
     refine⟨_,_,_,rfl,.inr ⟨rfl,_,rfl,?_,by simp,rfl,.inl ⟨DS _,λhh=>by simp at hh⟩⟩,λhh=>absurd rfl hh⟩;have:=hq.vol;have:=hq.sec
     grind [G0]
    |false=>
     cases k5:(q.Kind==5)with
     |true=>
      refine⟨_,_,_,rfl,.inr ⟨rfl,_,rfl,?_,by simp,rfl,.inl ⟨DS _,λhh=>by simp at hh⟩⟩,λhh=>absurd rfl hh⟩;have:=hq.vol
      grind [G0]
     |false=>grind
theorem YG (h:CN l nx x=some (l',nx')) (hk:x.Kind≠1):(∀c,Dz l' c->Dz l c\/c=x.Chunk)/\nx<=nx'/\nx'<=max nx (x.Chunk+1):=by
 unfold CN at h;split at h
 ·cases h
 split at h
 ·split at h
  ·cases h
  injection h with h
  injection h with h1 h2
  subst h1 h2;refine⟨λc hc=>?_,by omega,by omega⟩;obtain⟨h0,p,hp,hx⟩:=hc;unfold cH at hp;simp only[A8,AR,Cp]at hp
  rcases hp with(hp|rfl)|hp
  ·exact .inl ⟨h0,p,hp.1,hx⟩
  ·have zz:c∉Ok:=λhz=>by have:=DL hz;omega
   split at hx
   ·cases hg:Jg l x.Arg with
    |none=>grind
    |some row=>
     rw[hg]at hx;obtain⟨w,a,d⟩:=AI.1 hg;have b:=List.mem_of_find?_eq_some a;exact .inl ⟨h0,w,b,by grind⟩
   exact absurd hx zz
  exact .inl ⟨h0,p,hp.1,hx⟩
 split at h
 ·cases h
 split at h
 ·injection h with h
  injection h with h1 h2
  subst h1 h2;refine⟨λc hc=>?_,by omega,by omega⟩;obtain⟨h0,p,hp,hx⟩:=hc;exact .inl ⟨h0,p,(AR.1 hp).1,hx⟩
 injection h with h
 injection h with h1 h2
 subst h1 h2;refine⟨λc hc=>?_,by omega,by omega⟩;obtain⟨h0,p,hp,hx⟩:=hc;obtain⟨w,hw,rfl⟩:=A6.1 hp;split at hx
 ·rcases C6 hx with hx|hx
  ·exact .inl ⟨h0,w,hw,hx⟩
  exact .inr hx
 exact .inl ⟨h0,w,hw,hx⟩
theorem vK (h:CN l nx x=some (l',nx')) (hk:x.Kind≠1):∀p∈l',(∃p'∈l,p'.1=p.1)\/p.1=x.Vol:=by
 unfold CN at h;split at h
 ·cases h
 split at h
 ·grind [cH]
 split at h
 ·cases h
 split at h
 ·injection h with h
  injection h with h1 h2
  subst h1 h2
  exact λp hp=> .inl ⟨p,(AR.1 hp).1,rfl⟩
 grind [fA]
theorem fC (h:Hb d r):∃v,LF d=some v:=by
 have hr:=h.pages;unfold LF
 cases(d.Base !=sb d.Tx 1)with
 |true=>exact⟨_,rfl⟩
 |false=>
  rw[h.scan.s,Aa,Pt r hr];simp only[Aa];obtain⟨g1,_⟩:=VE hr;obtain⟨b,h1,_⟩:=AC (body:=λs:Int=>Gx d (AU r) s) (λ(_:Unit) i=>i) (AU r).length (λ_ _=>True) (λ_=>True)
   (λ_ i hi _=>by
    have hx:=Ab hi;simp only[Gx,Ds hi,Aq,hx,Aa];rw[ad1]
    cases((AU r)[i].Num==d.Base)with
    |false=>simp
    |true=>
     cases a:(AU r)[i].Recs with
     |nil=>exact .inr ⟨_,rfl,trivial⟩
     |cons q m=>grind [gi])
   (λ_ _=>⟨.inl (),by simp[CU,Gx],trivial⟩) (s:=()) trivial
  rw[h1]
  cases b with
  |inl u=>exact⟨_,rfl⟩
  |inr v=>exact⟨v,rfl⟩
theorem fG (h:Hb d r):∃v,LK d=some v:=by
 have hn:=h.fl.n;obtain⟨live,l1,_,_,l4⟩:=Gy h.st;unfold LK;rw[h.scan.s,l1];simp only[Aa];rw[NF r live d.Base h.scan.len l4,NF r live 1000000000 h.scan.len l4]
 have a:∀b,live.foldl (fU r) (r.map<|D5 b)=C1 r live b:=λ_=>rfl
 rw[a,a];obtain⟨b,h1,_⟩:=AC (body:=λs:Int×Int×Int=>Dq d r (C1 r live d.Base) (C1 r live 1000000000) s.1 s.2.1 s.2.2) (λ(o:Int×Int) i=>(o.1,o.2,i)) d.Flash.Blocks.length (λ_ _=>True) (λ_=>True)
  (λo i hi _=>by
   have hx:=Ab hi;have hP:=h.fl.blk _<|Aw hi;simp only[Dq,Ds hi,Aq,hx,Aa];rw[bP r _ (i:Int) h.scan.len<|Ku _ _ _,bP r _ (i:Int) h.scan.len<|Ku _ _ _,KU _ hP.four,ad1];simp only[Aa,Nq]
   cases(bif !d.Flash.Blocks[i].Bad then _ else false)with
   |true=>simp
   |false=>grind)
  (λo _=>⟨o.1,by simp[CU,Dq],trivial⟩) (s:=(-1,4)) trivial
 grind
theorem Hb.seqs (h:Hb d r):0<=d.Seq/\d.Seq<=1000000001:=by
 rw[h.seq];have h1:=Ow r;refine⟨by omega,h1.2.2 _ (by omega) λy hy=>?_⟩;have:=(h.pages.seq y hy).2;omega
theorem kY (h:∀y∈r',y.Page.Kind=2->y.Page.Tx<EI r+n):EI r'<=EI r+n:=(kZ r').2.2 _ (by have:=(kZ r).2.1;omega) h
theorem Zw (n:Nat) (hy:y∈r) (hk:y.Page.Kind=2):y.Page.Tx<EI r+n:=by have:=(kZ r).1 y hy hk;omega
theorem jA {seq tx:Int} (h:p∈Cg seq tx T):p.Tx=tx:=by grind [Cg]
theorem lF (h:∀y∈r',y.Page.Seq<D6 r+n):D6 r'<=D6 r+n:=(Ow r').2.2 _ (by have:=(Ow r).2.1;omega) h
theorem Zy (n:Nat) (hy:y∈r):y.Page.Seq<D6 r+n:=by have:=(Ow r).1 y hy;omega
theorem uK {seq tx:Int} (h:p∈Cg seq tx T):p.Seq<seq+T.length:=by grind [Cg]
theorem gZ {c:Int} {a:ByteArray} (h:p∈C9 d c a++Cg (Jk d a) d.Tx T):p.Seq<d.Seq+1+T.length:=by
 rcases A8.1 h with h|h
 ·grind [C9]
 have h1:=uK h
 grind [Jk]
theorem Py {seq tx:Int} (h:p∈Cg seq tx T):p.Kind=2:=by grind [Cg]
def AA2 (m:Flash) (s:AH) (g:Flash):Prop:=Bl g/\ZU m g/\((s.Kind=1/\KY 0 g.Blocks=KY 0 m.Blocks)\/(s.Kind=2/\KY 0 g.Blocks=(KY 0 m.Blocks).filter λy=>y.Block !=s.Block))
def YJ (f:Flash) (ss:List AH) (k:Nat) (g:Flash):Prop:=∃m,Steps f (ss.take k) m/\(g=m\/∃s,ss[k]?=some s/\QH m s/\AA2 m s g)
theorem Q5:∀{f:Flash} {a:List AH} {g m:Flash},Steps f a g->Steps f a m->g=m
 |f,[],g,m,h,k=>by rw[show g=f from h,show m=f from k]
 |f,s::a,g,m,h,k=>Q5 h.2 k.2
theorem j9 {m:Flash} {a b:List AH} (h:YJ f (a++b) k g) (hs:Steps f a m):(k<a.length/\YJ f a k g)\/(a.length<=k/\YJ m b (k-a.length) g):=by
 obtain⟨x,h1,h2⟩:=h;by_cases e:k<a.length
 ·left;rw[List.take_append_of_le_length<|by omega]at h1;rw[M3 e]at h2;exact⟨e,x,h1,h2⟩
 right;rw[List.take_append,AQ<|by omega]at h1;rw[Dy<|by omega]at h2;obtain⟨y,y1,y2⟩:=(HO _ _ _ _).1 h1;rw[Q5 y1 hs]at y2;exact⟨by omega,x,y2,h2⟩
structure JI (n:Nat) (d:Device) (r:List Al) (d':Device) (r':List Al):Prop where
 good:Jn d' r'
 ab:AF d'.Store=AF d.Store
 nx:d'.Store.Next=d.Store.Next
 pg:∀y∈r',y.Page.Kind=1->∃z∈r,z.Page.Kind=1/\z.Page.Tx=y.Page.Tx/\z.Page.Text=y.Page.Text
 tx:EI r'<=EI r+n
 wear:∀w:Int,FU d.Flash w->FU d'.Flash (w+n)
 text:∀c,Dz (AF d.Store) c->BX r' c=BX r c
 sq:D6 r'<=D6 r+200*n
structure As (d:Device) (r:List Al) (d':Device) (r':List Al):Prop where
 good:Jn d' r'
 ab:AF d'.Store=AF d.Store
 nx:d'.Store.Next=d.Store.Next
 tx:EI r'<=EI r+1
 wear:∀w:Int,FU d.Flash w->FU d'.Flash (w+1)
 text:∀c,Dz (AF d.Store) c->BX r' c=BX r c
theorem As.torn {b:List Al} (h:As d a e b) (hg:Bl g) (hp:KY 0 g.Blocks=KY 0 e.Flash.Blocks) (hw:ZU e.Flash g):∃x,Cs g=some (x,true)/\x.Flash=g/\As d a x b:=by
 obtain⟨x,u1,u2,u3⟩:=Nn hg (r:=b) (by rw[hp];exact h.good.dev.sr);obtain⟨e1,e2,_⟩:=Ic h.good.dev u2 rfl;exact⟨x,u1,u3,⟨⟨u2,h.good.core,by rw[e1];exact h.good.data⟩,by rw[e1,h.ab],by rw[e2,h.nx],h.tx,λw hh=>by rw[u3];exact hw _<|h.wear w hh,h.text⟩⟩
theorem Zt (h:ZU f g) (w:Int) (hw:FU f w):FU g (w+n):=λb hb=>by have:=h w hw b hb;omega
theorem JI.refl (h:Jn d r):JI n d r d r:=⟨h,rfl,rfl,λy hy hk=>⟨y,hy,hk,rfl,rfl⟩,by omega,Zt λ_ h=>h,λ_ _=>rfl,by omega⟩
theorem JI.trans {g:Device} {b c:List Al} (h:JI n d a e b) (k:JI m e b g c):JI (n+m) d a g c:=⟨k.good,by rw[k.ab,h.ab],by rw[k.nx,h.nx],λy hy hk=>by
 obtain⟨z,z1,z2,z3,z4⟩:=k.pg y hy hk;obtain⟨w,w1,w2,w3,w4⟩:=h.pg z z1 z2
 grind,by have:=h.tx;have:=k.tx;omega,λw hw=>by
 have:=k.wear _<|h.wear w hw
 grind,λc hc=>by rw[k.text c (by rw[h.ab];exact hc),h.text c hc],by have:=h.sq;have:=k.sq;omega⟩
theorem JI.mono {b:List Al} (h:JI n d a e b) (hm:n<=m):JI m d a e b:={h with
 tx:=by have:=h.tx;omega
 wear:=λw hw x hx=>by have:=h.wear w hw x hx;omega
 sq:=by have:=h.sq;omega}
theorem JI.torn {b:List Al} (h:JI n d a e b) (hg:Bl g) (hp:KY 0 g.Blocks=KY 0 e.Flash.Blocks) (hw:ZU e.Flash g):∃x,Cs g=some (x,true)/\x.Flash=g/\JI n d a x b:=by
 obtain⟨x,u1,u2,u3⟩:=Nn hg (r:=b) (by rw[hp];exact h.good.dev.sr);obtain⟨e1,e2,_⟩:=Ic h.good.dev u2 rfl;exact⟨x,u1,u3,⟨⟨u2,h.good.core,by rw[e1];exact h.good.data⟩,by rw[e1,h.ab],by rw[e2,h.nx],h.pg,h.tx,λw hh=>by rw[u3];exact hw _<|h.wear w hh,h.text,h.sq⟩⟩
def L7 (n:Nat) (d:Device) (r:List Al) (steps:List AH):Prop:=(∃m,Steps d.Flash steps m)/\∀k g,k<=steps.length->YJ d.Flash steps k g->∃x rx,Cs g=some (x,true)/\x.Flash=g/\JI n d r x rx
theorem iZ {steps:List AH} (h1:∀s∈steps,s.Kind=1) (hc:∀k,k<=steps.length->∃x rx,Steps d.Flash (steps.take k) x.Flash/\Cs x.Flash=some (x,true)/\JI n d r x rx):L7 n d r steps:=by
 refine⟨?_,λk g hk hg=>?_⟩
 ·obtain⟨x,rx,c1,_⟩:=hc steps.length (A4 _)
  grind
 obtain⟨x,rx,c1,c2,c3⟩:=hc k hk;obtain⟨m,m1,m2⟩:=hg;have:=Q5 m1 c1;subst this
 rcases m2 with rfl|⟨s,s1,_,s2,s3,⟨_,s4⟩|⟨s4,_⟩⟩
 ·grind
 ·obtain⟨y,y1,y2,y3⟩:=c3.torn s2 s4 s3
  grind
 grind
theorem L7.full {steps:List AH} (h:Jn d r) (hc:L7 n d r steps) (hl:steps.length<=1000000):∃x rx,Hu d steps=some x/\Steps d.Flash steps x.Flash/\JI n d r x rx:=by
 obtain⟨⟨m,hm⟩,hk⟩:=hc;obtain⟨x,rx,x1,x2,x3⟩:=hk steps.length m (A4 _) ⟨m,by grind,.inl rfl⟩;exact⟨x,rx,QP h.dev hm (by omega) x1,by rw[x2];exact hm,x3⟩
theorem AAT {re:List Al} {a b:List AH} (hk:JI n d r e re) (hs:Steps d.Flash a e.Flash) (ha:L7 n d r a) (hb:L7 m e re b):L7 (n+m) d r (a++b):=by
 refine⟨?_,λk g c hg=>?_⟩
 ·obtain⟨x,hx⟩:=hb.1;simp_all [HO];grind
 rw[AE]at c
 rcases j9 hg hs with⟨e1,e2⟩|⟨e1,e2⟩
 ·obtain⟨x,rx,x1,x2,x3⟩:=ha.2 k g (by omega) e2;exact⟨x,rx,x1,x2,x3.mono<|by omega⟩
 obtain⟨x,rx,x1,x2,x3⟩:=hb.2 _ g (by omega) e2;exact⟨x,rx,x1,x2,hk.trans x3⟩
theorem bV (r m:List Al) (c:Int) (h:∀y∈m,¬(y.Page.Kind=1/\y.Page.Tx=c)):Lx (r++m) c=Lx r c:=by grind [WO,Lx]
theorem eW (h:Jn d r) (hw:FU d.Flash 999999999):∃steps ok,LS d=some (steps,ok)/\steps.length<=200/\(ok=false->steps=[])/\(ok=true->L7 1 d r steps):=by
 have hv:=h.dev.st.vs;obtain⟨dead,d1,d2,d3⟩:=bG h.dev;unfold LS;rw[d1];simp only[Aa]
 cases hd:dead with
 |cons b m=>
  rw[Ac (by grind [Bb]:ln (b::m)>0),show gi (b::m) 0=some b from Aq (i:=0)];refine⟨_,_,rfl,by simp,(λhh=>by cases hh),λ_=>?_⟩;obtain⟨x,x1,x2,x3⟩:=d3 b (by rw[hd];simp);have hc:ACI d.Flash b:=⟨x,x1,x2,λe=>by have:=hw x<|Aj (Ct x1).2;omega⟩;have hs:QH d.Flash (AH.mk 2 b 0<|bs []):= .inr ⟨rfl,hc⟩;obtain⟨w1,w2⟩:=Yf h.dev.fl hc;have he:M7 d.Flash (AH.mk 2 b 0<|bs [])=Yg d.Flash b:=by rfl
  have wp:∀g,Bl g->KY 0 g.Blocks=((KY 0 d.Flash.Blocks).filter λy=>y.Block !=b)->(∀w:Int,FU d.Flash w->FU g (w+1))->∃x rx,Cs g=some (x,true)/\x.Flash=g/\JI 1 d r x rx:=by
   intro g g1 g2 g3;obtain⟨d',u1,u2,u3,u4,u5,_,u6⟩:=ADb h x3 g1 g2;exact⟨d',_,u1,u2,u3,u4,u5,λy hy hk=>⟨y,(AR.1 hy).1,hk,rfl,rfl⟩,kY λy hy hk=>Zw _ (AR.1 hy).1 hk,by rw[u2];exact g3,u6,lF (n:=200*1) λy hy=>Zy _ (AR.1 hy).1⟩
  refine⟨⟨_,hs,rfl⟩,λk g hk hg=>?_⟩;obtain⟨q,q1,q2⟩:=hg
  cases k with
  |zero=>
   rw[show q=d.Flash from q1]at q2
   rcases q2 with rfl|⟨s,s1,_,s2,s3,⟨s4,_⟩|⟨_,s4⟩⟩
   ·obtain⟨x,u1,u2,u3⟩:=(JI.refl (n:=1) h).torn h.dev.fl rfl λ_ hh=>hh
    grind
   ·grind
   simp only[List.getElem?_cons_zero,A0]at s1;rw[<-s1]at s4
   exact wp g s2 s4 λw hh y hy=>by have:=s3 w hh y hy;omega
  |succ k=>grind [iE,Steps]
 |nil=>
  rw[show decide (ln ([]:List Int)>0)=false from rfl];obtain⟨v,v1⟩:=fC h.dev;rw[v1];simp only[Aa]
  cases v with
  |false=>
   unfold MU;rw[W6 h.dev.st];simp only[Aa];obtain⟨b1,b2⟩:=kJ hv
   rcases RU h.dev.fl h.dev.seqs (N3 (AF d.Store) d.Store.Next) (by unfold N3;simp) b2 b1 (bs [])with w|⟨steps,T,g,a,w1,w2,w3,w4,w5,w6,w7,w8,w9⟩
   ·grind
   rw[w2];simp only[Aa];have j:=(Fe w7).2;have l:(Cg (Jk d<|bs []) d.Tx T).length=T.length:=by unfold Cg;grind
   have o:C9 d a.Chunk (bs [])=[]:=by rfl
   rw[o,Az,l]at j;refine⟨_,_,rfl,by omega,(λhh=>by cases hh),λ_=>iZ (RY w7) λk hk=>?_⟩;obtain⟨m,d',r',c1,c2,c3,c4,c5,rfl,cw,c6,c7,c8,c9⟩:=Xv h b1 w3 w4 w5 w6 w7 w9 (λhh=>absurd (DS _) hh) k hk;have f:AF d'.Store=AF d.Store/\d'.Store.Next=d.Store.Next:=by
    by_cases e:k<steps.length
    ·obtain⟨e1,e2,_⟩:=Ic h.dev c4 (by rw[c8 e]);exact⟨e1,e2⟩
    obtain⟨q,hq⟩:=(c9<|by omega).1;have hB:uW (Tx.mk d.Tx q<|N3 (AF d.Store) d.Store.Next)=true:=rfl;have f:=c4.ab
    grind [TH,kK,OF]
   have hX:∀y∈(Cv steps<|C9 d a.Chunk (bs [])++Cg (Jk d<|bs []) d.Tx T).take k,y.Page.Kind=2/\y.Page.Tx=d.Tx:=λy hy=>by grind [MX,Py,jA]
   refine⟨d',_,by rw[c5];exact c1,by rw[c5];exact c3,⟨c4,c6,by grind⟩,f.1,f.2,λy hy hk=>?_,kY λy hy hk=>?_,by rw[c5];exact Zt (n:=1) cw,λc hc=>?_,lF (n:=200*1) λy hy=>?_⟩
   ·grind
   ·rcases A8.1 hy with hh|hh
    ·exact Zw _ hh hk
    rw[(hX y hh).2,h.dev.tx];omega
   ·grind [bV,BX]
   rcases A8.1 hy with hh|hh
   ·exact Zy _ hh
   have:=gZ<|MX _ _ _ y hh;rw[h.dev.seq]at this;omega
  |true=>
   simp only[Ak,Ae];obtain⟨vi,vi1⟩:=fG h.dev;rw[vi1];simp only[Aa]
   cases decide (vi<0)with
   |true=>grind
   |false=>
    rcases fO h.dev h.few vi with w|⟨steps,ps,g,w1,w2,w3,w4,w5,w6,w7⟩
    ·grind
    rw[w1];refine⟨steps,true,rfl,by omega,(λhh=>by cases hh),λ_=>iZ (RY w2) λk hk=>?_⟩;obtain⟨m,d',c1,c2,c3,c4,c5,c6,_,cw,c7⟩:=AB3 h w2 w4 w5 w6 k;refine⟨d',_,by rw[c4];exact c1,by rw[c4];exact c3,c5,c6.ab,c6.nx,λy hy hk=>?_,kY λy hy hk=>?_,by rw[c4];exact Zt (n:=1) cw,c7,lF (n:=200*1) λy hy=>?_⟩
    ·rcases A8.1 hy with hh|hh
     ·grind
     obtain⟨⟨_,_,z,z1,z2⟩,_⟩:=w6 _<|MX _ _ _ _ hh
     grind [bW]
    ·rcases A8.1 hy with hh|hh
     ·exact Zw _ hh hk
     have:=(w6 _<|MX _ _ _ _ hh).1.1;omega
    rcases A8.1 hy with hh|hh
    ·exact Zy _ hh
    have:=w7 _<|MX _ _ _ _ hh;rw[h.dev.seq]at this;omega
theorem Q6 (h:Bl f):∃v:Int,ML f=some v:=by
 obtain⟨v,v1,_⟩:=Ye f h.cap (by have:=h.few;omega);exact⟨v,v1⟩
theorem eX (h:Jn d r) (hw:FU d.Flash 999999000) (most:Int):∃d' all r',It d most=some (d',all)/\JI 20 d r d' r'/\all.length<=4000/\Steps d.Flash all d'.Flash/\L7 20 d r all:=by
 unfold It;rw[Kh h.dev];simp only[Aa]
 have j:∀{n:Nat} {a:List AH},n<=20->L7 n d r a->L7 20 d r a:=λhn hc=>⟨hc.1,λk g hk hg=>by
  obtain⟨x,rx,x1,x2,x3⟩:=hc.2 k g hk hg
  exact⟨x,rx,x1,x2,x3.mono hn⟩⟩
 obtain⟨b,h1,d',all,r',h2,h3,h4,h5,h6⟩:=AC (body:=λs:List AH×Int×List Block×List Vol×List Bf×Int×Int×Int×Int=>Em most s.1 s.2.1 s.2.2.1 s.2.2.2.1 s.2.2.2.2.1 s.2.2.2.2.2.1 s.2.2.2.2.2.2.1 s.2.2.2.2.2.2.2.1 s.2.2.2.2.2.2.2.2)
  (λ(o:List AH×Device) i=>(o.1,i,o.2.Flash.Blocks,o.2.Store.Vols,o.2.Store.Arena.Knots,o.2.Store.Next,o.2.Seq,o.2.Tx,o.2.Base)) 20
  (λi o=>o.1.length<=200*i/\∃r',JI i d r o.2 r'/\Steps d.Flash o.1 o.2.Flash/\L7 i d r o.1)
  (λb=>∃d' all r',(b= .inr (d',all)\/b= .inl (all,d'.Flash.Blocks,d'.Store.Vols,d'.Store.Arena.Knots,d'.Store.Next,d'.Seq,d'.Tx,d'.Base))/\JI 20 d r d' r'/\all.length<=4000/\Steps d.Flash all d'.Flash/\L7 20 d r all)
  (λo i hi hs=>by
   obtain⟨all,e⟩:=o;obtain⟨l,r',hg,c,f⟩:=hs;simp only at l hg c f;have m:Device.mk (Flash.mk e.Flash.Blocks) (Store.mk e.Store.Vols (Arena.mk e.Store.Arena.Knots) e.Store.Next) e.Seq e.Tx e.Base=e:=rfl;have p:Flash.mk e.Flash.Blocks=e.Flash:=rfl;simp only[Em];rw[m,p];obtain⟨v,v1⟩:=Q6 hg.good.dev.fl;rw[v1,Ac (by omega:(i:Int)<20)];simp only[Ao,Aa,Nq]
   cases(bif decide ((i:Int)<most)then decide (v<12)else false)with
   |false=>
    exact .inr ⟨_,rfl,e,all,r',.inr rfl,hg.mono (by omega),by omega,c,j (by omega) f⟩
   |true=>
    obtain⟨steps,ok,c1,c2,_,c3⟩:=eW hg.good (λx hx=>by have:=hg.wear _ hw x hx;omega);rw[c1];simp only[Aa]
    cases ok with
    |false=>
     exact .inr ⟨_,rfl,e,all,r',.inl rfl,hg.mono (by omega),by omega,c,j (by omega) f⟩
    |true=>
     obtain⟨d',r2,k1,k2,k3⟩:=(c3 rfl).full hg.good (by omega);rw[k1,Aa,AZ (by omega),ad1]
     exact .inl ⟨(all++steps,d'),rfl,by simp;omega,r2,hg.trans k3,(HO _ _ _ _).2 ⟨_,c,k2⟩,AAT hg c f<|c3 rfl⟩)
  (λo hs=>by simp_all [Em];grind) (s:=([],d)) ⟨by simp,r,JI.refl h,rfl,⟨⟨_,rfl⟩,λk g hk hg=>by
   obtain⟨q,q1,q2⟩:=hg;rw[List.take_nil]at q1;rw[show q=d.Flash from q1]at q2
   rcases q2 with rfl|⟨s,s1,_⟩
   ·obtain⟨x,u1,u2,u3⟩:=(JI.refl (n:=0) h).torn h.dev.fl rfl λ_ hh=>hh
    grind
   simp at s1⟩⟩
 rw[h1]
 rcases h2 with rfl|rfl
 ·grind
 exact⟨d',all,r',rfl,h3,h4,h5,h6⟩
theorem qH {r:Int} (h:k<16):(DJ K r)[k]?=some (Qz K r k):=by grind [DJ]
theorem qD (h:Ci s) (vol:Int) (hk:k<16):∃c,LT s vol (k:Int)=some c/\((Jg (AF s) vol=none/\c=0)\/∃a,Jg (AF s) vol=some a/\a[k]?=some c/\0<=c/\(c≠0->Dz (AF s) c)):=by
 have hl:=h.len;unfold LT
 rcases ED s (by omega) vol with⟨e,e2⟩|⟨i,v,e,e2,e3,_⟩
 ·grind [Jf]
 rw[e];simp only[Aa];have hm:=Aj e2;have hr:=h.root _<|A6.2 ⟨v,hm,rfl⟩;rw[cF,Aq,e2,Aa,bC _ (by have:=h.few;omega) h.ar hr hk];have hg:=Me h.asc hm;rw[e3]at hg;have h0:=sG h.ar hr _<|dV hk;exact⟨_,rfl,.inr ⟨_,hg,qH hk,h0,λb=>⟨by omega,_,A6.2 ⟨v,hm,rfl⟩,dV hk⟩⟩⟩
theorem Yq (h:Jn d r) (vol:Int) (hk:k<16):(Jg (AF d.Store) vol=none/\Fg r d.Store vol (k:Int)=some (bs [],false))\/
  ∃a c,Jg (AF d.Store) vol=some a/\a[k]?=some c/\LT d.Store vol (k:Int)=some c/\((c=0/\Fg r d.Store vol (k:Int)=some (bs [],true))\/(0<c/\Dz (AF d.Store) c/\∃u,BX r c=some u/\Fg r d.Store vol (k:Int)=some (u,true))):=by
 have hl:=h.dev.st.len;obtain⟨c,c1,c2⟩:=qD h.dev.st vol hk;unfold Fg;rw[c1]
 rcases ED d.Store (by omega) vol with⟨e,e2⟩|⟨i,v,e,e2,e3,_⟩
 ·grind [Jf]
 have hg:=Me h.dev.st.asc<|Aj e2;rw[e3]at hg
 rcases c2 with⟨c2,_⟩|⟨a,c2,c3,c4,c5⟩
 ·grind
 rw[e];simp only[Aa];rw[cF];right;by_cases e0:c=0
 ·grind
 rw[show(c==0)=false by simpa using e0];have b:=c5 e0;obtain⟨u,hu⟩:=h.data.data c b;obtain⟨w,ok,t1,t2⟩:=aV h.dev.pages c
 grind
theorem eM (h:Hb d r) {a:List Cm} {b:ByteArray} (hp:Eu d q=some (a,b,0)):AEo q:=by
 obtain⟨v,a1,a2⟩:=Qb q
 grind [Eu]
def tD (r r':List Al) (c:Int) (a:ByteArray):Prop:=(∀y∈r',y.Page.Kind=1->(∃z∈r,z.Page.Kind=1/\z.Page.Tx=y.Page.Tx/\z.Page.Text=y.Page.Text)\/(L a≠ []/\y.Page.Tx=c/\y.Page.Text=a))/\EI r'<=EI r+1/\D6 r'<=D6 r+10
theorem ADa (h:Jn d r) {a:ByteArray} (hx:qK d r q x a):Da d [x] a=some ([],false)\/∃steps d' r',Da d [x] a=some (steps,true)/\steps.length<=10/\Hu d steps=some d'/\Jn d' r'/\
  (AF d'.Store,d'.Store.Next)=(CN (AF d.Store) d.Store.Next x).getD (AF d.Store,d.Store.Next)/\d.Store.Next<=d'.Store.Next/\d'.Store.Next<=d.Store.Next+1/\tD r r' x.Chunk a/\ZU d.Flash d'.Flash/\Steps d.Flash steps d'.Flash/\((∀c,Dz (AF d.Store) c->BX r' c=BX r c)/\(L a≠ []->BX r' x.Chunk=ZY a))/\1<=steps.length/\∀k g,k<steps.length->YJ d.Flash steps k g->∃y ry,Cs g=some (y,true)/\y.Flash=g/\As d r y ry/\tD r ry x.Chunk a:=by
 obtain⟨x1,x2,xv,x3⟩:=hx;have h6:=h.dev.st.nx
 have i:∀z∈ [x],G0 z=true:=λz hz=>by grind
 rcases RU h.dev.fl h.dev.seqs [x] (by simp) (by simp) i a with w|⟨steps,T,g,b,w1,w2,w3,w4,w5,w6,w7,w8,w9⟩
 ·exact .inl w
 right;have j:b=x:=by simpa using w1.symm
 subst j;have o:=(Fe w7).2;have h2:(Cg (Jk d a) d.Tx T).length=T.length:=by unfold Cg;grind
 have h7:(C9 d b.Chunk a).length<=1:=by grind [C9]
 rw[AE,h2]at o
 have t:L a≠ []->¬Dz (AF d.Store) b.Chunk:=λht h3=>by
  rcases x3 with⟨x3,_⟩|⟨_,x4,_⟩
  ·exact ht x3
  have:=ZA h.dev.st h3;omega
 have tk:∀k c,Dz (AF d.Store) c->BX (r++(Cv steps<|C9 d b.Chunk a++Cg (Jk d a) d.Tx T).take k) c=BX r c:=λk c hc=>by grind [bV,MX,Py,BX,C9]
 have tn:L a≠ []->BX (r++(Cv steps<|C9 d b.Chunk a++Cg (Jk d a) d.Tx T).take steps.length) b.Chunk=ZY a:=λe=>by
  rw[AQ (by unfold Cv;grind),show C9 d b.Chunk a=[Page.mk 1 d.Seq b.Chunk 0 1 a] by grind [C9]]
  cases steps with
  |nil=>grind
  |cons s ss=>
   show BX (r++Al.mk s.Block s.Leaf (Page.mk 1 d.Seq b.Chunk 0 1 a)::Cv ss (Cg (Jk d a) d.Tx T)) b.Chunk=_;unfold BX;rw[List.append_cons,jG _ _ (λy hy=>by have:=Py (MX ss _ _ y (by rw[Jh];exact hy));omega),Qh,Cn ⟨rfl,rfl⟩];rfl
 have fw:∀k,tD r (r++(Cv steps<|C9 d b.Chunk a++Cg (Jk d a) d.Tx T).take k) b.Chunk a:=λk=>by
  have cP:∀y∈r++(Cv steps<|C9 d b.Chunk a++Cg (Jk d a) d.Tx T).take k,y∈r\/y.Page∈C9 d b.Chunk a++Cg (Jk d a) d.Tx T:=λy hy=>(A8.1 hy).imp id<|MX _ _ _ y
  refine⟨λy hy hk=>?_,kY (n:=1) λy hy hk=>?_,lF (n:=10) λy hy=>?_⟩
  ·grind [Py,C9]
  ·rcases cP y hy with hh|hh
   ·exact Zw _ hh hk
   rcases A8.1 hh with hh|hh
   ·grind [C9]
   rw[jA hh,h.dev.tx];omega
  rcases cP y hy with hh|hh
  ·exact Zy _ hh
  have:=gZ hh;rw[h.dev.seq]at this;omega
 have cut:∀k g,k<steps.length->YJ d.Flash steps k g->∃y ry,Cs g=some (y,true)/\y.Flash=g/\As d r y ry/\tD r ry b.Chunk a:=λk g hk hg=>by
  obtain⟨m,y,ry,c1,c2,c3,c4,c5,hr',cw,c6,c7,c8,_⟩:=Xv h i w3 w4 w5 w6 w7 w9 t k (by omega);obtain⟨e1,e2,_⟩:=Ic h.dev c4 (by rw[c8 hk]);subst hr';have h4:As d r y (r++(Cv steps<|C9 d b.Chunk a++Cg (Jk d a) d.Tx T).take k):=⟨⟨c4,c6,by rw[e1];exact c7⟩,e1,e2,(fw k).2.1,by grind [Zt],tk k⟩;obtain⟨q,q1,q2⟩:=hg;have:=Q5 q1 c1;subst this
  rcases q2 with rfl|⟨s,s1,_,s2,s3,⟨_,s4⟩|⟨s4,_⟩⟩
  ·grind
  ·obtain⟨z,z1,z2,z3⟩:=h4.torn s2 (by rw[c5];exact s4) (by rw[c5];exact s3)
   grind
  grind [RY]
 obtain⟨m,d',r',c1,c2,c3,c4,c5,hr',cw,c6,c7,_,c9⟩:=Xv h i w3 w4 w5 w6 w7 w9 t steps.length<|A4 _;rw[<-c5]at cw;rw[Jh]at c1;have u:Steps d.Flash steps d'.Flash:=by rw[c5];exact c1
 have v:tD r r' b.Chunk a:=by grind
 have tt:(∀c,Dz (AF d.Store) c->BX r' c=BX r c)/\(L a≠ []->BX r' b.Chunk=ZY a):=by grind
 obtain⟨⟨qn,hq⟩,c10⟩:=c9 rfl;have hB:¬uW (Tx.mk d.Tx qn [b])=true:=by grind [uW]
 have f:=c4.ab;rw[hq,TH,B6 hB,b9,<-h.dev.ab]at f;have h5:CP (AF d.Store) d.Store.Next [b]=CN (AF d.Store) d.Store.Next b:=by rfl
 simp only[h5]at f;have h0:=QP h.dev c1 (by omega) c3
 cases l:CN (AF d.Store) d.Store.Next b with
 |none=>
  rw[l]at f;have e1:AF d'.Store=AF d.Store:=Cu Prod.fst f;have e2:d'.Store.Next=d.Store.Next:=Cu Prod.snd f;exact⟨steps,d',r',w2,by omega,h0,⟨c4,c6,by rw[e1];exact c7⟩,by grind,by omega,by omega,v,cw,u,tt,by omega,cut⟩
 |some p=>
  obtain⟨l',nx'⟩:=p;rw[l]at f;have e1:AF d'.Store=l':=Cu Prod.fst f;have e2:d'.Store.Next=nx':=Cu Prod.snd f;obtain⟨v1,v2,v3⟩:=YG l x2
  have hz:∀c,Dz l' c->c=b.Chunk->b.Kind≠4->False:=λc hc h8 hk=>by
   have:b.Chunk=0:=by grind [G0]
   have:=hc.1;omega
  have h1:b.Chunk<=d.Store.Next:=by
   by_cases hk:b.Kind=4
   ·rcases x3 with⟨_,x4⟩|⟨_,x4,_⟩
    ·have:=ZA h.dev.st (x4 hk).1;omega
    omega
   grind [G0]
  refine⟨steps,d',r',w2,by omega,h0,⟨c4,c6,?_⟩,by grind,by omega,by omega,v,cw,u,tt,by omega,cut⟩;rw[e1]
  rcases x3 with⟨x3,x4⟩|⟨x3,x4,x5,x6,x7⟩
  ·refine c7.mono λc hc=>?_
   grind
  exact(c10 _ x6 x5 x7).mono v1
def AC1 (d d':Device) (v:Int):Prop:=∀p∈AF d'.Store,(∃p'∈AF d.Store,p'.1=p.1)\/p.1=v
theorem rB (h:AF d'.Store=AF d.Store) (v:Int):AC1 d d' v:=λp hp=> .inl ⟨p,by grind,rfl⟩
structure Kc (c:Bg):Prop where
 i0:0<=c.i_
 i1:c.i_<=(c.b_.length:Int)
 len:c.b_.length<=1048576
theorem ACN (a:Int):0<=ban .i64 a 255/\ban .i64 a 255<=255:=by
 unfold ban;have h:(BitVec.ofInt IntKind.i64.bits a&&&BitVec.ofInt IntKind.i64.bits 255).toNat<=255:=by
  refine JE Nat.and_le_right ?_;exact Nat.le_of_eq rfl
 grind [Pa]
theorem eY (h:Kc c):∃v c',Kk c=some (v,c')/\Kc c'/\0<=v/\v<=255:=by
 have:=h.i0;have:=h.i1;have:=h.len;unfold Kk;by_cases e:c.i_<ln c.b_
 ·rw[Ac e,Ao,L5 h.i0<|by grind [Bb]];rw[Bb]at e;rw[Aa,Cl (a:=c.i_) (by omega)<|by omega];exact⟨_,_,rfl,⟨by grind,by grind,h.len⟩,ACN _⟩
 rw[Ai e,Ae];exact⟨_,_,rfl,⟨h.i0,h.i1,h.len⟩,ACN _⟩
theorem AFX {a n:Int} (h0:0<=a) (hn:0<n):∃v,rm .i64 a n=some v/\0<=v/\v<n:=by
 unfold rm;rw[B6 (by omega),Int.tmod_eq_emod_of_nonneg h0];exact⟨_,rfl,Int.emod_nonneg _ (by omega),Int.emod_lt_of_pos _ hn⟩
theorem M4 (h:Kc c) (n:Int):∃v c',B7 c n=some (v,c')/\Kc c'/\0<=v/\(0<n->v<n):=by
 unfold B7;by_cases h0:n<=0
 ·simp_all;grind
 by_cases h1:n<=256
 ·grind [eY,AFX]
 rw[Ai h1,Ae];obtain⟨v1,c1,a1,a2,a3,a4⟩:=eY h;obtain⟨v2,c2,b1,b2,b3,b4⟩:=eY a2;obtain⟨v3,c3,d1,d2,d3,d4⟩:=eY b2;obtain⟨v4,c4,e1,e2,e3,e4⟩:=eY d2;rw[a1,Aa,b1,Aa,d1,Aa,e1,Aa,Qk (by omega) (by omega),Qk (by omega) (by omega),Qk (by omega) (by omega),Cl (a:=v1*16777216) (b:=v2*65536) (by omega) (by omega),Cl (a:=v1*16777216+v2*65536) (b:=v3*256) (by omega) (by omega),Cl (a:=v1*16777216+v2*65536+v3*256) (b:=v4) (by omega)<|by omega];obtain⟨w,w1,w2,w3⟩:=AFX (a:=v1*16777216+v2*65536+v3*256+v4) (n:=n) (by omega)<|by omega
 grind
theorem Oi (h:Kc c) (hn:0<n):∃(v:Nat) (c':Bg),B7 c (n:Int)=some ((v:Int),c')/\Kc c'/\v<n:=by
 obtain⟨v,c',k1,k2,k3,k4⟩:=M4 h (n:Int);exact⟨v.toNat,c',by grind,k2,by omega⟩
theorem UD {l:List Int} (h:Kc c) (hl:0<l.length):∃v c',EP c l=some (v,c')/\Kc c'/\v∈l:=by
 unfold EP
 grind [Oi,Bb,Aq]
theorem AFw {l:List ByteArray} (h:Kc c) (hl:0<l.length):∃v c',TO c l=some (v,c')/\Kc c'/\v∈l:=by
 unfold TO;obtain⟨v,c',k1,k2,k3⟩:=Oi h hl;simp_all [Bb,Aq];grind
theorem oQ (h:Kc c) (n:Int):∃v c',GK c n=some (v,c')/\Kc c':=by
 unfold GK;obtain⟨v,c',k1,k2,_⟩:=M4 h n;rw[k1];exact⟨_,_,rfl,k2⟩
theorem RP (h:Kc c):Kc (Bg.mk c.b_ c.i_ c.h_):=h
theorem AGw {code:List Int} (h:code.length<=1048576):∃c,Qa code=some c/\Kc c:=by
 unfold Qa;obtain⟨b,h1,_⟩:=AC (body:=λs:Int×Int=>MG code s.1 s.2) (λ(o:Int) i=>(o,i)) code.length (λ_ _=>True) (λ_=>True)
  (λo i hi _=>by
   have hx:=Ab hi;simp only[MG,Fv,Ac hi,Ao,Aa,Aq,hx];rw[ad1 (i:=i)<|by omega]
   cases decide ((i:Int)<4000)with
   |true=>grind
   |false=>grind)
  (λo _=>⟨o,by grind [Fv,MG],trivial⟩) (s:=ad 36501<|ln code) trivial
 rw[h1];exact⟨_,rfl,⟨L0 _,by grind,h⟩⟩
def ten:List ByteArray:=[bs [],bs [97],bs [98,98],bs [97,98,99,100,97,98,99,100,97,98,99,100],bs [104,101,108,108,111],bs [104,101,108,108,111,32,104,101,108,108,111,32,104,101,108,108,111],bs [122,122,122,122,122,122,122,122,122,122,122,122],bs [113,49],bs [113,50],bs [113,51]]
theorem AFq (h:Kc c):∃v c',TL c=some (v,c')/\Kc c'/\v∈ten:=by
 unfold TL;obtain⟨v,c',k1,k2,k3⟩:=AFw h (l:=ten)<|by simp[ten]
 grind [ten]
structure AC3 (q:Ask):Prop where
 kind:1<=q.Kind/\q.Kind<=6
 vol:1<=q.Vol/\q.Vol<=3
 rest:(q.Kind=1/\q.Text∈ten/\(0<=q.Sector/\q.Sector<=15)/\q.Of=0)\/(q.Kind≠1/\L q.Text=[]/\(((q.Kind=2\/q.Kind=6)/\(0<=q.Sector/\q.Sector<=15)/\q.Of=0)\/(q.Sector=0/\((q.Kind=4/\1<=q.Of/\q.Of<=9)\/((q.Kind=3\/q.Kind=5)/\q.Of=0)))))
theorem AFy (h:Kc c) (d:Device) (hv:d.Store.Vols.length<=3) (o:∀v∈d.Store.Vols,1<=v.Id/\v.Id<=3):∃q c',TM c d=some (q,c')/\Kc c'/\AC3 q:=by
  unfold TM;obtain⟨k,c1,a1,a2,a3⟩:=UD h (l:=[1,1,1,1,1,1,2,3,4,5,6]) (by simp);rw[a1];simp only[Aa];obtain⟨v2,c2,b1,b2,b3,b4⟩:=M4 a2 3;have g:1<=k/\k<=6:=by simp at a3;omega
  have r:ad 1 v2=1+v2:=Cl (by omega) (by omega);rw[b1];simp only[Aa]
  have J1:∃x y c3,(cond ((ln d.Store.Vols)==0) (some (3,ad 1 v2,c2.b_,c2.i_,c2.h_)) ((cond (k !=3) (cond (k !=4) ((GK c2 8).bind λv3=>
 some (!v3.1,v3.2.b_,v3.2.i_,v3.2.h_))<|some (false,c2.b_,c2.i_,c2.h_)) (some (false,c2.b_,c2.i_,c2.h_)):Option (Bool×List Int×Int×Int)).bind λj2=>
 cond j2.1 ((B7 (Bg.mk j2.2.1 j2.2.2.1 j2.2.2.2)<|ln d.Store.Vols).bind λv4=>
 (gi d.Store.Vols v4.1).bind λx1=>
 some (k,x1.Id,v4.2.b_,v4.2.i_,v4.2.h_)) (some (k,ad 1 v2,j2.2.1,j2.2.2.1,j2.2.2.2))):Option (Int×Int×List Int×Int×Int))=some (x,y,Bg.b_ c3,c3.i_,c3.h_)/\Kc c3/\(1<=x/\x<=6)/\1<=y/\y<=3:=by
   cases hz:(ln d.Store.Vols==0)with
   |true=>exact⟨_,_,c2,rfl,b2,by omega,by omega,by omega⟩
   |false=>
    have j:0<d.Store.Vols.length:=by grind [Bb]
    have J2:∃b c3,(cond (k !=3) (cond (k !=4) ((GK c2 8).bind λv3=>some (!v3.1,v3.2.b_,v3.2.i_,v3.2.h_))<|some (false,c2.b_,c2.i_,c2.h_)) (some (false,c2.b_,c2.i_,c2.h_)):Option (Bool×List Int×Int×Int))=some (b,Bg.b_ c3,c3.i_,c3.h_)/\Kc c3:=by
     cases(k !=3)with
     |false=>grind
     |true=>
      cases(k !=4)with
      |false=>grind
      |true=>
       obtain⟨v3,c3,d1,d2⟩:=oQ b2 8;rw[d1];exact⟨_,c3,rfl,d2⟩
    obtain⟨b,c3,e1,e2⟩:=J2;rw[e1];simp only[Aa]
    cases b with
    |false=>exact⟨_,_,c3,rfl,e2,g,by omega,by omega⟩
    |true=>
     obtain⟨v4,c4,f1,f2,f3⟩:=Oi (RP e2) j;rw[Bb,f1,Aa,Aq,Ab f3];exact⟨_,_,c4,rfl,f2,g,o _<|Aw f3⟩
  obtain⟨x,y,c3,j1,j1c,jx,jy⟩:=J1;rw[j1];simp only[Aa];have J3:∃b c4,(cond (x==5) ((GK (Bg.mk c3.b_ c3.i_ c3.h_) 3).bind λv8=>some (!v8.1,v8.2.b_,v8.2.i_,v8.2.h_)) (some (false,c3.b_,c3.i_,c3.h_)):Option (Bool×List Int×Int×Int))=some (b,Bg.b_ c4,c4.i_,c4.h_)/\Kc c4:=by
   cases(x==5)with
   |false=>grind
   |true=>
    obtain⟨v8,c4,d1,d2⟩:=oQ (RP j1c) 3;rw[d1];exact⟨_,c4,rfl,d2⟩
  obtain⟨b,c4,j3,j3c⟩:=J3;rw[j3];simp only[Aa,Nq];have a:1<=(bif b then(1:Int)else x)/\(bif b then(1:Int)else x)<=6:=by grind
  generalize (bif b then(1:Int)else x)=j4 at a
  cases m:(j4==1)with
  |true=>
   obtain⟨t,c5,t1,t2,t3⟩:=AFq<|RP j3c;rw[t1];simp only[Aa];obtain⟨v10,c6,u1,u2,u3,u4⟩:=M4 t2 16;rw[u1];have hj:=HW.1 m;exact⟨_,_,rfl,u2,⟨a,jy,.inl ⟨hj,t3,by grind,rfl⟩⟩⟩
  |false=>
   have e:j4≠1:=by simpa using m
   have p:(cond (j4==2) (j4==2)<|j4==6)=decide (j4=2\/j4=6):=by grind
   rw[p];by_cases f:j4=2\/j4=6
   ·rw[Ac f];obtain⟨v11,c6,u1,u2,u3,u4⟩:=M4 (RP j3c) 16;rw[u1];exact⟨_,_,rfl,u2,⟨a,jy,.inr ⟨e,DS _,.inl ⟨f,by grind,rfl⟩⟩⟩⟩
   rw[Ai f]
   cases n:(j4==4)with
   |true=>
    obtain⟨v12,c6,u1,u2,u3,u4⟩:=M4 (RP j3c) 3;have h44:=HW.1 n;rw[u1]
    cases s:d.Store.Vols with
    |nil=>
     exact⟨_,_,rfl,u2,⟨a,jy,.inr ⟨e,DS _,.inr ⟨rfl,.inl ⟨h44,by grind [Cl]⟩⟩⟩⟩⟩
    |cons v vs=>
     rw[Ac (by grind [Bb]:ln (v::vs)>0),show gi (v::vs) 0=some v from Aq (i:=0)];exact⟨_,_,rfl,u2,⟨a,jy,.inr ⟨e,DS _,.inr ⟨rfl,.inl ⟨h44,by grind⟩⟩⟩⟩⟩
   |false=>
    exact⟨_,_,rfl,RP j3c,⟨a,jy,.inr ⟨e,DS _,.inr ⟨rfl,.inr ⟨by grind,rfl⟩⟩⟩⟩⟩
theorem sN (h:3<=n/\n<=10):Bl (Flash.mk (List.replicate n (Block.mk false 0 JY))):=by
 refine⟨by simpa using h,λb hb=>?_⟩
 grind [sO]
theorem W1 (h:3<=n/\n<=10):LP (n:Int)=some (Flash.mk (List.replicate n (Block.mk false 0 JY)),true):=by
 unfold LP;rw[CM,Ac<|by omega];simp only[Aa,Ak,Ae];have q:=uT (body:=λs:Int×List Block=>Gz (n:Int) s.1 s.2) n (λ_=>Block.mk false 0 JY)
  (λi a hi ho=>by grind [TX,AZ,ad1,Gz])
  (λa=>by grind [Gz])
 rw[q,Aa,N5,FT]
theorem i8:∀(n:Nat) (i:Int),KY i (List.replicate n (Block.mk false 0 JY))=[]
 |0,i=>rfl
 |n+1,i=>by
  rw[List.replicate_succ,KY,i8 n (i+1),WF i 0 _ (λy hy=>by rw[DL hy];simp)];rfl
theorem Zc (h:3<=n/\n<=10):∃d,Iq (n:Int)=some (d,true)/\Jn d []/\AF d.Store=[]/\d.Store.Next=1/\d.Flash=Flash.mk (List.replicate n (Block.mk false 0 JY)):=by
 have hP:=sN h;have b:SR (KY 0 (Flash.mk<|List.replicate n<|Block.mk false 0 JY).Blocks) []:=by
  rw[i8];exact⟨List.Pairwise.nil,λ_=>rfl⟩
 obtain⟨d,u1,u2,u3⟩:=Nn hP b;have a:=u2.ab;have:OF (CB<|AU [])=([],1):=rfl;rw[this]at a
 injection a with e1 e2
 refine⟨d,?_,⟨u2,⟨⟨by simp,by simp,by simp,by simp,by simp,by simp⟩,List.Pairwise.nil,⟨λy hy=>by cases hy⟩⟩,?_⟩,e1,e2,u3⟩
 ·grind [W1,Iq]
 rw[e1];refine⟨λc hc=>?_,λc c' hc=>?_⟩
 ·obtain⟨_,p,hp,_⟩:=hc;cases hp
 obtain⟨_,p,hp,_⟩:=hc;cases hp
theorem AC3.text (h:AC3 q):q.Text∈ten:=by
 rcases h.rest with⟨_,h2,_⟩|⟨_,h2,_⟩
 ·exact h2
 grind [JH,DS,ten]
theorem lI (a b:List ByteArray) (h:a.length<=1048576):Xm (Ie a b) a b:=
 r6 (λx y=>some<|seq x y) a b (by omega) (λx _ y _=>zQ x y) (λ_=>rfl) rfl
def JP (a:List Shelf):Prop:=a.length<=1048576/\∀x∈a,x.Texts.length<=1048576
theorem O5 (a b:List Shelf) (h:JP a):Xm (MI a b) a b:=by
 have c:=h.1;refine r6 (λx y=>bif x.Vol !=y.Vol then some false else Ie x.Texts y.Texts) a b (by omega) (λx hx y _=>?_) (body:=λi=>bif decide (i<ln a)then((gi a i).bind λx=>(gi b i).bind λy=>(bif x.Vol !=y.Vol then some false else Ie x.Texts y.Texts).bind λv=>bif !v then some (.inr<|.inr false)else some<|.inl<|ad i 1)else some<|.inr<|.inl ()) (λ_=>rfl) ?_
 ·obtain⟨v,h1,h2⟩:=lI x.Texts y.Texts<|h.2 x hx;rw[h1]
  cases x with
  |mk av at_=>
  cases y with
  |mk bv bt=>
  by_cases hv:av=bv
  ·subst hv;exact⟨v,by simp,by simpa using h2⟩
  have:(av !=bv)=true:=by simpa using hv
  simp only[this];exact⟨false,rfl,by simp[hv]⟩
 unfold MI;congr 2;congr 1;funext i;unfold O6
 cases hi:decide (i<ln a)with
 |false=>rfl
 |true=>
  cases ha:gi a i with
  |none=>rfl
  |some x=>
   cases hb:gi b i with
   |none=>rfl
   |some y=>simp_all;grind
theorem OM (a b:List Shelf) (h:JP a):Xm (Kz a b) a b:=by
 have g:=h.1;by_cases hl:a.length=b.length
 ·have e:(ln a !=ln b)=false:=by simp[ln,hl]
  have j:∀(i:Nat) (x y:Shelf),a[i]?=some x->b[i]?=some y->x.Texts.length=y.Texts.length->x.Texts.length<=1048576->
    Ah (λs:Int=>GV a b (i:Int) x s) 0=some (bif(x.Texts.zip y.Texts).all (λz=>seq z.1 z.2)then .inl ()else .inr<|.inr<|.inr false):=by
   intro i x y hx hy f hM;have:=OH (body:=λs:Int=>GV a b (i:Int) x s) (λ(_:Unit) i=>i) (x.Texts.zip y.Texts) (λ_ _ z=>bif seq z.1 z.2 then .inl ()else .inr<|.inr<|.inr<|.inr false) (λ_=> .inl ()) (λ_ _=>True)
    (λs k z hz _=>by
     refine⟨?_,λ_ _=>trivial⟩;obtain⟨z1,z2⟩:=z;obtain⟨c,hz'⟩:=Ad.1 hz;rw[List.getElem_zip]at hz'
     injection hz' with e1 e2
     have k1:k<x.Texts.length:=by simp at c;omega
     have k2:k<y.Texts.length:=by simp at c;omega
     simp only[GV,Fv,Ac k1,Ao,Aq,hx,hy,Aa,Ab k1,Ab k2,e1,e2]
     grind [ad1])
    (λs _=>by
     have:(x.Texts.zip y.Texts).length=x.Texts.length:=by simp[f]
     rw[this]
     simp[CU,GV]) (s:=()) trivial
   rw[this];have d:∀(m:List (ByteArray×ByteArray)) (i:Nat),PC (λ(_:Unit) _ z=>bif seq z.1 z.2 then .inl ()else .inr<|.inr<|.inr<|.inr false) (λ_=>(.inl ():Unit⊕Int⊕Unit⊕Bool)) m i ()=bif m.all (λz=>seq z.1 z.2)then .inl ()else .inr (.inr<|.inr false):=by
    intro m
    induction m with
    |nil=>intro i;rfl
    |cons z m ih=>grind [PC]
   rw[d]
  have hp:∀(x y:Shelf),(bif x.Vol !=y.Vol then false else bif x.Texts.length !=y.Texts.length then false else(x.Texts.zip y.Texts).all λz=>seq z.1 z.2)=true↔x=y:=by
   intro x y
   cases x with
   |mk av at_=>
   cases y with
   |mk bv bt=>
   by_cases hv:av=bv
   ·subst hv;by_cases hl:at_.length=bt.length
    ·simp only[bne_self_eq_false,Ae,hl,Shelf.mk.injEq,true_and];exact TB (p:=seq) (λx _ y _=>by rw[KH,Bi]) hl
    grind
   grind
  have:=ZH (body:=λs:Int=>I7 a b s) a b (λx y=>bif x.Vol !=y.Vol then false else bif x.Texts.length !=y.Texts.length then false else(x.Texts.zip y.Texts).all λz=>seq z.1 z.2) hl (by omega)
   (λi x y hx hy=>by
    have c:=(Ad.1 hx).1;have hz:=h.2 x<|Aj hx;simp only[I7,Ds c,Aq,hx,hy,Aa]
    grind [ad1,ln])
   (by simp[CU,I7])
  refine⟨(a.zip b).all λz=>bif z.1.Vol !=z.2.Vol then false else bif z.1.Texts.length !=z.2.Texts.length then false else(z.1.Texts.zip z.2.Texts).all λz=>seq z.1 z.2,?_,TB (p:=λx y=>bif x.Vol !=y.Vol then false else bif x.Texts.length !=y.Texts.length then false else(x.Texts.zip y.Texts).all λz=>seq z.1 z.2) (λx _ y _=>hp x y) hl⟩
  grind [Kz]
 have e:(ln a !=ln b)=true:=by simp[ln];omega
 unfold Kz;rw[e,Ao];exact⟨false,rfl,by grind⟩
theorem kP (d:Device) (h:gL d.Flash r) (hs:EC d.Store<=1048576) (id:Int) (k:Nat) (hk:k<16):∃u ok,Fg r d.Store id (k:Int)=some (u,ok)/\Qq d id (k:Int)=some (u,ok):=by
 unfold EC QC at hs;have hl:=PG (z:=UM) (l:=d.Store.Arena.Knots);have ha:Ls d.Store.Arena:=by unfold Ls;omega
 unfold Fg Qq;obtain⟨v,h1,h2,h3⟩:=VW d.Store id (by omega);rw[h1,h2];simp only[Aa]
 cases decide (v<0)with
 |true=>grind
 |false=>
  obtain⟨c,c1,c2⟩:=wS d.Store (by omega) ha id k hk;rw[c1,c2];simp only[Aa]
  cases c==0 with
  |true=>grind
  |false=>
   obtain⟨u,ok,t1,t2⟩:=Sb h c
   grind
theorem Q7 (d:Device) (hz:GA d<=1048576):∃m,DM d=some m/\FR d=some m:=by
 unfold GA at hz;obtain⟨r,hr⟩:=ZP d.Flash (by omega);have hs:EC d.Store<=1048576:=by omega
 have hv:d.Store.Vols.length<=1048576:=by grind [EC]
 unfold DM FR;rw[hr.s];obtain⟨m,h1,h2,_⟩:=La (body:=λs:List Shelf×Int=>CS d r s.1 s.2) (body':=λs:List Shelf×Int=>Fw d s.1 s.2) (λ(o:List Shelf) i=>(o,i)) (λ(o:List Shelf) i=>(o,i)) d.Store.Vols.length (λi o=>o.length=i) (λ_=>True)
  (λo i hi ho=>by
   have hg:d.Store.Vols[i]?=some d.Store.Vols[i]:=Ab hi;simp only[CS,Fw,Fv,Ac hi,Ao,Aq,hg,Aa];obtain⟨l,q1,q2,q3⟩:=La (body:=λs:Int×List ByteArray=>Ea d r d.Store.Vols[i] s.1 s.2) (body':=λs:Int×List ByteArray=>H3 d d.Store.Vols[i] s.1 s.2) (λ(o:List ByteArray) k=>(k,o)) (λ(o:List ByteArray) k=>(k,o)) 16 (λk o=>o.length=k) (λ_=>True)
    (λu k hk hu=>by
     obtain⟨t,ok,g1,g2⟩:=kP d hr hs d.Store.Vols[i].Id k hk
     grind [AZ,ad1,Ea,H3])
    (λu hu=>⟨u,by rfl,by rfl,trivial⟩) (s:=[]) rfl
   grind [AZ,ad1])
  (λo ho=>⟨o,by grind [Fv,CS],by grind [Fv,Fw],trivial⟩) (s:=[]) rfl
 grind
theorem AAX (h:Ci s):EC s<=1048576:=by
 have h1:=h.len;have h2:=h.small;have a:∀l:List Bf,(∀k∈l,k.Kids.length=4)->(l.map UM).sum=4*l.length:=by
  intro l
  induction l with
  |nil=>intro _;rfl
  |cons k l ih=>grind [UM]
 have:=a s.Arena.Knots (λk hk=>by
  obtain⟨i,hi,rfl⟩:=Au hk;have:=(Fy.1 h.ar i hi).1
  grind [OI])
 unfold EC QC zl;omega
theorem u9 (h:Jn d r) (vol:Int) (hk:k<16):Qq d vol (k:Int)=Fg r d.Store vol (k:Int):=by
 obtain⟨u,ok,h1,h2⟩:=kP d h.dev.scan (AAX h.dev.st) vol k hk;rw[h1,h2]
theorem ADh:∀t∈ten,(L t).length<=64:=by simp[DS,ten]
theorem AEp (h:AC3 q):Hv q=some true:=by
 obtain⟨h1,h2,h3⟩:=h;have hl:(L q.Text).length<=64:=ADh _<|AC3.text ⟨h1,h2,h3⟩;unfold Hv;rw[CM,CM,Bv,Ac h1,Ac (by omega:1<=q.Vol/\q.Vol<=9),Ai (by omega:¬((L q.Text).length:Int)>64)]
 rcases h3 with⟨k1,_,k3,k4⟩|⟨k1,k2,k3⟩
 ·simp_all [CM]
 have a:seq q.Text (bs [])=true:=by grind [KH,JH,DS]
 simp_all [BD];grind
theorem cV (h:Ci s) {live:List Int} (hl:EK s=some live):J7 s=some live:=by
 obtain⟨l,e1,e2,_,_⟩:=Q8 s (by have:=h.len;omega)<|dX h
 grind
theorem tA (h:Hb d r) {live:List Int} (hl:EK d.Store=some live) (l2:asc live) (l4:live.length<=16777216) (a b:Int):bA d.Flash d.Store a b=some ((cn r.length (λj=>(C1 r live a)[j]?.getD false&&bk r b j):Nat):Int)/\H1 d.Flash d.Store a b=some ((cn r.length (λj=>(C1 r live a)[j]?.getD false&&bk r b j):Nat):Int):=by
 obtain⟨n,n1,n2⟩:=YZ h.scan d.Store (cV h.st hl) l2 l4 a b;have c:=bP r (C1 r live a) b h.scan.len<|Ku _ _ _;have e:C1 r live a=live.foldl (fU r) (r.map<|D5 a):=rfl;rw[e]at c;rw[n1]at c;unfold bA;rw[h.scan.s,hl];simp only[Aa];rw[NF r live _ h.scan.len l4]
 grind
theorem AD2 (h:Hb d r) (hy:y∈r):Jx y.Page:=by
 obtain⟨b,x,g1,g2,_,g3⟩:=h.scan.page y hy;obtain⟨_,k1⟩:=Ct g1;obtain⟨_,k2⟩:=Ct g2;have hx:=h.fl.text b (Aj k1) x<|Aj k2;obtain⟨p,ok,m1,_,_,m2⟩:=IG x.Text (by omega);rw[g3]at m1
 injection m1 with m1
 obtain⟨v,q1,q2⟩:=Vt p
 grind
theorem AGI (hc:JD g) (ss:List AH) (hs:ss.length<=1000) (p:Page) (b:Int):
  (∃s g',D1 g ss p=some (g',ss++ [s],true)/\JD g'/\CC (FX.mk g ss) p b=some (if(s.Block==b)=true then(false,FX.mk g ss)else(true,FX.mk g' (ss++ [s]))))\/
  (∃g' st,D1 g ss p=some (g',st,false)/\∃w,CC (FX.mk g ss) p b=some (false,w)):=by
 obtain⟨t,ok,t1,t2⟩:=YW p;obtain⟨bb,l,room,p1,p2,p3⟩:=eN g hc;unfold D1 CC;rw[t1,t2,p1,p2]
 cases ok with
 |false=>simp
 |true=>
  cases room with
  |false=>simp
  |true=>
   obtain⟨g2,v,g1,g3,g4⟩:=UF g (AH.mk 1 bb l t) hc;have a:JD g2:=by grind [VU.cap]
   simp only[Ak,Ae,Aa,g1,g3];rw[AZ<|by grind]
   cases v with
   |true=>
    refine .inl ⟨AH.mk 1 bb l t,g2,rfl,a,?_⟩
    cases hb:(bb==b)with
    |true=>rfl
    |false=>rfl
   |false=>
    refine .inr ⟨g2,_,rfl,?_⟩
    cases hb:(bb==b)with
    |true=>grind
    |false=>simp
abbrev MvS:=Int×List AH×List Block
def fT (sq:Int) (y:Al):Page:=Page.mk 1 sq y.Page.Tx 0 1 y.Page.Text
noncomputable def mv (b:Int):List Al->MvS->Option (Option MvS)
 |[],o=>some (some o)
 |y::ys,o=>(D1 (Flash.mk o.2.2) o.2.1 (fT o.1 y)).bind λv=>if v.2.2=true then(match v.2.1.getLast? with
  |some s=>if(s.Block==b)=true then some none else mv b ys (o.1+1,v.2.1,v.1.Blocks)
  |none=>some none)else some none
theorem AB1 (b:Int):∀(xs ys:List Al) (o:MvS),mv b (xs++ys) o=(mv b xs o).bind λq=>match q with
  |some o'=>mv b ys o'
  |none=>some none
 |[],ys,o=>rfl
 |x::xs,ys,o=>by
  simp only[Cw,mv]
  cases D1 (Flash.mk o.2.2) o.2.1 (fT o.1 x)with
  |none=>rfl
  |some v=>
   simp only[Aa];split
   ·split
    ·split
     ·rfl
     exact AB1 b xs ys _
    rfl
   rfl
def MvI (m:Nat) (o:MvS):Prop:=JD (Flash.mk o.2.2)/\o.2.1.length<=m/\0<=o.1/\o.1<=1000000001+m
theorem uP {o:MvS} (h:MvI m o) (hm:m<=1000):
  (∃s g',D1 (Flash.mk o.2.2) o.2.1 (fT o.1 y)=some (g',o.2.1++ [s],true)/\(s.Block==b)=false/\(∀ys,mv b (y::ys) o=mv b ys (o.1+1,o.2.1++ [s],g'.Blocks))/\MvI (m+1) (o.1+1,o.2.1++ [s],g'.Blocks)/\CC (FX.mk (Flash.mk o.2.2) o.2.1) (fT o.1 y) b=some (true,FX.mk g' (o.2.1++ [s])))\/
  ((∀ys,mv b (y::ys) o=some none)/\(∃w,CC (FX.mk (Flash.mk o.2.2) o.2.1) (fT o.1 y) b=some (false,w))/\((∃s g',D1 (Flash.mk o.2.2) o.2.1 (fT o.1 y)=some (g',o.2.1++ [s],true)/\(s.Block==b)=true)\/∃g' st,D1 (Flash.mk o.2.2) o.2.1 (fT o.1 y)=some (g',st,false))):=by
 obtain⟨h1,h2,h3,h4⟩:=h
 rcases AGI h1 o.2.1 (by omega) (fT o.1 y) b with⟨s,g',a1,a2,a3⟩|⟨g',st,a1,w,a2⟩
 ·cases hb:(s.Block==b)with
  |true=>grind [mv]
  |false=>
   rw[hb]at a3;refine .inl ⟨s,g',a1,hb,λys=>by grind [mv],⟨a2,?_,?_,?_⟩,by rw[a3];rfl⟩
   ·grind
   ·omega
   omega
 grind [mv]
theorem AB0:∀(xs:List Al) {m:Nat} {o:MvS},MvI m o->m+xs.length<=1000->∃v,mv b xs o=some v/\∀o',v=some o'->MvI (m+xs.length) o'
 |[],m,o,h,_=>⟨some o,rfl,λo' e=>by grind⟩
 |x::xs,m,o,h,hm=>by
  rw[AY]at hm
  rcases uP (b:=b) (y:=x) h (by omega)with⟨s,g',a1,a2,a3,a4,a5⟩|⟨a1,_⟩
  ·obtain⟨v,v1,v2⟩:=AB0 xs a4 (by omega);exact⟨v,by rw[a3,v1],λo' e=>by grind⟩
  simp_all
def LE (b i:Int) (nd:List Bool) (r:List Al):List Al:=((nd.zip r).filter λq=>q.1&&(q.2.Block==b)&&(q.2.Leaf==i)).map Prod.snd
theorem xU (hr:r.length<=40) (hk:∀y∈r,y.Page.Kind=1->y.Page.Count=1/\y.Page.Part=0) (d:nd.length=r.length) (hn:∀(j:Nat) y,r[j]?=some y->nd[j]?=some true->y.Page.Kind=1) (b i:Int):∀(n j:Nat),j+n=r.length->∀{m:Nat} {o:MvS},MvI m o->m+n<=1000->
  Ah (λs:List AH×Int×Int×List Block=>Ew b r nd i s.1 s.2.1 s.2.2.1 s.2.2.2) (o.2.1,o.1,(j:Int),o.2.2)=(mv b (LE b i (nd.drop j) (r.drop j)) o).map λq=>match q with
   |some o'=> .inl (o'.2.1,o'.1,o'.2.2)
   |none=> .inr (.inr (.inr ([],false)))
 |0,j,hj,m,o,ho,hm=>by
  rw[Ay];simp only[Ew,Fv];rw[cF,List.drop_of_length_le (by omega),List.drop_of_length_le (by omega)];rfl
 |n+1,j,hj,m,o,ho,hm=>by
  have a:j<r.length:=by omega
  have hx:=Ab a;have c:=Ab (show j<nd.length by omega);have hd:nd.drop j=nd[j]::nd.drop (j+1):=AD (by omega);have e:r.drop j=r[j]::r.drop (j+1):=AD a
  have go:∀{m':Nat} {o':MvS},MvI m' o'->m'+n<=1000->_:=λ{m' o'} h1 h2=>xU hr hk d hn b i n (j+1) (by omega) (m:=m') (o:=o') h1 h2
  rw[Ay];simp only[Ew,Ds a,Aq,hx,c,Aa];rw[ad1,hd,e];have es:LE b i (nd[j]::nd.drop (j+1)) (r[j]::r.drop (j+1))=if(nd[j]&&(r[j].Block==b)&&(r[j].Leaf==i))=true then r[j]::LE b i (nd.drop<|j+1) (r.drop<|j+1)else LE b i (nd.drop<|j+1) (r.drop<|j+1):=by grind [List.zip_cons_cons,LE]
  rw[es]
  cases f:nd[j]with
  |false=>
   exact go ho<|by omega
  |true=>
   cases hb:(r[j].Block==b)with
   |false=>
    simp only[bne,hb,CG,Ao,Aa,Bool.false_and,JK,uY];exact go ho<|by omega
   |true=>
    simp only[bne,hb,Ak,Ae,Aa,GD]
    cases g:(r[j].Leaf==i)with
    |false=>
     exact go ho<|by omega
    |true=>
     simp only[Ak,Ae,C7];have h1:=hn j r[j] hx (by rw[c,f]);obtain⟨h2,h3⟩:=hk r[j] (Aw a) h1;have ep:Page.mk r[j].Page.Kind o.1 r[j].Page.Tx r[j].Page.Part r[j].Page.Count r[j].Page.Text=fT o.1 r[j]:=by rw[h1,h2,h3];rfl
     rw[ep];obtain⟨c1,c2,c3,c4⟩:=ho
     rcases uP (b:=b) (y:=r[j]) ⟨c1,c2,c3,c4⟩ (by omega)with⟨s,g',a1,a2,a3,a4,_⟩|⟨a1,_,⟨s,g',a2,a3⟩|⟨g',st,a2⟩⟩
     ·rw[a1,a3];simp only[Aa,Ak,Ae];rw[Bb,AE,Dg,BY,show((o.2.1.length+1:Nat):Int)-1=(o.2.1.length:Int) by omega,Fd];simp only[Aa,a2,Ae];rw[Cl];exact go a4<|by omega
     ·grind [Bb,BY,Fd]
     grind
theorem ZS (k:IntKind) (n:Nat) (h:n<=12) (hk:k= .u8\/k= .u64):k.wrap (n:Int)=(n:Int):=by
 have:n=0\/n=1\/n=2\/n=3\/n=4\/n=5\/n=6\/n=7\/n=8\/n=9\/n=10\/n=11\/n=12:=by omega
 rcases hk with rfl|rfl<;>rcases this with rfl|rfl|rfl|rfl|rfl|rfl|rfl|rfl|rfl|rfl|rfl|rfl|rfl<;>rfl
set_option maxRecDepth 20000 in
theorem gI (n:Nat) (h:n<=12):∃v,XG (IntKind.u64.wrap (n:Int))=some v:=by
 rw[ZS _ n h<|.inr rfl];unfold XG cB;generalize hT:(bs _)=T;have a:13<=(L T).length:=by rw[<-hT,DS];decide
 rw[cF,Aa,cF,Aa,cF,Aa,ZS _ n h<|.inl rfl,EN (i:=n) _<|by omega];exact⟨_,rfl⟩
theorem iJ {γ:Type} (a:γ->Int) (l:List γ) (hl:l.length<=12):∃r,LC (Oa a) l=some r/\srt a r/\BH a l r:=by
 obtain⟨v,hv⟩:=gI l.length hl;obtain⟨r,h1,h2,h3⟩:=IX a [] l [] (by simp;omega);unfold LC
 grind [Bb,Ay,BY,E7,FZ]
def nZ (l:List Al):Prop:=l.Pairwise λx y=>x.Page.Tx≠y.Page.Tx
theorem dJ {l:List Al} {p:Al->Bool} (hl:nZ l) (hu:∀x∈l,∀y∈l,p x=true->p y=true->x=y) (hy:y∈l) (hp:p y=true):l.filter p=[y]:=by
 induction l with
 |nil=>cases hy
 |cons x l ih=>
  have h1:=Co.1 hl
  have hu':∀a∈l,∀c∈l,p a=true->p c=true->a=c:=λa ha c hc=>hu a (Lz _ ha) c<|Lz _ hc
  cases hx:p x with
  |true=>grind [BM]
  |false=>
   rw[List.filter_cons_of_neg<|by simp[hx]]
   rcases GC.1 hy with rfl|hy
   ·grind
   exact ih h1.2 hu' hy
theorem ABp {c:List Al} (ha:nZ a) (hc:nZ c) (hm:∀y,y∈a↔y∈c) (hu:∀x∈a,∀y∈a,x.Leaf=y.Leaf->x=y):BH By a c:=by
 intro k
 have e1:∀x,(By x==k)=true↔x.Leaf=k:=λx=>by rw[HW];rfl
 by_cases h:∃y∈a,y.Leaf=k
 ·obtain⟨y,y1,y2⟩:=h
  rw[dJ ha (λx hx z hz p q=>hu x hx z hz<|by grind) y1<|(e1 y).2 y2,
   dJ hc (λx hx z hz p q=>hu x ((hm x).2 hx) z ((hm z).2 hz)<|by grind) ((hm y).1 y1) ((e1 y).2 y2)]
 grind [BM]
def KG (r:List Al) (b:Int) (live:List Int):List Al:=live.filterMap λc=>match Sm c r r.length with
 |some j=>if bk r b j=true then r[j]? else none
 |none=>none
theorem ADm (h:gL f r) {live:List Int} (a:J7 s=some live) (hl:live.length<=16777216) (b:Int):Ue f s b=some (KG r b live):=by
 unfold Ue;rw[a];simp only[Aa];obtain⟨u,h1,h2⟩:=AC (body:=λq:List Al×Int=>Hx f b live q.1 q.2) (λ(u:List Al) i=>(u,i)) live.length (λi u=>u=KG r b (live.take i)) (λu=>u=KG r b live)
  (λu i hi hu=>by
   have hg:live[i]?=some live[i]:=Ab hi;obtain⟨o,o1,o2⟩:=XV f r h.i h.len h.srt live[i];have ho:o=Sm live[i] r r.length:=XK o2<|PX _ _ _<|A4 _;have c:u.length<=i:=by grind [KG]
   have et:live.take (i+1)=live.take i++ [live[i]]:=by simp
   refine .inl ?_;simp only[Hx,Ds hi,Aq,hg,Aa,o1]
   cases ht:Sm live[i] r r.length with
   |none=>grind [ad1,KG]
   |some j=>grind [PW,AZ,ad1,Lp,bk,KG])
  (λu hu=>⟨u,by simp[CU,Hx],by grind⟩) (s:=[]) (by simp[KG])
 grind
theorem TF {live:List Int} (hy:y∈KG r b live):∃c∈live,∃j,Sm c r r.length=some j/\r[j]?=some y/\y.Block=b/\y.Page.Kind=1/\y.Page.Tx=c:=by
 obtain⟨c,c1,c2⟩:=List.mem_filterMap.1 hy
 grind [PW,bk,Jm]
theorem iH (r:List Al) (b:Int):∀{live:List Int},live.Nodup->nZ (KG r b live)
 |[],_=>List.Pairwise.nil
 |c::live,h=>by
  obtain⟨h1,h2⟩:=CY.1 h;have ih:=iH r b h2;unfold KG;rw[List.filterMap_cons];split
  ·exact ih
  rename_i y hy;refine Co.2 ⟨λz hz e=>?_,ih⟩;obtain⟨c',q1,j,q2,q3,q4,q5,q6⟩:=TF (r:=r) (b:=b) (live:=live) hz;obtain⟨c'',p1,j2,p2,p3,p4,p5,p6⟩:=TF (r:=r) (b:=b) (live:=[c]) (y:=y)<|by grind [KG]
  grind
def QJ (b:Int) (nd:List Bool) (r:List Al):List Al:=LE b 0 nd r++(LE b 1 nd r++(LE b 2 nd r++LE b 3 nd r))
theorem aP {i:Int}:y∈LE b i nd r↔(∃j:Nat,r[j]?=some y/\nd[j]?=some true)/\y.Block=b/\y.Leaf=i:=by
 unfold LE;simp only[A6,AR,Ap,HW];constructor
 ·grind [List.getElem?_of_mem,List.getElem?_zip_eq_some]
 rintro⟨⟨j,h1,h2⟩,h3,h4⟩;exact⟨(true,y),⟨Aj<|List.getElem?_zip_eq_some.2 ⟨h2,h1⟩,⟨rfl,h3⟩,h4⟩,rfl⟩
theorem pI (hn:∀(j:Nat) y,r[j]?=some y->nd[j]?=some true->Sm y.Page.Tx r r.length=some j) (b i:Int):nZ (LE b i nd r):=by
 unfold LE nZ;rw[List.pairwise_map]
 have h0:(nd.zip r).Pairwise λp q=>p.1=true->q.1=true->p.2.Page.Tx≠q.2.Page.Tx:=by
  rw[Cr];intro x y hx hy a p q e;have a1:=(List.getElem?_zip_eq_some (l₁:=nd) (l₂:=r)).1<|Ab hx;have a2:=(List.getElem?_zip_eq_some (l₁:=nd) (l₂:=r)).1<|Ab hy
  grind
 have h1:=h0.filter λq=>q.1&&(q.2.Block==b)&&(q.2.Leaf==i)
 grind
end Go.TI
