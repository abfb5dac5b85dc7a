/- A drawn device whose volumes are dropped has room again. No condition; no program is in sight. -/
import Derived.Test.YtacibgiakaoomaaGreatRAP1
set_option linter.unusedVariables false
set_option linter.unusedSimpArgs false
namespace Go.TI
open Go
theorem tX (s:ByteArray) (f a:Nat) (hf:f<a) (ha:a<=(L s).length) (hs:(L s).length<=64):∃k:Nat,Nf s (f:Int) (a:Int)=some (k:Int)/\k<=31/\a+k<=(L s).length/\∀j,j<k->(L s)[f+j]?=(L s)[a+j]? :=by
 obtain⟨b,h1,k,rfl,h2,h3,h4⟩:=AA (body:=λn:Int=>IG s (f:Int) (a:Int) n) (λ(_:Unit) i=>i) 31 (λi _=>a+i<=(L s).length/\∀j,j<i->(L s)[f+j]?=(L s)[a+j]?) (λb=>∃k:Nat,b=(k:Int)/\k<=31/\a+k<=(L s).length/\∀j,j<k->(L s)[f+j]?=(L s)[a+j]?)
  (λ_ i hi hs=>by
   simp only[IG];rw[cT,BZ,BZ,Bo];by_cases c:a+i<(L s).length
   ·rw[cT];have e1:((f:Int)+(i:Int))=((f+i:Nat):Int):=by omega
    have e2:((a:Int)+(i:Int))=((a+i:Nat):Int):=by omega
    rw[e1,e2,E8 s (by omega),E8 s c];simp only[Aa]
    cases hq:((((L s)[f+i]).toNat:Int)==(((L s)[a+i]).toNat:Int))with
    |true=>
     rw[ad1];refine .inl ⟨(),rfl,by omega,λj hj=>?_⟩
     grind [UInt8.toNat_inj]
    |false=>grind
   grind)
  (λ_ hs=>by
   simp only[IG];rw[cF]
   exact⟨_,rfl,31,rfl,by omega,hs.1,hs.2⟩) (s:=()) ⟨by omega,λj hj=>by omega⟩
 unfold Nf
 grind
def AAm (s:ByteArray) (a z b:Nat):Prop:=z<=31/\a+z<=(L s).length/\(z=0\/(4<=z/\1<=b/\b<=a/\∀j,j<z->(L s)[a-b+j]?=(L s)[a+j]?))
theorem wV (s:ByteArray) (a:Nat) (ha:a<=(L s).length) (hs:(L s).length<=64):∃z b:Nat,Ai (λq:Int×Int×Int=>DY s (a:Int) q.1 q.2.1 q.2.2) (0,0,sb (a:Int) 1)=some ((z:Int),(b:Int))/\AAm s a z b:=by
 rw[BL];obtain⟨r,h1,z,b,rfl,h2⟩:=AA (body:=λq:Int×Int×Int=>DY s (a:Int) q.1 q.2.1 q.2.2) (λ(q:Nat×Nat) i=>((q.1:Int),(q.2:Int),(a:Int)-1-i)) a (λi q=>AAm s a q.1 q.2) (λr=>∃z b:Nat,r=((z:Int),(b:Int))/\AAm s a z b)
  (λq i hi hq=>by
   obtain⟨k,m1,m2,m3,m4⟩:=tX s (a-1-i) a (by omega) ha hs;have e1:((a:Int)-1-(i:Int))=((a-1-i:Nat):Int):=by omega
   simp only[DY,e1];rw[Ac (by omega:(((a-1-i:Nat)):Int)>=0),Al,m1,Aa,BL,BL];refine .inl ?_;have e2:(((a-1-i:Nat):Int)-1)=(a:Int)-1-((i+1:Nat):Int):=by omega
   have e3:((a:Int)-((a-1-i:Nat):Int))=((1+i:Nat):Int):=by omega
   rw[e2,e3];by_cases h4:4<=k
   ·rw[cT];by_cases h5:q.1<k
    ·rw[Ac (by omega:(k:Int)>(q.1:Int))];exact⟨(k,1+i),rfl,m2,m3,.inr ⟨h4,by omega,by omega,λj hj=>by grind⟩⟩
    grind
   grind)
  (λq hq=>by grind [DY]) (s:=(0,0)) ⟨by omega,by omega,.inl rfl⟩
 grind
def WH:Nat->Nat->List UInt8->List UInt8
 |0,_,out=>out
 |n+1,b,out=>WH n b (out++ [(out[out.length-b]?).getD 0])
def Zs (a:List UInt8) (t:AL):List UInt8:=if t.Back=0 then a++L t.Text else WH t.Size.toNat t.Back.toNat a
def ER (l:List AL):List UInt8:=l.foldl Zs []
def okT (a:List UInt8) (t:AL):Prop:=(t.Back=0/\t.Size=0/\1<=(L t.Text).length/\(L t.Text).length<=31)\/(1<=t.Back/\t.Back<=(a.length:Int)/\1<=t.Size/\t.Size<=31/\L t.Text=[])
def yP (l:List AL):Prop:=∀(i:Nat) t,l[i]?=some t->okT (ER<|l.take i) t
theorem OC (l:List AL) (t:AL):ER (l++ [t])=Zs (ER l) t:=by unfold ER;grind
variable {r r':List Ak} {d e d':Av} {n k m j:Nat} {y:Ak} {g f:Flash} {s:Store} {c nx b nx':Int} {T:List ByteArray} {P:Int->Prop} {l l':Vs} {t:AL} {a ss:List AF} {p:Page} {ps:List Page} {x:Ch} {K:Ks}
theorem gD {l:List AL} (h:yP l) (ht:okT (ER l) t):yP (l++ [t]):=by
 intro i x hx;by_cases e:i<l.length
 ·rw[L8 e]at hx;rw[List.take_append_of_le_length<|by omega];exact h i x hx
 grind
theorem yO {l:List AL} (h:yP (l++ [t])):yP l/\okT (ER l) t:=by
 refine⟨λi x hx=>?_,?_⟩
 ·have:=h i x (by grind)
  grind
 have:=h l.length t<|by grind
 grind
theorem eE (S:List UInt8):∀(n a b:Nat),a+n<=S.length->1<=b->b<=a->(∀j,j<n->S[a-b+j]?=S[a+j]?)->WH n b (S.take a)=S.take (a+n)
 |0,a,b,_,_,_,_=>rfl
 |n+1,a,b,h1,h2,h3,h4=>by
  rw[WH];have hl:(S.take a).length=a:=by grind
  have e:((S.take a)[(S.take a).length-b]?).getD 0=S[a]'(by omega):=by
   have:=h4 0<|by omega
   grind
  rw[e,<-Af (by omega),eE S n (a+1) b (by omega) h2 (by omega) λj hj=>by grind];congr 1;omega
theorem mK:∀(n b:Nat) (a:List UInt8),(WH n b a).length=a.length+n
 |0,_,_=>rfl
 |n+1,b,a=>by rw[WH,mK];simp;omega
theorem TW (s:ByteArray) (hs:(L s).length<=64):∀(n a:Nat) (c:List AL),(L s).length-a<=n->a<=(L s).length->c.length<=a->yP c->ER c=(L s).take a->∃l,Ai (λq:List AL×Int=>Cq s q.1 q.2) (c,(a:Int))=some l/\yP l/\ER l=L s/\l.length<=64
 |n,a,c,hn,ha,g,d,hpl=>by
  by_cases h:a<(L s).length
  ·obtain⟨z,b,h1,h2,h3,h4⟩:=wV s a ha hs
   match n,hn with
   |0,hn=>omega
   |n+1,hn=>
   rcases h4 with rfl|⟨h4,h5,h6,h7⟩
   ·
    have f:sub s (a:Int) ((a+1:Nat):Int)=some (s.extract a<|a+1):=Gf s (by omega) (by omega);have hx:L (s.extract a<|a+1)=[(L s)[a]]:=by
     rw[K1,show a+1-a=1 by omega,AE h];rfl
    have fresh:∃l,Ai (λq:List AL×Int=>Cq s q.1 q.2) (c++ [AL.mk 0 0<|s.extract a<|a+1],((a+1:Nat):Int))=some l/\yP l/\ER l=L s/\l.length<=64:=
     TW s hs n (a+1) _ (by omega) (by omega) (by simp;omega) (gD d<|.inl ⟨rfl,rfl,by rw[hx];simp,by rw[hx];simp⟩) (by grind [OC,Af,Zs])
    rcases GM c with e|⟨out0,t0,e⟩
    ·subst e;obtain⟨l,f1,f2⟩:=fresh;rw[Ax];have hb:Cq s [] (a:Int)=some (.inl ([AL.mk 0 0<|s.extract a<|a+1],((a+1:Nat):Int))):=by
      simp only[Cq];rw[Bo,cT,h1];simp only[Aa];rw[show decide ((((0:Nat):Int))>0)=false from rfl,Ad,ad1,f,show decide ((sb (ln ([]:List AL)) 1)>=0)=false from rfl];rfl
     grind
    rw[JN]at e;subst e;obtain⟨ok0,okt0⟩:=yO d;have hol':out0.length+1<=a:=by simpa using g
    have j:ln (out0++ [t0])=((out0.length+1:Nat):Int):=by rw[Bh];simp
    have k:sb (ln<|out0++ [t0]) 1=(out0.length:Int):=by grind [BL]
    have m:gi (out0++ [t0]) (out0.length:Int)=some t0:=EI _ _;by_cases hm:t0.Back=0/\(L t0.Text).length<31
    ·have i:H3 t0.Text (s.extract a<|a+1)=some (t0.Text++s.extract a (a+1)):=G0 _ _ (by grind);have hb:Cq s (out0++ [t0]) (a:Int)=some (.inl (out0++ [AL.mk t0.Back t0.Size<|t0.Text++s.extract a (a+1)],((a+1:Nat):Int))):=by
      simp only[Cq];rw[Bo,cT,h1];simp only[Aa]
      grind [ad1,Bo,Ju]
     have hX:L (t0.Text++s.extract a (a+1))=L t0.Text++ [(L s)[a]]:=by rw[GN,hx]
     obtain⟨l,f1,f2⟩:=TW s hs n (a+1) (out0++ [AL.mk t0.Back t0.Size<|t0.Text++s.extract a (a+1)]) (by omega) (by omega) (by grind) (gD ok0 (by
      rcases okt0 with⟨k1,k2,k3,k4⟩|⟨k1,_⟩
      ·exact .inl ⟨k1,k2,by rw[hX];simp,by grind⟩
      omega))<|by grind [OC,Af,Zs]
     grind [Ax]
    have hb:Cq s (out0++ [t0]) (a:Int)=some (.inl (out0++ [t0]++ [AL.mk 0 0<|s.extract a<|a+1],((a+1:Nat):Int))):=by grind [Bo,ad1,Bw,Cq]
    grind [Ax]
   have hb:Cq s c (a:Int)=some (.inl (c++ [AL.mk (b:Int) (z:Int)<|bs []],((a+z:Nat):Int))):=by grind [Bo,Bw,BZ,Cq]
   obtain⟨l,f1,f2⟩:=TW s hs n (a+z) (c++ [AL.mk (b:Int) (z:Int)<|bs []]) (by omega) h3 (by simp;omega) (gD d<|.inr ⟨by simp;omega,by grind,by simp;omega,by simp;omega,DH _⟩)<|by grind [OC,eE,Zs]
   grind [Ax]
  grind [Ax,Bo,Cq]
theorem AAr (s:ByteArray) (hs:(L s).length<=64):∃l,KQ s=some l/\yP l/\ER l=L s/\l.length<=64:=by
 obtain⟨l,h1,h2⟩:=TW s hs (L s).length 0 [] (by omega) (by omega) (by simp) (λi t h=>by simp at h)<|by simp[ER]
 grind [Bo,KQ]
def N4 (t:AL):List UInt8:=if t.Back=0 then UInt8.ofNat (L t.Text).length::L t.Text else [UInt8.ofNat (128+t.Size).toNat,UInt8.ofNat t.Back.toNat]
theorem sJ {a:List UInt8} (h:okT a t) (ho:a.length<=64):(N4 t).length<=32:=by
 unfold N4
 rcases h with⟨h1,h2,h3,h4⟩|⟨h1,h2,h3,h4,h5⟩
 ·grind
 grind
theorem ABz {a:List UInt8} (h:okT a t):a.length<=(Zs a t).length:=by grind [mK,Zs]
theorem Nm {l:List AL} (h:yP l):∀i,i<=l.length->(ER (l.take i)).length<=(ER l).length:=by
 have step:∀i,i<l.length->(ER<|l.take i).length<=(ER<|l.take<|i+1).length:=λi hi=>by
  rw[Af hi,OC];exact ABz<|h i _<|Ab hi
 intro i hi;have:∀k,i+k<=l.length->(ER<|l.take i).length<=(ER<|l.take<|i+k).length:=by
  intro k
  induction k with
  |zero=>grind
  |succ k ih=>grind
 have:=this (l.length-i) (by omega);simp_all
theorem AC3 (s:ByteArray) (hs:(L s).length<=64):∃l,yP l/\ER l=L s/\l.length<=64/\((Ey s=some (bs (122::l.flatMap N4),true))\/Ey s=some (bs (114::L s),true)):=by
 obtain⟨l,h1,h2,h3,h4⟩:=AAr s hs;refine⟨l,h2,h3,h4,?_⟩;unfold Ey;rw[Bo,cF,h1];simp only[Aa];obtain⟨b,q1,q2⟩:=AA (body:=λq:ByteArray×Int=>EF l q.1 q.2) (λz i=>(z,i)) l.length (λi z=>L z=122::(l.take i).flatMap N4/\(L z).length<=1+32*i) (λz=>L z=122::l.flatMap N4/\(L z).length<=3000)
  (λz i hi hz=>by
   have hx:=Ab hi;have c:=h2 i _ hx;have a:=Nm h2 i (by omega);rw[h3]at a;have d:=sJ c (by omega);have et:(l.take<|i+1).flatMap N4=(l.take i).flatMap N4++N4 l[i]:=by grind [Af]
   simp only[EF,DL hi,Ap,hx,Aa];rw[ad1];refine .inl ?_
   rcases c with⟨k1,k2,k3,k4⟩|⟨k1,k2,k3,k4,k5⟩
   ·grind [G0,GN,N2,Bo,IntKind.wrap_u8,N4]
   grind [BZ,G0,GN,N2,IntKind.wrap_u8,N4])
  (λz hz=>⟨z,by simp[Dx,EF],by grind,by omega⟩) (s:=bs [122]) ⟨by rw[DH];rfl,by rw[DH];simp⟩
 rw[q1];simp only[Aa];have hb:b=bs (122::l.flatMap N4):=JJ<|by rw[q2.1,DH]
 cases decide (ad ((L s).length:Int) 1<=GA b)with
 |false=>grind
 |true=>
  right;rw[G0 _ _<|by grind [DH]];rfl
theorem Vu (t:ByteArray) (ht:(L t).length<=10000):∀(l:List AL) (a:Nat) (c:List AL),(∀x∈l,∃o:List UInt8,okT o x/\o.length<=64)->(L t).drop a=l.flatMap N4->a<=(L t).length->c.length<=a->Ai (λq:List AL×Int=>BG t q.1 q.2) (c,(a:Int))=some (.inl (c++l))
 |[],a,c,hl,h,ha,ho=>by
  have:(L t).length=a:=by simp_all;grind
  grind [Ax,Bo,BG]
 |x::l,a,c,hl,h,ha,ho=>by
  obtain⟨o,k,p⟩:=hl x (by simp);rw[List.flatMap_cons]at h;have d:=Ct List.length h;rw[OX,A9]at d
  rcases k with⟨k1,k2,k3,k4⟩|⟨k1,k2,k3,k4,k5⟩
  ·have he:N4 x=UInt8.ofNat (L x.Text).length::L x.Text:=by grind [N4]
   rw[he]at h d;rw[AD]at d;have f:a<(L t).length:=by omega
   have e:=AE f;rw[h,Cl]at e
   injection e with hx hd
   have j:(((L t)[a]).toNat:Int)=((L x.Text).length:Int):=by grind [G6]
   have n:sub t ((a+1:Nat):Int) ((a+1+(L x.Text).length:Nat):Int)=some x.Text:=by
    rw[Gf t (by omega)<|by omega]
    grind [JJ,K1,List.take_left']
   have hb:BG t c (a:Int)=some (.inl (c++ [AL.mk 0 0 x.Text],((a+1+(L x.Text).length:Nat):Int))):=by grind [Bo,E8,O0,BZ,Bw,BG]
   have i:AL.mk 0 0 x.Text=x:=by
    cases x with
    |mk b z u=>grind
   rw[i]at hb;rw[Ax];simp only[hb];have:=Vu t ht l (a+1+(L x.Text).length) (c++ [x]) (λy hy=>hl y<|by simp[hy]) (by rw[<-Er,<-hd,Jr rfl]) (by omega) (by simp;omega)
   grind
  have he:N4 x=[UInt8.ofNat (128+x.Size).toNat,UInt8.ofNat x.Back.toNat]:=by unfold N4;grind
  rw[he]at h d;simp only[AD,Jq]at d;have f:a<(L t).length:=by omega
  have e:=AE f;rw[h]at e;simp only[Cl,A5]at e
  injection e with hx hd
  have g:=AE (show a+1<(L t).length by omega);rw[<-hd]at g
  injection g with hx2 hd2
  have j:(((L t)[a]).toNat:Int)=128+x.Size:=by grind [G6]
  have m:(((L t)[a+1]'(by omega)).toNat:Int)=x.Back:=by grind [G6]
  have hb:BG t c (a:Int)=some (.inl (c++ [AL.mk x.Back x.Size<|bs []],((a+2:Nat):Int))):=by
   simp only[BG];rw[Bo,cT,E8 t f,Aa,j,O0 (by omega) (by omega),cT,BZ (b:=2) (by omega) (by omega),cF,ad1,E8 t (by omega),Aa,m,O0 (by omega) (by omega),BL,Bw (by simp;omega),Aa,show 128+x.Size-128=x.Size by omega];rfl
  have i:AL.mk x.Back x.Size (bs [])=x:=by
   cases x with
   |mk b z u=>grind [JJ,DH]
  rw[i]at hb;rw[Ax];simp only[hb];have:=Vu t ht l (a+2) (c++ [x]) (λy hy=>hl y<|by simp[hy]) (by grind) (by omega) (by simp;omega)
  grind
def IK (l:List UInt8):List Int:=l.map λc=>(c.toNat:Int)
theorem uK (l:List UInt8):L (EZ (IK l))=l:=by
 rw[N2,IK,IY];have:((λn:Int=>UInt8.ofNat n.toNat)∘λc:UInt8=>(c.toNat:Int))=id:=by
  funext c;simp
 rw[this,TL]
theorem wS (b:ByteArray):tW b=IK (L b):=rfl
theorem Y1 (x:AL) (b:1<=x.Back) (hs:0<=x.Size/\x.Size<=31):∀(n k:Nat) (a:List UInt8),(k:Int)+n=x.Size->x.Back<=(a.length:Int)->a.length+n<=1000->Ai (λq:List Int×Int=>D9 x q.1 q.2) (IK a,(k:Int))=some (IK (WH n x.Back.toNat a))
 |0,k,a,hk,c,ho=>by
  rw[Ax];have hb:D9 x (IK a) (k:Int)=some (.inr (IK a)):=by grind [D9]
  simp only[hb];rfl
 |n+1,k,a,hk,c,ho=>by
  have d:ln (IK a)=(a.length:Int):=by rw[Bh,IK,By]
  have e:gi (IK a) ((a.length:Int)-x.Back)=some (((a[a.length-x.Back.toNat]?).getD 0).toNat:Int):=by grind [Ap,IK]
  have hb:D9 x (IK a) (k:Int)=some (.inl (IK<|a++ [(a[a.length-x.Back.toNat]?).getD 0],((k+1:Nat):Int))):=by grind [BL,Bw,ad1,D9,IK]
  rw[Ax];simp only[hb];rw[WH];exact Y1 x b hs n (k+1) _ (by omega) (by simp;omega) (by simp;omega)
theorem oS (l:List AL) (hl:l.length<=64) (a:yP l) (h64:(ER l).length<=64):Ai (λq:List Int×Int=>Eb l q.1 q.2) ([],0)=some (.inl (IK (ER l))):=by
 obtain⟨b,h1,h2⟩:=AA (body:=λq:List Int×Int=>Eb l q.1 q.2) (λ(o:List UInt8) i=>(IK o,i)) l.length (λi o=>o=ER (l.take i)) (λb=>b= .inl (IK<|ER l))
  (λo i hi ho=>by
   have hx:=Ab hi;have hk:=a i _ hx;have hm:=Nm a i (by omega);have c:=Nm a (i+1) (by omega);have et:ER (l.take<|i+1)=Zs o l[i]:=by grind [Af,OC]
   rw[<-ho]at hk hm;rw[et]at c
   have d:∀q:List UInt8,ln (IK q)=(q.length:Int):=λq=>by rw[Bh,IK,By]
   simp only[Eb,DL hi,Ap,hx,Aa];refine .inl ⟨Zs o l[i],?_,et.symm⟩
   rcases hk with⟨k1,k2,k3,k4⟩|⟨k1,k2,k3,k4,k5⟩
   ·rw[show(l[i].Back==0)=true by simpa using k1,Al,Bo,DV,Ac<|by omega]
    grind [wS,ad1,ap,IK,Zs]
   rw[show(l[i].Back==0)=false by simp;omega,Ad,d,DV,Ac<|by omega];rw[DV,Ac<|by omega];simp only[Aa,An,Ad];have e:seq l[i].Text (bs [])=true:=by grind [KJ,JJ,DH]
   grind [Y1,ad1,Zs])
  (λo ho=>⟨.inl<|IK o,by simp[Dx,Eb],by grind⟩) (s:=[]) rfl
 rw[<-h2];exact h1
theorem m6 (s:ByteArray) (hs:(L s).length<=64):∃z,Ey s=some (z,true)/\FH z=some (s,true)/\1<=(L z).length:=by
 obtain⟨l,h1,h2,h3,h4⟩:=AC3 s hs;have fin:∀z:ByteArray,Ey s=some (z,true)->((Ey s).bind λv3=>(cond (!v3.2) (some true) (some<|!(seq v3.1 z)):Option Bool).bind λj2=>cond j2 (some (bs [],false))<|some (s,true))=some (s,true):=by grind [seq]
 rcases h4 with h4|h4
 ·refine⟨_,h4,?_,by rw[DH];simp⟩;have hf:=fin _ h4;generalize hz:bs (122::l.flatMap N4)=z at h4 hf;have hL:L z=122::l.flatMap N4:=by rw[<-hz,DH]
  have f:(L z).length<=3000:=by
   have:∀m:List AL,(∀x∈m,∃o:List UInt8,okT o x/\o.length<=64)->(m.flatMap N4).length<=32*m.length:=by
    intro m
    induction m with
    |nil=>intro _;simp
    |cons x m ih=>
     intro hm;obtain⟨o,g,h⟩:=hm x<|by simp
     grind [sJ]
   have:=this l (λx hx=>by
    obtain⟨i,hi,rfl⟩:=Au hx;have hm:=Nm h1 i (by omega);rw[h2]at hm
    exact⟨_,h1 i _<|Ab hi,by omega⟩)
   grind
  unfold FH;have a:1<=(L z).length:=by rw[hL];simp
  rw[Bo,show(((L z).length:Int)==0)=false by grind,Ad];have b:sub z 1 ((L z).length:Int)=some (bs<|l.flatMap N4):=by
   rw[show(1:Int)=((1:Nat):Int)from rfl,Gf z a<|A3 _]
   grind [JJ,K1,DH]
  have c:sx z 0=some 122:=by
   rw[show(0:Int)=((0:Nat):Int)from rfl,E8 z (i:=0) a];simp_all
  rw[b,c];simp only[Aa];rw[show((122:Int)==122)=true from rfl];have d:(L<|bs<|l.flatMap N4).length<=10000:=by rw[DH];grind
  have e:=Vu (bs<|l.flatMap N4) d l 0 [] (λx hx=>by
    obtain⟨i,hi,rfl⟩:=Au hx;have hm:=Nm h1 i (by omega);rw[h2]at hm
    exact⟨_,h1 i _<|Ab hi,by omega⟩) (by rw[DH];rfl) (by omega)<|by simp
  rw[show((0:Nat):Int)=0 from rfl,A5]at e
  grind [oS,JJ,uK,LE,Gr]
 refine⟨_,h4,?_,by rw[DH];simp⟩;have hf:=fin _ h4;generalize hz:bs (114::L s)=z at h4 hf;have hL:L z=114::L s:=by rw[<-hz,DH]
 unfold FH;have a:1<=(L z).length:=by rw[hL];simp
 rw[Bo,show(((L z).length:Int)==0)=false by grind,Ad];have b:sub z 1 ((L z).length:Int)=some s:=by
  rw[show(1:Int)=((1:Nat):Int)from rfl,Gf z a<|A3 _]
  grind [JJ,K1]
 have c:sx z 0=some 114:=by
  rw[show(0:Int)=((0:Nat):Int)from rfl,E8 z (i:=0) a];simp_all
 grind
theorem AAg (a b:List ByteArray):Ov (a++b)=Ov a++Ov b:=by unfold Ov;grind
def Bz (seq tx:Int) (T:List ByteArray):List Page:=T.mapIdx λi t=>Page.mk 2 (seq+i) tx i T.length t
theorem vJ (a:List Ch) (hr:a.length<=1048576) (d:∀r∈a,FM r=true):∃T:List ByteArray,Ai (λs:List ByteArray×Int=>DX a s.1 s.2) ([bs []],0)=some (.inl T)/\1<=T.length/\T.length<=max 1 a.length/\Ov T=J9 a/\∀t∈T,(L t).length<=90:=by
 obtain⟨b,h1,T,h2,h3⟩:=AA (body:=λs:List ByteArray×Int=>DX a s.1 s.2) (λ(o:List ByteArray) i=>(o,i)) a.length
  (λi T=>1<=T.length/\(T.length<=max 1 i/\(i=0->T=[bs []]))/\Ov T=J9 (a.take i)/\∀t∈T,(L t).length<=90)
  (λb=>∃T:List ByteArray,b= .inl T/\1<=T.length/\T.length<=max 1 a.length/\Ov T=J9 a/\∀t∈T,(L t).length<=90)
  (λT i hi hT=>by
   obtain⟨g,⟨h,q⟩,j,k⟩:=hT;have hx:=Ab hi;obtain⟨t,t1,t2⟩:=fJ<|d _<|Ar hi;have l:=xV<|d _<|Ar hi;rw[<-t2]at l;have et:J9 (a.take<|i+1)=J9 (a.take i)++L t:=by grind [Af,J9]
   rcases GM T with e|⟨T0,c,e⟩
   ·grind
   rw[JN]at e;subst e;have u:ln (T0++ [c])=((T0.length+1:Nat):Int):=by rw[Bh];simp
   rw[A9,Db]at g h;have m:sb (ln<|T0++ [c]) 1=(T0.length:Int):=by grind [BL]
   have n:gi (T0++ [c]) (T0.length:Int)=some c:=EI _ _;have p:=k c (by simp);rw[AAg]at j;simp only[DX,DL hi,Ap,hx,Aa];rw[t1];rw[m,n];simp only[Aa];rw[Bo,Bo,BZ,ad1];refine .inl ?_;by_cases f:((L c).length:Int)+((L t).length:Int)>90
   ·have v:i≠0:=λe=>by grind [DH]
    grind [Bw,Ov]
   rw[Ah f,Ad,G0 _ _<|by omega];simp only[Aa];rw[Ju];refine⟨T0++ [c++t],rfl,by simp,⟨by simp;omega,by omega⟩,?_,λx w=>?_⟩
   ·grind [GN,Ov]
   grind [GN])
  (λT hT=>⟨_,by simp[Dx,DX],T,rfl,hT.1,hT.2.1.1,by grind,hT.2.2.2⟩) (s:=[bs []]) ⟨by simp,⟨by simp,λ_=>rfl⟩,by rfl,λt ht=>by grind [DH]⟩
 grind
theorem eN (seq tx:Int) (a:List Ch) (hr:a.length<=1000) (c:∀r∈a,FM r=true):∃T:List ByteArray,1<=T.length/\Ov T=J9 a/\(∀t∈T,(L t).length<=90)/\T.length<=max 1 a.length/\
  ((Ip seq tx a=some (Bz seq tx T,true)/\T.length<=9/\1<=seq/\seq+T.length-1<=1000000000/\1<=tx/\tx<=1000000000)\/(Ip seq tx a=some ([],false)/\¬(T.length<=9/\1<=seq/\seq+T.length-1<=1000000000/\1<=tx/\tx<=1000000000))):=by
 obtain⟨T,h1,h2,h2',h3,h4⟩:=vJ a (by omega) c;refine⟨T,h2,h3,h4,h2',?_⟩;unfold Ip;rw[h1];simp only[Aa,Df];rw[Bh];by_cases h9:(T.length:Int)>9
 ·grind
 rw[Ah h9];rw[BL,BZ,DV,DV];simp only[Aa];by_cases hs:1<=seq/\seq<=1000000000-(T.length:Int)+1
 ·rw[Ac hs];by_cases ht:1<=tx/\tx<=1000000000
  ·left;obtain⟨b,q1,q2⟩:=AA (body:=λs:List Page×Int=>FI seq tx T s.1 s.2) (λ(o:List Page) i=>(o,i)) T.length (λi o=>o=(Bz seq tx T).take i) (λb=>b=Bz seq tx T)
    (λo i hi ho=>by grind [Ap,BZ,Bh,Bw,D5,FI,Bz])
    (λo ho=>⟨o,by simp[Dx,FI],by grind [AQ,Bz]⟩) (s:=[]) rfl
   grind
  grind
 grind
def Steps:Flash->List AF->Flash->Prop
 |f,[],g=>g=f
 |f,s::ss,g=>Th f s/\Steps (JP f s) ss g
theorem MR:∀(f:Flash) (a b:List AF) (g:Flash),Steps f (a++b) g↔∃m,Steps f a m/\Steps m b g
 |f,[],b,g=>⟨λh=>⟨f,rfl,h⟩,λ⟨m,h1,h2⟩=>by rw[h1]at h2;exact h2⟩
 |f,s::a,b,g=>by
  rw[Cl];simp only[Steps,MR]
  grind
theorem XG:∀{f:Flash} {a:List AF} {g:Flash},AX f->Steps f a g->AX g
 |f,[],g,hf,h=>by rw[h];exact hf
 |f,s::a,g,hf,h=>XG (rL hf h.1) h.2
theorem qM {m:Flash} {s:AF} (h:Steps f a m) (hs:Th m s):Steps f (a++ [s]) (JP m s):=(MR f a [s] _).2 ⟨m,h,hs,rfl⟩
theorem kG (hf:AX f) (h:Steps f a g) (ha:a.length<=1048576):J6 f a=some (g,(a.length:Int)):=by
 unfold J6;rw[CK f hf.cap];simp only[Aa];obtain⟨b,h1,h2⟩:=AA (body:=λs:Int×List Block=>DB a s.1 s.2) (λ(o:List Block) i=>(i,o)) a.length (λi o=>Steps f (a.take i) (Flash.mk o)/\Steps (Flash.mk o) (a.drop i) g) (λb=>b= .inl g.Blocks)
  (λo i hi hs=>by
   have hx:=Ab hi;obtain⟨s1,s2⟩:=hs;rw[AE hi]at s2;simp only[DB,DL hi,Ap,hx,Aa];have hP:=XG hf s1
   rcases Po hP a[i]with⟨k1,k2⟩|⟨k1,k2⟩
   ·rw[k2];rw[ad1];refine .inl ⟨(JP (Flash.mk o) a[i]).Blocks,rfl,?_,s2.2⟩;rw[Af hi];exact qM s1 k1
   exact absurd s2.1 k1)
  (λo hs=>⟨.inl o,by simp[Dx,DB],by
   have:=hs.2;rw[List.drop_length]at this
   rw[show g=Flash.mk o from this]⟩) (s:=f.Blocks) ⟨rfl,h⟩
 rw[h1,h2];rfl
def FR:Flash->List AF->List Page->Flash->Prop
 |f,[],[],g=>g=f
 |f,s::ss,p::ps,g=>s.Kind=1/\aT f s.Block s.Leaf s.Text/\EP s.Text=some (p,true)/\FR (JP f s) ss ps g
 |_,_,_,_=>False
theorem DJ:∀{f:Flash} {ss:List AF} {ps:List Page} {g:Flash},FR f ss ps g->Steps f ss g/\ss.length=ps.length
 |f,[],[],g,h=>⟨h,rfl⟩
 |f,s::ss,p::ps,g,h=>⟨⟨.inl ⟨h.1,h.2.1⟩,(DJ h.2.2.2).1⟩,by rw[AD,AD,(DJ h.2.2.2).2]⟩
 |f,[],p::ps,g,h=>h.elim
 |f,s::ss,[],g,h=>h.elim
theorem TD:∀{f:Flash} {ss:List AF} {ps:List Page} {g:Flash} {b l:Int} {t:ByteArray} {p:Page},FR f ss ps g->aT g b l t->EP t=some (p,true)->FR f (ss++ [AF.mk 1 b l t]) (ps++ [p]) (Q8 g b l (Leaf.mk 1 t))
 |f,[],[],g,b,l,t,p,h,h1,h2=>by
  have:g=f:=h;subst this;exact⟨rfl,h1,h2,by unfold JP;rfl⟩
 |f,s::ss,q::ps,g,b,l,t,p,h,h1,h2=>⟨h.1,h.2.1,h.2.2.1,TD h.2.2.2 h1 h2⟩
 |f,[],q::ps,g,b,l,t,p,h,h1,h2=>h.elim
 |f,s::ss,[],g,b,l,t,p,h,h1,h2=>h.elim
def Ce (ss:List AF) (ps:List Page):List Ak:=List.zipWith (λs p=>Ak.mk s.Block s.Leaf p) ss ps
def GZ:Int->List Page->Prop
 |_,[]=>True
 |n,p::ps=>n<=p.Seq/\GZ (p.Seq+1) ps
theorem ZM:∀{f:Flash} {ss:List AF} {ps:List Page} {g:Flash} {r:List Ak} {n:Int},AX f->SR (Ke 0 f.Blocks) r->FR f ss ps g->(∀y∈r,y.Page.Seq<n)->GZ n ps->SR (Ke 0 g.Blocks) (r++Ce ss ps)
 |f,[],[],g,r,n,hf,a,h,hn,ha=>by
  have:g=f:=h;simp_all [Ce]
 |f,s::ss,p::ps,g,r,n,hf,a,h,hn,ha=>by
  obtain⟨h1,h2,h3,h4⟩:=h;obtain⟨k1,_,A,B,k2,k3,_⟩:=Nl hf h2;have c:JP f s=Q8 f s.Block s.Leaf (Leaf.mk 1 s.Text):=by grind [JP]
  rw[c]at h4;have b:SR (Ke 0 (Q8 f s.Block s.Leaf<|Leaf.mk 1 s.Text).Blocks) (r++ [Ak.mk s.Block s.Leaf p]):=by
   rw[k3 p<|kP h3]
   refine SR.add (by grind) λx hx=>?_
   have:=hn x hx;have:=ha.1;show x.Page.Seq<p.Seq;omega
  have:=ZM k1 b h4 (n:=p.Seq+1) (λy hy=>by
   rw[Az,B8]at hy
   rcases hy with hy|rfl
   ·have:=hn y hy;have:=ha.1;omega
   grind) ha.2
  rw[BA]at this;exact this
 |f,[],q::ps,g,r,n,hf,a,h,hn,ha=>h.elim
 |f,s::ss,[],g,r,n,hf,a,h,hn,ha=>h.elim
theorem TC:∀{f:Flash} {ss:List AF} {ps:List Page} {g:Flash} (k:Nat),FR f ss ps g->∃m,FR f (ss.take k) (ps.take k) m
 |f,[],[],g,k,h=>⟨f,by simp[FR]⟩
 |f,s::ss,p::ps,g,0,h=>⟨f,rfl⟩
 |f,s::ss,p::ps,g,k+1,h=>by
  obtain⟨m,hm⟩:=TC k h.2.2.2;exact⟨m,h.1,h.2.1,h.2.2.1,hm⟩
 |f,[],q::ps,g,k,h=>h.elim
 |f,s::ss,[],g,k,h=>h.elim
theorem yD (hg:AX g) (h:FR f ss ps g) (hs:ss.length<=1000) (p:Page):
  (∃s g',CO g ss p=some (g',ss++ [s],true)/\FR f (ss++ [s]) (ps++ [p]) g'/\AX g'/\GH p/\Tt g s.Block s.Leaf)\/CO g ss p=some (g,ss,false):=by
 by_cases hp:GH p
 ·obtain⟨t,t1,t2,t3,t4⟩:=dG hp
  rcases Tk hg ss (by omega) p t1 (λ_=>⟨t2,t3⟩)with⟨_,b,l,q1,_,q2⟩|q
  ·left;have hm:aT g b l t:=by
    obtain⟨x,a1,a2,a3,a4⟩:=q1;exact⟨x,a1,a2,a3,a4,t2,t3⟩
   exact⟨_,_,q2,TD h hm t4,(Nl hg hm).1,hp,q1⟩
  exact .inr q
 rcases Tk hg ss (by omega) p (yG hp) (λhh=>by cases hh)with⟨hh,_⟩|q
 ·cases hh
 exact .inr q
theorem Y3 (hf:AX f) (ps:List Page) (rt:Bool) (c:ps.length<=9) (a:List Page) (ss0:List AF) (g0:Flash) (ok0:Bool) (h0:ok0=true->FR f ss0 a g0/\AX g0/\ss0.length<=1):
  ∃ss ok,Ai (λs:List AF×Bool×Int×List Block=>Bj (ps,rt) s.1 s.2.1 s.2.2.1 s.2.2.2) (ss0,ok0,0,g0.Blocks)=some (ss,ok)/\(ok=true->ok0=true/\∃g,FR f ss (a++ps) g/\AX g/\∀p∈ps,GH p):=by
 obtain⟨b,h1,h2⟩:=AA (body:=λs:List AF×Bool×Int×List Block=>Bj (ps,rt) s.1 s.2.1 s.2.2.1 s.2.2.2) (λ(o:List AF×Bool×List Block) i=>(o.1,o.2.1,i,o.2.2)) ps.length
  (λi o=>o.2.1=true->ok0=true/\FR f o.1 (a++ps.take i) (Flash.mk o.2.2)/\AX (Flash.mk o.2.2)/\o.1.length<=i+1/\∀p∈ps.take i,GH p)
  (λb=>b.2=true->ok0=true/\∃g,FR f b.1 (a++ps) g/\AX g/\∀p∈ps,GH p)
  (λo i hi hs=>by
   obtain⟨ss,ok,bl⟩:=o;have hx:=Ab hi;simp only[Bj,JB,Ac hi,Al,Aa]
   cases ok with
   |false=>grind
   |true=>
    obtain⟨k0,k1,k2,k3,k4⟩:=hs rfl;simp only[Al,Ap,hx,Aa];refine .inl ?_
    rcases yD k2 k1 (by omega) ps[i]with⟨s,g',q1,q2,q3,q4,_⟩|q
    ·rw[q1];rw[ad1];refine⟨(ss++ [s],true,g'.Blocks),rfl,λ_=>⟨k0,?_,q3,by simp;omega,λp hp=>?_⟩⟩
     ·simp_all
     grind [Af]
    rw[q];rw[ad1]
    simp)
  (λo hs=>⟨(o.1,o.2.1),by grind [JB,Bj],λhh=>by grind⟩) (s:=(ss0,ok0,g0.Blocks)) (λhh=>by simp_all)
 grind
def Cg (d:Av) (c:Int) (a:ByteArray):List Page:=if L a=[]then []else [Page.mk 1 d.Seq c 0 1 a]
def Fi (d:Av) (a:ByteArray):Int:=if L a=[]then d.Seq else d.Seq+1
theorem MD (hf:AX d.Flash) (j:0<=d.Seq/\d.Seq<=1000000001) (b:List Ch) (h:b≠ []) (hr:b.length<=1000) (i:∀r∈b,FM r=true) (a:ByteArray):
  Cv d b a=some ([],false)\/∃steps T g c,b[b.length-1]?=some c/\Cv d b a=some (steps,true)/\1<=T.length/\T.length<=9/\Ov T=J9 b/\(∀t∈T,(L t).length<=90)/\
   FR d.Flash steps (Cg d c.Chunk a++Bz (Fi d a) d.Tx T) g/\AX g/\(∀p∈Cg d c.Chunk a++Bz (Fi d a) d.Tx T,GH p)/\T.length<=max 1 b.length:=by
 have k:0<b.length:=Il.2 h;obtain⟨c,e⟩:∃c,b[b.length-1]?=some c:=⟨_,Ab<|by omega⟩;unfold Cv;rw[show(ln b==0)=false by grind [Bh]];have first:∃ss0 g0 ok0,(cond (!(seq a<|bs [])) (((gi b<|sb (ln b) 1).bind λx1=>(CO d.Flash []<|Page.mk 1 d.Seq x1.Chunk 0 1 a).bind λv1=>some (v1.2.1,v1.2.2,v1.1.Blocks):Option (List AF×Bool×List Block)).bind λj2=>some (j2.1,ad d.Seq 1,j2.2.1,j2.2.2)) (some ([],d.Seq,true,d.Flash.Blocks)):Option (List AF×Int×Bool×List Block))=some (ss0,Fi d a,ok0,Flash.Blocks g0)/\(ok0=true->FR d.Flash ss0 (Cg d c.Chunk a) g0/\AX g0/\ss0.length<=1/\∀p∈Cg d c.Chunk a,GH p):=by
  by_cases ht:L a=[]
  ·have:seq a (bs [])=true:=by grind [KJ,JJ,DH]
   rw[this];refine⟨[],d.Flash,true,?_,λ_=>⟨?_,hf,by simp,?_⟩⟩
   ·grind [Fi]
   ·unfold Cg;rw[BE ht];rfl
   unfold Cg;grind
  have:seq a (bs [])=false:=by grind [KJ,DH]
  rw[this];rw[Bh,BL,show(b.length:Int)-1=((b.length-1:Nat):Int) by omega,Ap,e,Aa,BZ];have e1:Fi d a=d.Seq+1:=by grind [Fi]
  have e2:Cg d c.Chunk a=[Page.mk 1 d.Seq c.Chunk 0 1 a]:=by grind [Cg]
  rw[e1,e2]
  rcases yD (f:=d.Flash) (ss:=[]) (ps:=[]) hf rfl (by simp) (Page.mk 1 d.Seq c.Chunk 0 1 a)with⟨s,g',q1,q2,q3,q4,_⟩|q
  ·rw[q1];refine⟨_,g',true,rfl,λ_=>⟨q2,q3,by simp,λp hp=>?_⟩⟩
   grind
  rw[q];exact⟨_,d.Flash,false,rfl,λhh=>by cases hh⟩
 obtain⟨ss0,g0,ok0,e0,h0⟩:=first
 rw[e0];simp only[Aa];obtain⟨T,t1,t2,t3,tm,t4⟩:=eN (Fi d a) d.Tx b hr i
 rcases t4 with⟨t4,t5,t6,t7,t8,t9⟩|⟨t4,_⟩
 ·rw[t4];simp only[Aa];obtain⟨ss,ok,q1,q2⟩:=Y3 hf (Bz (Fi d a) d.Tx T) true (by unfold Bz;grind) (Cg d c.Chunk a) ss0 g0 ok0 λhh=>⟨(h0 hh).1,(h0 hh).2.1,(h0 hh).2.2.1⟩;rw[q1];simp only[Aa]
  grind
 rw[t4];obtain⟨ss,ok,q1,q2⟩:=Y3 hf [] false (by simp) (Cg d c.Chunk a) ss0 g0 ok0 λhh=>⟨(h0 hh).1,(h0 hh).2.1,(h0 hh).2.2.1⟩
 grind
theorem iQ (hf:AX d.Flash) (q:0<=d.Seq/\d.Seq<=1000000001) (h:List Ch) (u:h≠ []) (hr:h.length<=1000) (v:∀r∈h,FM r=true) (i:ByteArray):
  Cv d h i=some ([],false)\/∃steps T g j,h[h.length-1]?=some j/\Cv d h i=some (steps,true)/\1<=T.length/\T.length<=9/\Ov T=J9 h/\(∀t∈T,(L t).length<=90)/\
   FR d.Flash steps (Cg d j.Chunk i++Bz (Fi d i) d.Tx T) g/\AX g/\∀p∈Cg d j.Chunk i++Bz (Fi d i) d.Tx T,GH p:=
 (MD hf q h u hr v i).imp id λ⟨s,T,g,l,a,b,c,e,f,k,m,n,o,_⟩=>⟨s,T,g,l,a,b,c,e,f,k,m,n,o⟩
def K2 (r:List Ak) (c:Int):Option Ak:=(r.filter<|IA c).getLast?
noncomputable def Vq (t:ByteArray):Option ByteArray:=match FH t with
 |some (s,true)=>some s
 |_=>none
noncomputable def BX (r:List Ak) (c:Int):Option ByteArray:=(K2 r c).bind λy=>Vq y.Page.Text
theorem UL:IA c y=true↔y.Page.Kind=1/\y.Page.Tx=c:=by
 unfold IA
 grind
theorem Y9 (h:K2 r c=some y):y∈r/\y.Page.Kind=1/\y.Page.Tx=c:=by
 have:=List.mem_of_getLast? h
 grind [UL]
theorem OF (r:List Ak) (y:Ak) (c:Int):K2 (r++ [y]) c=if y.Page.Kind=1/\y.Page.Tx=c then some y else K2 r c:=by simp_all [UL,K2];grind
theorem dN (r m:List Ak) (h:∀y∈m,y.Page.Kind≠1) (c:Int):K2 (r++m) c=K2 r c:=by grind [UL,K2]
theorem Zh {α:Type} {y:α} (l:List α) (p:α->Bool) (h:l.getLast? =some y) (hp:p y=true):(l.filter p).getLast? =some y:=by
 rcases GM l with e|⟨m,x,e⟩
 ·grind
 grind
theorem lB (p:Ak->Bool) (h:K2 r c=some y) (hp:p y=true):K2 (r.filter p) c=some y:=by
 unfold K2 at h⊢;rw[DS];have:r.filter (λa=>IA c a&&p a)=(r.filter<|IA c).filter p:=by grind [DS]
 grind [Zh]
theorem Y7 {o:Option Nat} (h:Qw c r r.length o):K2 r c=o.bind λj=>r[j]? :=by
 cases o with
 |none=>
  unfold K2;have:r.filter (IA c)=[]:=by
   rw[B9];intro y hy;obtain⟨j,hj,rfl⟩:=Au hy;have:=h j r[j] hj<|Ab hj;rw[this];simp
  rw[this];rfl
 |some j=>
  obtain⟨h1,⟨y,h2,h3⟩,h4⟩:=h;unfold K2;obtain⟨e1,e2⟩:=Jk h2;have:(r.drop<|j+1).filter (IA c)=[]:=by
   rw[B9];intro z hz;obtain⟨k,hk,rfl⟩:=Au hz;rw[OX]at hk;rw[List.getElem_drop];have:=h4 (j+1+k) _ (by omega) (by omega) (Ab<|by omega);rw[this];simp
  grind
theorem oO (hr:r.length<=1048576) (c:Int):∃y ok,LB r c=some (y,ok)/\K2 r c=(if ok=true then some y else none):=by
 obtain⟨o,h1,h2⟩:=dM r hr c;have h3:=Y7 h2
 cases o with
 |none=>grind
 |some j=>
  obtain⟨_,⟨y,k1,_⟩,_⟩:=h2
  grind [Kw]
theorem jZ (hr:Fk r) (c:Int):∃u ok,KL r c=some (u,ok)/\BX r c=(if ok=true then some u else none):=by
 obtain⟨y,ok,h1,h2⟩:=oO hr.len c;unfold KL BX;rw[h1,h2]
 cases ok with
 |false=>simp
 |true=>
  have hy:=(Y9 (by rw[h2];rfl)).1;obtain⟨u,ok2,k1,_,_⟩:=SX y.Page.Text (by have:=hr.text y hy;omega)
  grind [Vq]
structure I7 (r:List Ak):Prop where
 pages:Fk r
 inc:r.Pairwise λx y=>x.Page.Seq<y.Page.Seq
 mu:nF r
def DD (l:Vs) (c:Int):Prop:=0<c/\∃p∈l,c∈p.2
structure G3 (r:List Ak) (P:Int->Prop):Prop where
 data:∀c,P c->∃s,BX r c=some s
 dist:∀c c',P c->P c'->BX r c=BX r c'->c=c'
theorem G3.mono {Q:Int->Prop} (h:G3 r P) (hq:∀c,Q c->P c):G3 r Q:=⟨λc hc=>h.data c<|hq c hc,λc c' hc hc'=>h.dist c c' (hq c hc)<|hq c' hc'⟩
theorem G3.congr (h:G3 r P) (he:∀c,P c->BX r' c=BX r c):G3 r' P:=⟨λc hc=>by rw[he c hc];exact h.data c hc,λc c' hc hc' e=>h.dist c c' hc hc'<|by grind⟩
theorem G3.metas {m:List Ak} (h:G3 r P) (hm:∀y∈m,y.Page.Kind≠1):G3 (r++m) P:=h.congr λc _=>by grind [dN,BX]
theorem nM (h:G3 r P) (hy:¬P y.Page.Tx):G3 (r++ [y]) P:=h.congr λc hc=>by grind [OF,BX]
theorem nN (h:G3 r P) (hy:Vq y.Page.Text=BX r y.Page.Tx):G3 (r++ [y]) P:=h.congr λc hc=>by grind [OF,BX]
theorem G3.new {s:ByteArray} (h:G3 r P) (hk:y.Page.Kind=1) (hn:¬P y.Page.Tx) (ht:Vq y.Page.Text=some s) (hs:∀c,P c->BX r c≠some s):G3 (r++ [y]) (λc=>P c\/c=y.Page.Tx):=by
 have b:BX (r++ [y]) y.Page.Tx=some s:=by grind [OF,BX]
 have a:∀c,P c->BX (r++ [y]) c=BX r c:=λc hc=>by grind [OF,BX]
 refine⟨λc hc=>?_,λc c' hc hc' e=>?_⟩
 ·rcases hc with hc|rfl
  ·rw[a c hc];exact h.data c hc
  grind
 rcases hc with hc|rfl<;>rcases hc' with hc'|rfl
 ·exact h.dist c c' hc hc'<|by grind
 ·grind
 ·grind
 rfl
theorem I7.filter (h:I7 r) (p:Ak->Bool):I7 (r.filter p):=by
 refine⟨⟨by have:=GL p r;have:=h.pages.len;omega,λy hy=>h.pages.text y (AG.1 hy).1,λy hy=>h.pages.seq y (AG.1 hy).1,λy hy=>h.pages.tx y (AG.1 hy).1,λy hy=>h.pages.cnt y (AG.1 hy).1,λy hy=>h.pages.part y (AG.1 hy).1⟩,h.inc.filter _,⟨λy hy z hz=>h.mu.uniq y (AG.1 hy).1 z (AG.1 hz).1⟩⟩
theorem I7.add (h:I7 r) (hl:r.length<=1000000) (hb:GH y.Page) (hs:CT r<=y.Page.Seq) (hm:y.Page.Kind=2->∀z∈r,z.Page.Kind=2->z.Page.Tx=y.Page.Tx->z.Page.Part≠y.Page.Part):I7 (r++ [y]):=by
 obtain⟨b1,b2,b3,b4,b5,b6,b7⟩:=hb
 have all:∀{P:Ak->Prop},(∀z∈r,P z)->P y->∀z∈r++ [y],P z:=λh1 h2 z hz=>by grind
 refine⟨⟨by simp;omega,all h.pages.text b6,all h.pages.seq b2,all h.pages.tx b3,all h.pages.cnt b4,all h.pages.part b5⟩,?_,⟨λu hu v hv k1 k2 e1 e2=>?_⟩⟩
 ·rw[Bc];refine⟨h.inc,List.pairwise_singleton _ _,λu hu v hv=>?_⟩;rw[B8]at hv;rw[hv];have:=(Mj r).1 u hu;omega
 rw[Az,B8]at hu hv
 rcases hu with hu|rfl<;>rcases hv with hv|rfl
 ·exact h.mu.uniq u hu v hv k1 k2 e1 e2
 ·grind
 ·grind
 rfl
theorem cL (h:CT r<=y.Page.Seq):CT (r++ [y])=y.Page.Seq+1:=by rw[Xr,BE h]
theorem I7.metas {t:Int} (h:I7 r) (ht:∀y∈r,y.Page.Kind=2->y.Page.Tx<t):∀(m:List Ak) (k:Nat),r.length+m.length<=1000000->(∀(i:Nat) y,m[i]?=some y->y.Page.Kind=2/\y.Page.Tx=t/\y.Page.Part=i/\y.Page.Seq=CT r+i/\GH y.Page)->k<=m.length->I7 (r++m.take k)/\CT (r++m.take k)=CT r+k
 |m,0,_,_,_=>by simpa using h
 |m,k+1,hl,hm,hk=>by
  obtain⟨ih1,ih2⟩:=I7.metas h ht m k hl hm (by omega);have hx:m[k]?=some m[k]:=Ab (by omega);obtain⟨k1,k2,k3,k4,k5⟩:=hm k _ hx;rw[Af (by omega),<-BA];refine⟨I7.add ih1 (by simp;omega) k5 (by grind) λ_ z hz a b=>?_,?_⟩
  ·grind [Au]
  grind [cL]
theorem sG (i:Int):∀(k:Int) (l:List Leaf),(W4 i k l).length<=l.length
 |_,[]=>A3 _
 |k,x::l=>by
  rw[W4,A9,AD];have:=sG i (k+1) l
  grind [pg]
theorem f9:∀(i:Int) (l:List Block),(Ke i l).length<=nl l
 |_,[]=>A3 _
 |i,b::l=>by
  rw[Ke,A9];have:=f9 (i+1) l
  grind [sG,nl]
theorem AC0 (hf:AX f) (h:SR (Ke 0 f.Blocks) r):r.length<=40:=by
 have h1:=f9 0 f.Blocks;have h2:=hf.few;have h3:=h.2.len;omega
theorem Nu:∀{ss:List AF} {ps:List Page} {i:Nat} {y:Ak},(Ce ss ps)[i]?=some y->ps[i]?=some y.Page
 |[],_,i,y,h=>by simp[Ce]at h
 |s::ss,[],i,y,h=>by simp[Ce]at h
 |s::ss,p::ps,0,y,h=>by grind [Ce]
 |s::ss,p::ps,i+1,y,h=>by grind [Ce]
theorem Zm (h:ss.length=ps.length):(Ce ss ps).length=ps.length:=by unfold Ce;grind
theorem WC (ss:List AF) (ps:List Page) (k:Nat):Ce (ss.take k) (ps.take k)=(Ce ss ps).take k:=by unfold Ce;grind
theorem mP:∀(T:List ByteArray),(∀t∈T,(L t).length<=90)->(Ov T).length<=90*T.length
 |[],_=>by simp[Ov]
 |t::T,h=>by
  have:=mP T λx hx=>h x<|by simp[hx]
  grind [Ov]
theorem dP {r1 m:List Ak} (h:I7 r1) (hl:r1.length<=1000) {a:List Ch} (c:1<=T.length) (d:T.length<=9) (e:∀t∈T,(L t).length<=90) (f:Ov T=J9 a) (g:∀r∈a,FM r=true) (hm:∀(i:Nat) y,m[i]?=some y->(Bz (CT r1) (Dy r1) T)[i]?=some y.Page) (j:m.length=T.length) (l:∀p∈Bz (CT r1) (Dy r1) T,GH p) (k:Nat) (hk:k<=T.length):
  I7 (r1++m.take k)/\(∀y∈m.take k,y.Page.Kind≠1)/\(k<T.length->A6 (r1++m.take k)=A6 r1)/\(k=T.length->∃q,A6 (r1++m.take k)=A6 r1++ [Tx.mk (Dy r1) q a]):=by
 have n:∀(i:Nat) y,m[i]?=some y->∃t,T[i]?=some t/\y.Page=Page.mk 2 (CT r1+i) (Dy r1) i T.length t:=by grind [Bz]
 have b:=Hs r1;obtain⟨c1,_⟩:=I7.metas h b.1 m k (by omega) (λi y hy=>by grind) (by omega);have hN:eQ (m.take k) (Dy r1) T.length T:=by
  refine⟨by grind,⟨c,d⟩,rfl,λi y hy=>?_⟩
  grind
 obtain⟨g1,g2⟩:=pM r1 (λy hy=>(h.pages.tx y hy).1) b.1 b.2.1 hN;refine⟨c1,λy hy=>by rw[(hN.all hy).1];omega,λhh=>g1 (by grind),λhh=>g2 (by grind) a ?_⟩
 grind [oP,mP]
def RJ (r:List Ak):Prop:=∀x∈A6 r,(∀y∈r,y.Page.Kind=2->y.Page.Tx=x.Num->y.Page.Count<=max 1 x.Recs.length)/\(X3 x=true->(Jj [x]).1=[]->x.Recs.length=1)
theorem Lg {x:Tx} (hr:Fk r):x∈A6 r↔Je r x.Num=some x/\∃y∈r,y.Page.Kind=2/\y.Page.Tx=x.Num:=by
 have hn:=(Fx r λy hy=>(hr.tx y hy).1).2.1;unfold A6;rw[List.mem_filterMap];constructor
 ·rintro⟨t,h1,h2⟩;have h3:=(RM hr h2).1;rw[h3];exact⟨h2,(hn t).1 h1⟩
 rintro⟨h1,h2⟩;exact⟨x.Num,(hn _).2 h2,h1⟩
theorem RJ.filter (h:RJ r) (hc:I7 r) (p:Ak->Bool):RJ (r.filter p):=λx hx=>by
 obtain⟨h1,y,y1,y2,y3⟩:=(Lg (hc.filter p).pages).1 hx;obtain⟨h3,h4⟩:=h x<|(Lg hc.pages).2 ⟨Wk hc.mu p h1,y,(AG.1 y1).1,y2,y3⟩;exact⟨λz hz=>h3 z (AG.1 hz).1,h4⟩
theorem RJ.more (h:RJ r) (hg:A6 r'=A6 r) (hy:∀y∈r',y.Page.Kind=2->y∈r\/∀x∈A6 r,y.Page.Tx≠x.Num):RJ r':=λx hx=>by
 rw[hg]at hx;refine⟨λy h1 h2 h3=>?_,(h x hx).2⟩
 rcases hy y h1 h2 with h4|h4
 ·exact(h x hx).1 y h4 h2 h3
 exact absurd h3<|h4 x hx
theorem RJ.new {x:Tx} (h:RJ r) (hg:A6 r'=A6 r++ [x]) (hx:∀z∈A6 r,z.Num≠x.Num) (hy:∀y∈r',y.Page.Kind=2->(y∈r/\y.Page.Tx≠x.Num)\/(y.Page.Tx=x.Num/\y.Page.Count<=max 1 x.Recs.length)) (hb:X3 x=true->(Jj [x]).1=[]->x.Recs.length=1):RJ r':=λz hz=>by
 rw[hg,Az,B8]at hz
 rcases hz with hz|rfl
 ·refine⟨λy h1 h2 h3=>?_,(h z hz).2⟩
  rcases hy y h1 h2 with⟨h4,_⟩|⟨h4,_⟩
  ·exact(h z hz).1 y h4 h2 h3
  exact absurd (h3.symm.trans h4)<|hx z hz
 refine⟨λy h1 h2 h3=>?_,hb⟩
 rcases hy y h1 h2 with⟨_,h4⟩|⟨_,h4⟩
 ·exact absurd h3 h4
 exact h4
structure G9 (d:Av) (r:List Ak):Prop where
 dev:Fe d r
 core:I7 r
 data:G3 r (DD (AT d.Store))
 hist:RJ r
theorem G9.few (h:G9 d r):r.length<=40:=AC0 h.dev.fl h.dev.sr
theorem Kx (hg:AX g) (a:SR (Ke 0 g.Blocks) r):∃d,Cr g=some (d,true)/\Fe d r/\d.Flash=g:=by
 obtain⟨d,r',h1,h2,h3⟩:=Ux hg;have:r'=r:=by
  have h4:=h2.sr;rw[h3]at h4;exact h4.uniq a
 grind
theorem SS (seq tx:Int) (T:List ByteArray):GZ seq (Bz seq tx T):=by
 have a:∀(l:List ByteArray) (i:Nat) (n:Int),n<=seq+i->GZ n (l.mapIdx λj t=>Page.mk 2 (seq+(i+j:Nat)) tx (i+j:Nat) T.length t):=by
  intro l
  induction l with
  |nil=>intro i n _;trivial
  |cons x l ih=>
   intro i n hn;rw[List.mapIdx_cons];refine⟨by simpa using hn,?_⟩;have:=ih (i+1) (seq+(i:Int)+1)<|by omega
   grind
 have:=a T 0 seq<|by omega
 grind [Bz]
theorem pU (c:Int) (a:ByteArray) (tx:Int) (T:List ByteArray):GZ d.Seq (Cg d c a++Bz (Fi d a) tx T):=by
 unfold Cg Fi;by_cases e:L a=[]
 ·grind [SS]
 rw[Bi e,Bi e];exact⟨K6 _,SS _ _ _⟩
theorem HO (ss:List AF) (ps:List Page) (k:Nat):∀y∈(Ce ss ps).take k,y.Page∈ps:=by
 intro y hy;obtain⟨i,hi,rfl⟩:=Au<|List.mem_of_mem_take hy;exact Ao<|Nu<|Ab hi
def DW (f:Flash) (n:Int):Prop:=∀b∈f.Blocks,b.Wear<=n
theorem rB {l:List Block} {n:Int} {x:Block} (h:∀y∈l,y.Wear<=n) (hx:x.Wear<=n):∀y∈si l b x,y.Wear<=n:=by grind [si]
theorem cE {s:AF} {n m:Int} (h:DW f n) (hm:n<=m) (hs:s.Kind=1\/n+1<=m):DW (JP f s) m:=by
 have h0:∀y∈f.Blocks,y.Wear<=m:=λy hy=>by have:=h y hy;omega
 unfold JP Q8 Qr DW;by_cases e:s.Kind=1
 ·rw[BE e]
  cases hg:gi f.Blocks s.Block with
  |none=>exact h0
  |some x=>exact rB h0<|h0 x<|Ao (C0 hg).2
 rw[Bi e]
 cases hg:gi f.Blocks s.Block with
 |none=>exact h0
 |some x=>exact rB h0 (by have:=h x<|Ao (C0 hg).2;grind)
theorem TB {n:Int}:∀{f:Flash} {ss:List AF} {ps:List Page} {g:Flash},FR f ss ps g->DW f n->DW g n
 |f,[],[],g,h,hw=>by rw[show g=f from h];exact hw
 |f,s::ss,p::ps,g,h,hw=>TB h.2.2.2 (cE hw (K6 _) (.inl h.1))
 |f,[],q::ps,g,h,_=>h.elim
 |f,s::ss,[],g,h,_=>h.elim
theorem Qo:∀{f:Flash} {ss:List AF} {ps:List Page} {g:Flash},FR f ss ps g->∀s∈ss,s.Kind=1
 |f,[],[],g,h,s,hs=>by cases hs
 |f,s::ss,p::ps,g,h,x,hs=>by
  rcases Gi.1 hs with rfl|hs
  ·exact h.1
  exact Qo h.2.2.2 x hs
 |f,[],q::ps,g,h,_,_=>h.elim
 |f,s::ss,[],g,h,_,_=>h.elim
def XM (f g:Flash):Prop:=∀n,DW f n->DW g n
theorem RL (h:G9 d r) {l:List Ch} (x:∀r∈l,FM r=true) {a:ByteArray} {b:Ch} {steps:List AF} (z:1<=T.length) (h0:T.length<=9) (h1:Ov T=J9 l) (v:∀t∈T,(L t).length<=90) (hp:FR d.Flash steps (Cg d b.Chunk a++Bz (Fi d a) d.Tx T) g) (o:∀p∈Cg d b.Chunk a++Bz (Fi d a) d.Tx T,GH p) (a6:L a≠ []->¬DD (AT d.Store) b.Chunk) (k:Nat) (hk:k<=steps.length):
  ∃m d' r',Steps d.Flash (steps.take k) m/\AX m/\Cr m=some (d',true)/\Fe d' r'/\d'.Flash=m/\r'=r++(Ce steps (Cg d b.Chunk a++Bz (Fi d a) d.Tx T)).take k/\XM d.Flash m/\I7 r'/\G3 r' (DD (AT d.Store))/\
   (k<steps.length->A6 r'=A6 r)/\(k=steps.length->(∃q,A6 r'=A6 r++ [Tx.mk d.Tx q l])/\∀s,Vq a=some s->L a≠ []->(∀c,DD (AT d.Store) c->BX r c≠some s)->G3 r' (λc=>DD (AT d.Store) c\/c=b.Chunk)):=by
 obtain⟨a7,f⟩:=DJ hp;obtain⟨m,hm⟩:=TC k hp;obtain⟨h2,_⟩:=DJ hm;have h3:=XG h.dev.fl h2;have a5:=h.few
 have h4:∀y∈r,y.Page.Seq<d.Seq:=λy hy=>by rw[h.dev.seq];simp_all [Mj]
 have h5:=pU (d:=d) b.Chunk a d.Tx T;have ascT:∀(ps:List Page) (n:Int) (k:Nat),GZ n ps->GZ n (ps.take k):=by
  intro ps
  induction ps with
  |nil=>grind
  |cons p ps ih=>
   intro n k ha
   cases k with
   |zero=>trivial
   |succ k=>exact⟨ha.1,ih _ k ha.2⟩
 have h6:=ZM h.dev.fl h.dev.sr hm h4<|ascT _ _ k h5;rw[WC]at h6;obtain⟨d',u1,u2,u3⟩:=Kx h3 h6;refine⟨m,d',r++(Ce steps<|Cg d b.Chunk a++Bz (Fi d a) d.Tx T).take k,h2,h3,u1,u2,u3,rfl,λ_=>TB hm,?_⟩;have w:(Bz (Fi d a) d.Tx T).length=T.length:=by unfold Bz;grind
 have u:=Zm f;by_cases e:L a=[]
 ·
  have e1:Cg d b.Chunk a=[]:=by grind [Cg]
  have e2:Fi d a=d.Seq:=by grind [Fi]
  rw[e1,e2,A5]at u f o⊢;rw[e2]at w;rw[h.dev.seq,h.dev.tx]at u f o w⊢;obtain⟨a1,a2,a3,a4⟩:=dP h.core (by omega) z h0 v h1 x (m:=Ce steps<|Bz (CT r) (Dy r) T) (λi y hy=>Nu hy) (by omega) o k (by omega);exact⟨a1,h.data.metas a2,λhh=>a3 (by omega),λhh=>⟨a4 (by omega),λs _ h7=>absurd e h7⟩⟩
 have e1:Cg d b.Chunk a=[Page.mk 1 d.Seq b.Chunk 0 1 a]:=by grind [Cg]
 have e2:Fi d a=d.Seq+1:=by grind [Fi]
 rw[e1,e2]at u f o⊢;rw[e2]at w;rw[JM]at u f o⊢;rw[AD]at f u
 match hsteps:steps,f with
 |[],f=>simp at f
 |s0::ss,f=>
  have ef:Ce (s0::ss) (Page.mk 1 d.Seq b.Chunk 0 1 a::Bz (d.Seq+1) d.Tx T)=Ak.mk s0.Block s0.Leaf (Page.mk 1 d.Seq b.Chunk 0 1 a)::Ce ss (Bz (d.Seq+1) d.Tx T):=rfl;rw[ef]
  cases k with
  |zero=>
   rw[bN,AO];exact⟨h.core,h.data,λ_=>rfl,λhh=>by simp at hh⟩
  |succ k=>
   rw[List.take_succ_cons];generalize h8:Ak.mk s0.Block s0.Leaf (Page.mk 1 d.Seq b.Chunk 0 1 a)=y0;have j:y0.Page=Page.mk 1 d.Seq b.Chunk 0 1 a:=by rw[<-h8]
   have c1:I7 (r++ [y0]):=I7.add h.core (by omega) (by grind) (by rw[j,h.dev.seq];exact K6 _) (λhh=>by grind);have g1:A6 (r++ [y0])=A6 r:=WB r (by rw[j];simp);have s1:CT (r++ [y0])=d.Seq+1:=by rw[cL (by rw[j,h.dev.seq];exact K6 _),j]
   have t1:Dy (r++ [y0])=d.Tx:=by rw[Xp,Bi (by rw[j];simp),h.dev.tx]
   have h9:(Ce ss<|Bz (d.Seq+1) d.Tx T).length=T.length:=by grind
   rw[List.append_cons];obtain⟨a1,a2,a3,a4⟩:=dP c1 (by simp;omega) z h0 v h1 x (m:=Ce ss<|Bz (d.Seq+1) d.Tx T) (by grind [Nu]) h9 (by grind) k (by omega);have dz:G3 (r++ [y0]) (DD<|AT d.Store):=nM h.data (by grind);rw[g1,t1]at a4;rw[g1]at a3;have a8:ss.length=T.length:=by simp at f;omega
   refine⟨a1,dz.metas a2,λhh=>a3 (by simp at hh;omega),λhh=>⟨a4 (by simp at hh;omega),λs hs _ a0=>?_⟩⟩;have:=G3.new h.data (y:=y0) (s:=s) (by rw[j]) (by grind) (by grind) a0;rw[j]at this;exact this.metas a2
theorem Zd (h:G9 d r) {a:List Ch} {f:ByteArray} {steps:List AF} (hr:r'=r++(Ce steps (Cg d c f++Bz (Fi d f) d.Tx T)).take k) (hT:T.length<=max 1 a.length) (hb:∀q,X3 (Tx.mk d.Tx q a)=true->(Jj [Tx.mk d.Tx q a]).1=[]->a.length=1) (hk:k<=steps.length) (c8:k<steps.length->A6 r'=A6 r) (c9:k=steps.length->∃q,A6 r'=A6 r++ [Tx.mk d.Tx q a]):RJ r':=by
 have old:∀x∈A6 r,x.Num≠d.Tx:=λx hx e=>by
  obtain⟨_,y,y1,y2,y3⟩:=(Lg h.core.pages).1 hx;have:=(Hs r).1 y y1 y2;rw[<-h.dev.tx]at this;omega
 have pg:∀y∈r',y.Page.Kind=2->y∈r\/(y.Page.Tx=d.Tx/\y.Page.Count=T.length):=λy hy b=>by
  rw[hr]at hy
  rcases Az.1 hy with hh|hh
  ·exact .inl hh
  right
  rcases Az.1 (HO _ _ _ y hh)with hh|hh
  ·unfold Cg at hh;split at hh
   ·cases hh
   rw[B8]at hh;rw[hh]at b;cases b
  unfold Bz at hh;obtain⟨i,hi,e⟩:=Au hh;rw[List.getElem_mapIdx]at e;rw[<-e];exact⟨rfl,rfl⟩
 by_cases e:k<steps.length
 ·refine h.hist.more (c8 e) λy hy b=>?_
  rcases pg y hy b with q|⟨q,_⟩
  ·exact .inl q
  exact .inr λx hx hh=>old x hx<|by rw[<-hh,q]
 obtain⟨q,hq⟩:=c9 (by omega);refine h.hist.new hq (λz hz=>old z hz) (λy hy b=>?_)<|hb q
 rcases pg y hy b with p|⟨p1,p2⟩
 ·refine .inl ⟨p,λhh=>?_⟩;have:=(Hs r).1 y p b;rw[<-h.dev.tx]at this;simp only at hh;omega
 exact .inr ⟨p1,by rw[p2];simp only;omega⟩
theorem iG (h:Cj s):Qk s.Arena:=by unfold Qk;have:=h.few;omega
theorem yR (h:Cj s) (x:Int):x∈Oo s s.Vols.length↔∃p∈AT s,x∈p.2:=by
 unfold Oo AT;simp only[List.mem_flatten,AB]
 have a:∀v∈s.Vols,(Jb s.Arena v.Root).getD []=Fc s.Arena.Knots v.Root:=λv hv=>by
  rw[Ni _ (by have:=h.few;omega) h.ar<|h.root _<|AB.2 ⟨v,hv,rfl⟩];rfl
 grind
theorem FV (h:Cj s):∃l,En s=some l/\asc l/\(∀x,x∈l↔DD (AT s) x)/\l.length<=16777216:=by
 have:=h.len;obtain⟨l,h1,h2,h3⟩:=W0 s (by omega)<|iG h;refine⟨l,h1,h2.1,λx=>?_,h3⟩;rw[h2.2 x,yR h]
 grind [DD]
theorem X1 (h:Cj s) (hc:DD (AT s) c):0<c/\c<s.Next:=by
 obtain⟨h0,p,hp,hx⟩:=hc;unfold AT at hp;obtain⟨v,hv,rfl⟩:=AB.1 hp;exact⟨h0,h.lt _ (AB.2 ⟨v,hv,rfl⟩) c hx⟩
def Co (r:List Ak) (live:List Int) (a:Int):List Bool:=live.foldl (aR r)<|r.map<|CB a
theorem JA (r:List Ak) (live:List Int) (a:Int):(Co r live a).length=r.length:=by unfold Co;rw[Zn,By]
theorem OG (r:List Ak) (live:List Int) (a:Int) (hy:r[j]?=some y):(Co r live a)[j]?=some (CB a y||live.any (λc=>Q5 c r r.length==some j)):=by grind [YB,Co]
theorem AAO (h:Q5 c r r.length=some j):K2 r c=r[j]? :=by
 rw[Y7<|O4 c r r.length<|A3 _,h];rfl
theorem ABf (h:K2 r c=some y):∃j,Q5 c r r.length=some j/\r[j]?=some y:=by
 have:=Y7<|O4 c r r.length<|A3 _;rw[h]at this
 cases ht:Q5 c r r.length with
 |none=>grind
 |some j=>grind
theorem tE {p:Nat->Bool} (h:cn n p=0):∀j,j<n->p j=false:=by grind [B9,cn]
theorem AA6 {live:List Int} {a b:Int} (h:cn r.length (λj=>(Co r live a)[j]?.getD false&&bk r b j)=0):∀y∈r,y.Block=b->(y.Page.Kind=2->y.Page.Tx<a)/\∀c∈live,K2 r c≠some y:=by
 intro y hy hb;obtain⟨j,hj,rfl⟩:=Au hy;have hx:=Ab hj;have h1:=tE h j hj;rw[OG r live a hx]at h1;have h2:bk r b j=true:=by unfold bk;grind
 rw[h2,Bool.and_true,CX,Bool.or_eq_false_iff]at h1;refine⟨λhk=>?_,λc hc hn=>?_⟩
 ·grind [CB]
 
 obtain⟨i,i1,i2⟩:=ABf hn
 grind [tE,OG,bk]
theorem QW (h:Fe d r):∃l,FK d=some l/\l.length<=10/\∀b∈l,∃x,gi d.Flash.Blocks b=some x/\x.Bad=false/\∀y∈r,y.Block=b->(y.Page.Kind=2->y.Page.Tx<d.Base)/\∀c,DD (AT d.Store) c->K2 r c≠some y:=by
 obtain⟨live,l1,l2,l3,l4⟩:=FV h.st;have hn:=h.fl.n;unfold FK;rw[h.scan.s,l1];simp only[Aa];rw[Jc r live d.Base h.scan.len l4];have e:live.foldl (aR r) (r.map<|CB d.Base)=Co r live d.Base:=rfl;rw[e];obtain⟨b,q1,q2⟩:=AA (body:=λs:List Int×Int=>CA d r (Co r live d.Base) s.1 s.2) (λ(o:List Int) i=>(o,i)) d.Flash.Blocks.length
  (λi o=>o.length<=i/\∀b∈o,∃x,gi d.Flash.Blocks b=some x/\x.Bad=false/\∀y∈r,y.Block=b->(y.Page.Kind=2->y.Page.Tx<d.Base)/\∀c,DD (AT d.Store) c->K2 r c≠some y)
  (λo=>o.length<=10/\∀b∈o,∃x,gi d.Flash.Blocks b=some x/\x.Bad=false/\∀y∈r,y.Block=b->(y.Page.Kind=2->y.Page.Tx<d.Base)/\∀c,DD (AT d.Store) c->K2 r c≠some y)
  (λo i hi ho=>by
   have hx:=Ab hi;have hP:=h.fl.blk _<|Ar hi;obtain⟨nbl,_,bl⟩:=mT d.Flash.Blocks[i] (by rw[hP.four];omega);simp only[CA,DL hi,Ap,hx,Aa];rw[bl,SH r _ (i:Int) h.scan.len<|JA _ _ _,ad1];simp only[Aa];refine .inl ?_
   cases a:d.Flash.Blocks[i].Bad with
   |true=>grind
   |false=>
    simp only[BK,Al]
    cases g:(!(!decide (nbl<ln d.Flash.Blocks[i].Leaves)))with
    |false=>grind
    |true=>
     cases hz:((((cn r.length (λj=>(Co r live d.Base)[j]?.getD false&&bk r (i:Int) j):Nat)):Int)==0)with
     |false=>grind
     |true=>
      rw[Bw (by simp;omega)];refine⟨_,rfl,by simp;omega,λb hb=>?_⟩;rw[Az,B8]at hb
      rcases hb with hb|rfl
      ·exact ho.2 b hb
      refine⟨_,by grind [Ap],a,λy hy f=>?_⟩;have hz':cn r.length (λj=>(Co r live d.Base)[j]?.getD false&&bk r (i:Int) j)=0:=by grind
      obtain⟨a1,a2⟩:=AA6 hz' y hy f
      grind)
  (λo ho=>⟨o,by simp[Dx,CA],by omega,ho.2⟩) (s:=[]) ⟨by simp,λb hb=>by cases hb⟩
 grind
theorem GO (h:Fe d r) (h':Fe d' r') (e:Cy (A6 r')=Cy (A6 r)):AT d'.Store=AT d.Store/\d'.Store.Next=d.Store.Next/\d'.Base=d.Base:=by
 have h1:=h'.ab;rw[e,<-h.ab]at h1
 injection h1 with h1 h2
 exact⟨h1,h2,by rw[h'.base,h.base,e]⟩
theorem AAJ (h:G9 d r) (hb:∀y∈r,y.Block=b->(y.Page.Kind=2->y.Page.Tx<d.Base)/\∀c,DD (AT d.Store) c->K2 r c≠some y) (hg:AX g) (hp:Ke 0 g.Blocks=(Ke 0 d.Flash.Blocks).filter λy=>y.Block !=b):
  ∃d',Cr g=some (d',true)/\d'.Flash=g/\G9 d' (r.filter λy=>y.Block !=b)/\AT d'.Store=AT d.Store/\d'.Store.Next=d.Store.Next/\d'.Base=d.Base/\∀c,DD (AT d.Store) c->BX (r.filter λy=>y.Block !=b) c=BX r c:=by
 have a:SR (Ke 0 g.Blocks) (r.filter λy=>y.Block !=b):=by rw[hp];exact h.dev.sr.filter _
 obtain⟨d',u1,u2,u3⟩:=Kx hg a
 have hs:=Uj r h.core.pages h.core.mu (λy=>y.Block !=b) (λy hy hk ht=>by
  have:y.Block≠b:=λe=>by
   have:=(hb y hy e).1 hk;rw[h.dev.base]at this;omega
  simpa using this)
 obtain⟨e1,e2,e3⟩:=GO h.dev u2 hs
 have ht:∀c,DD (AT d.Store) c->BX (r.filter λy=>y.Block !=b) c=BX r c:=λc hc=>by grind [lB,BX,K2]
 refine⟨d',u1,u3,⟨u2,h.core.filter _,?_,h.hist.filter h.core _⟩,e1,e2,e3,ht⟩;rw[e1];exact h.data.congr ht
def GT (id:Int):Nat->List Int->List Ch
 |_,[]=>[]
 |k,x::row=>(if x>0 then [Ch.mk 4 id k x]else [])++GT id (k+1) row
def Pc (p:Int×List Int):List Ch:=Ch.mk 2 p.1 0 0::GT p.1 0 p.2
def H1 (l:Vs) (nx:Int):List Ch:=Ch.mk 1 0 nx 0::l.flatMap Pc
theorem Pt (id x:Int):∀(k:Nat) (a:List Int),GT id k (a++ [x])=GT id k a++(if x>0 then [Ch.mk 4 id (k+a.length:Nat) x]else [])
 |k,[]=>by simp[GT]
 |k,y::a=>by
  rw[Cl,GT,Pt id x (k+1) a,GT,BA,AD,show k+1+a.length=k+(a.length+1) by omega]
theorem W1 (id:Int):∀(k:Nat) (a:List Int),(GT id k a).length<=a.length
 |_,[]=>A3 _
 |k,x::a=>by
  rw[GT,A9,AD];have:=W1 id (k+1) a
  grind
theorem fV (K:Ks) (r:Int):(Fc K r).length=16:=by unfold Fc;simp
theorem mD:∀(l:Vs),(∀p∈l,p.2.length=16)->(l.flatMap Pc).length<=17*l.length
 |[],_=>A3 _
 |p::l,h=>by
  have:=mD l λq hq=>h q<|by simp[hq]
  grind [W1,Pc]
theorem Pr (h:Cj s):KV s=some (H1 (AT s) s.Next):=by
 have hl:=h.len;unfold KV;obtain⟨b,h1,h2⟩:=AA (body:=λq:List Ch×Int=>Ef s q.1 q.2) (λ(o:List Ch) i=>(o,i)) s.Vols.length (λi o=>o=H1 ((AT s).take i) s.Next/\o.length<=1+17*i) (λo=>o=H1 (AT s) s.Next)
  (λo i hi ho=>by
   have hx:=Ab hi;have hr:=h.root _<|AB.2 ⟨s.Vols[i],Ar hi,rfl⟩;have et:(AT s).take (i+1)=(AT s).take i++ [(s.Vols[i].Id,Fc s.Arena.Knots s.Vols[i].Root)]:=by grind [D5,AT]
   simp only[Ef,DL hi,Ap,hx,Aa];rw[Bw (by simp;omega),Aa,Ni _ (by have:=h.few;omega) h.ar hr];simp only[Aa];obtain⟨u,u1,u2,u3⟩:=AA (body:=λq:List Ch×Int=>EH s (i:Int) (Fc s.Arena.Knots s.Vols[i].Root) q.1 q.2) (λ(l:List Ch) k=>(l,k)) (Fc s.Arena.Knots s.Vols[i].Root).length
    (λk u=>u=o++ [Ch.mk 2 s.Vols[i].Id 0 0]++GT s.Vols[i].Id 0 ((Fc s.Arena.Knots s.Vols[i].Root).take k)/\u.length<=o.length+1+k) (λu=>u=o++ [Ch.mk 2 s.Vols[i].Id 0 0]++GT s.Vols[i].Id 0 (Fc s.Arena.Knots s.Vols[i].Root)/\u.length<=o.length+17)
    (λu k hk hu=>by
     obtain⟨c,d⟩:=hu;have a:=Ab hk;have f:=fV s.Arena.Knots s.Vols[i].Root;have etk:=Af hk;simp only[EH,DL hk,Ap,a,hx,Aa];rw[ad1];refine .inl ?_;by_cases e:(Fc s.Arena.Knots s.Vols[i].Root)[k]>0
     ·rw[Ac e,Al,Bw (by simp;omega)]
      grind [Pt]
     grind [Pt])
    (λu hu=>⟨u,by rfl,by grind,by grind [fV]⟩) (s:=o++ [Ch.mk 2 s.Vols[i].Id 0 0]) ⟨by simp[GT],by simp⟩
   grind [ad1,H1,Pc])
  (λo ho=>⟨o,by simp[Dx,Ef],by grind [IW]⟩) (s:=[Ch.mk 1 0 s.Next 0]) ⟨rfl,by simp⟩
 grind
structure VsP (l:Vs) (nx:Int):Prop where
 len:l.length<=3
 nxt:1<=nx/\nx<=1000000000
 ids:∀p∈l,1<=p.1/\p.1<=9
 asc:l.Pairwise λp q=>p.1<q.1
 row:∀p∈l,p.2.length=16
 num:∀p∈l,∀x∈p.2,0<=x/\x<nx
theorem mN {r:Int} (hK:C7 K=true) (hr:Dh K r=true):∀x∈Fc K r,0<=x:=by grind [BH,FN,zI,Fc,Q4]
theorem Cj.vs (h:Cj s):VsP (AT s) s.Next:=by
 have mem:∀p∈AT s,∃v∈s.Vols,p=(v.Id,Fc s.Arena.Knots v.Root):=λp hp=>by
  obtain⟨v,hv,rfl⟩:=AB.1 hp
  grind
 refine⟨by rw[IW];exact h.len,h.nx,λp hp=>?_,?_,λp hp=>?_,λp hp x hx=>?_⟩
 ·obtain⟨v,hv,rfl⟩:=mem p hp;exact h.ids v hv
 ·have:=h.asc;unfold AT
  grind
 ·grind [fV]
 obtain⟨v,hv,rfl⟩:=mem p hp;have hm:v.Root∈Bk s:=AB.2 ⟨v,hv,rfl⟩;exact⟨mN h.ar (h.root _ hm) x hx,h.lt _ hm x hx⟩
theorem xY {id k x:Int} (h1:1<=id/\id<=9) (h2:0<=k/\k<16) (h3:1<=x/\x<=1000000000):FM (Ch.mk 4 id k x)=true:=by grind [FM]
theorem ACz {id a:Int} (h1:1<=id/\id<=9) (h2:0<=a/\a<=9):FM (Ch.mk 2 id a 0)=true:=by grind [FM]
theorem tU {P:Vs} {id:Int} {a:List Int} (h:∀p∈P,p.1<id) (k:Nat) (x:Int):tV (P++ [(id,a)]) id k x=P++ [(id,a.set k x)]:=by
 unfold tV;rw[Jp];congr 1
 ·conv=>rhs;rw[<-TL P]
  apply Ga
  grind
 simp
theorem kL {P:Vs} {id nx:Int} (hP:∀p∈P,p.1<id) (a:1<=id/\id<=9) (b:nx<=1000000000):∀(todo done:List Int),done.length+todo.length=16->(∀x∈todo,0<=x/\x<nx)->CG (P++ [(id,done++List.replicate todo.length 0)]) nx (GT id done.length todo)=some (P++ [(id,done++todo)],nx)
 |[],done,hl,hx=>by rfl
 |x::todo,done,hl,hx=>by
  have h1:=hx x (by simp);rw[AD]at hl;have ih:=kL hP a b todo (done++ [x]) (by simp;omega) (λy hy=>hx y<|by simp[hy]);rw[GT];have c:(done++List.replicate (todo.length+1) 0).set done.length x=done++ [x]++List.replicate todo.length 0:=by grind
  by_cases e:x>0
  ·rw[BE e,JM,Gy];have d:CQ (P++ [(id,done++List.replicate (x::todo).length 0)]) nx (Ch.mk 4 id done.length x)=some (P++ [(id,done++ [x]++List.replicate todo.length 0)],nx):=by
    unfold CQ;rw[xY a (by omega)<|by omega]
    grind [tU,C1,K3]
   grind
  grind
theorem uV {P:Vs} {id:Int} {a:List Int} (h:∀p∈P,p.1<id):pC P id a=P++ [(id,a)]:=by grind [Ev,B9,pC]
theorem bW (a:nx<=1000000000):∀(l P:Vs),(P++l).length<=3->(P++l).Pairwise (λp q=>p.1<q.1)->(∀p∈l,(1<=p.1/\p.1<=9)/\p.2.length=16/\∀x∈p.2,0<=x/\x<nx)->CG P nx (l.flatMap Pc)=some (P++l,nx)
 |[],P,_,_,_=>by simp[CG]
 |p::l,P,e,f,hall=>by
  obtain⟨h1,h2,h3⟩:=hall p<|by simp
  have c:∀q∈P,q.1<p.1:=λq hq=>by grind
  rw[List.flatMap_cons,L6];unfold Pc;rw[Gy];have d:CQ P nx (Ch.mk 2 p.1 0 0)=some (P++ [(p.1,SD)],nx):=by grind [ACz,uV,CQ,K3]
  rw[d];simp only[Aa];have hz:SD=[]++List.replicate p.2.length 0:=by rw[h2];rfl
  have b:=kL c h1 a p.2 [] (by simpa using h2) h3;rw[<-hz,Jq,A5]at b;rw[b];simp only[Aa];have hP:P++ [(p.1,p.2)]=P++ [p]:=rfl;have:=bW a l (P++ [p]) (by grind) (by grind) (λq hq=>hall q<|by simp[hq]);rw[hP,show(l.flatMap λp=>Ch.mk 2 p.1 0 0::GT p.1 0 p.2)=l.flatMap Pc from rfl,this,BA];rfl
theorem Wf (h:VsP l nx) (l0:Vs) (n0:Int):CG l0 n0 (H1 l nx)=some (l,nx):=by
 unfold H1;rw[Gy];have a:CQ l0 n0 (Ch.mk 1 0 nx 0)=some ([],nx):=by
  unfold CQ;have hb:FM (Ch.mk 1 0 nx 0)=true:=by
   have:=h.nxt
   grind [FM]
  rw[hb];have:=h.nxt
  grind
 rw[a];have:=bW h.nxt.2 l [] (by simpa using h.len) (by simpa using h.asc) λp hp=>⟨h.ids p hp,h.row p hp,h.num p hp⟩
 grind
theorem We (h:VsP l nx):(∀r∈H1 l nx,FM r=true)/\(H1 l nx).length<=1000:=by
 refine⟨λr hr=>?_,?_⟩
 ·
  cases hb:FM r with
  |true=>rfl
  |false=>
   exfalso;obtain⟨i,hi,rfl⟩:=Au hr;have h1:=Wf h [] 1;obtain⟨e1,e2⟩:=Jk<|Ab hi;rw[e1,L6]at h1
   cases hq:CG [] 1 ((H1 l nx).take i)with
   |none=>grind
   |some q=>grind [Gy,CQ]
 unfold H1;rw[AD];have:=mD l h.row;have:=h.len;omega
structure AEt (d d':Av):Prop where
 ab:AT d'.Store=AT d.Store
 nx:d'.Store.Next=d.Store.Next
theorem M2 (h:Fe d r) {steps:List AF} (hs:Steps d.Flash steps g) (hl:steps.length<=1048576) (hm:Cr g=some (d',true)):FU d steps=some d':=by
 unfold FU;rw[kG h.fl hs hl,Aa,hm];rfl
theorem Vg:∀{n:Int} {ps:List Page} {p:Page},GZ n ps->(∀q∈ps,q.Seq<p.Seq)->n<=p.Seq->GZ n (ps++ [p])
 |n,[],p,_,_,h=>⟨h,trivial⟩
 |n,q::ps,p,ha,hq,h=>⟨ha.1,Vg ha.2 (λx hx=>hq x (by simp[hx])) (by grind)⟩
def o5 (d:Av) (r:List Ak) (p:Page):Prop:=p.Kind=1/\DD (AT d.Store) p.Tx/\∃y,K2 r p.Tx=some y/\p.Text=y.Page.Text
theorem YA (h:Fe d r) {live:List Int} (hl:∀x,x∈live↔DD (AT d.Store) x) (hy:r[j]?=some y) (hn:(Co r live 1000000001)[j]?=some true):y.Page.Kind=1/\DD (AT d.Store) y.Page.Tx/\K2 r y.Page.Tx=some y:=by
 rw[OG r live _ hy]at hn
 injection hn with hn
 have a:=h.pages;have ht:=a.tx y<|Ao hy;have:CB 1000000001 y=false:=by
  unfold CB
  grind
 rw[this,Bool.false_or,EN]at hn;obtain⟨c,hc,b⟩:=hn;have e:Q5 c r r.length=some j:=by simpa using b
 have h1:=AAO e;rw[hy]at h1;obtain⟨_,k1,k2⟩:=Y9 h1
 grind
theorem aK (h:Fe d r) (k:r.length<=40) (b:Int):GG d b=some ([],false)\/∃steps ps g,GG d b=some (steps,true)/\FR d.Flash steps ps g/\AX g/\GZ d.Seq ps/\steps.length<=160/\(∀p∈ps,o5 d r p/\GH p)/\∀p∈ps,p.Seq<d.Seq+160:=by
 obtain⟨live,l1,l2,l3,l4⟩:=FV h.st;have l:1<=d.Seq/\d.Seq<=1000000001:=by
  rw[h.seq];have h1:=Mj r;refine⟨h1.2.1,h1.2.2 _ (by omega) λy hy=>?_⟩;have:=(h.pages.seq y hy).2;omega
 unfold GG;rw[h.scan.s,l1];simp only[Aa];rw[Jc r live _ h.scan.len l4];have m:live.foldl (aR r) (r.map<|CB 1000000001)=Co r live 1000000001:=rfl
 let I:Nat->(List AF×Int×List Block)->Prop:=λn o=>∃ps,FR d.Flash o.1 ps (Flash.mk o.2.2)/\AX (Flash.mk o.2.2)/\GZ d.Seq ps/\(∀p∈ps,p.Seq<o.2.1)/\d.Seq<=o.2.1/\o.2.1<=d.Seq+n/\o.1.length<=n/\∀p∈ps,o5 d r p/\GH p
 have I0:I (40*0) ([],d.Seq,d.Flash.Blocks):=by
  refine⟨[],rfl,h.fl,trivial,?_,?_,?_,?_,?_⟩
  ·grind
  ·exact K6 _
  ·grind
  ·exact A3 _
  grind
 obtain⟨a,h1,h2⟩:=AA (body:=λs:List AF×Int×Int×List Block=>EQ b r (Co r live 1000000001) s.1 s.2.1 s.2.2.1 s.2.2.2) (λ(o:List AF×Int×List Block) i=>(o.1,o.2.1,i,o.2.2)) 4
  (λi o=>I (40*i) o) (λa=>a= .inr ([],false)\/∃steps sq bl,a= .inl steps/\I 160 (steps,sq,bl))
  (λo i hi ho=>by
   simp only[EQ];rw[cT];obtain⟨q,q1,q2⟩:=AA (body:=λs:List AF×Int×Int×List Block=>Em b r (Co r live 1000000001) (i:Int) s.1 s.2.1 s.2.2.1 s.2.2.2) (λ(o:List AF×Int×List Block) j=>(o.1,o.2.1,j,o.2.2)) r.length
    (λj o=>I (40*i+j) o) (λq=>q= .inr (.inr<|.inr ([],false))\/∃o,q= .inl o/\I (40*i+40) o)
    (λo j hj hs=>by
     obtain⟨ss,sq,bl⟩:=o;obtain⟨ps,p1,p2,p3,p4,p5,p6,p7,p8⟩:=hs;simp only at p1 p2 p4 p5 p6 p7;have hx:=Ab hj;have e:j<(Co r live 1000000001).length:=by grind [JA]
     have c:=Ab e;simp only[Em,DL hj,Ap,hx,c,Aa];rw[ad1];have skip:I (40*i+(j+1)) (ss,sq,bl):=⟨ps,p1,p2,p3,p4,p5,by show sq<=_;omega,by grind,p8⟩
     cases f:(Co r live 1000000001)[j]with
     |false=>
      exact .inl ⟨(ss,sq,bl),rfl,skip⟩
     |true=>
      simp only[An,Ad]
      cases hb:(r[j].Block !=b)with
      |true=>
       exact .inl ⟨(ss,sq,bl),rfl,skip⟩
      |false=>
       simp only[Ad,Aa]
       cases t:(r[j].Leaf !=(i:Int))with
       |true=>
        exact .inl ⟨(ss,sq,bl),rfl,skip⟩
       |false=>
        obtain⟨m1,m2,m3⟩:=YA h l3 hx<|by rw[c,f]
        rcases yD p2 p1 (by omega) (Page.mk r[j].Page.Kind sq r[j].Page.Tx r[j].Page.Part r[j].Page.Count r[j].Page.Text)with⟨s,g',w1,w2,w3,w4,_⟩|w
        ·rw[w1];simp only[Aa,An,Ad];rw[Bh,A9,Db,BL,show((ss.length+1:Nat):Int)-1=(ss.length:Int) by omega,EI];simp only[Aa]
         cases u:(s.Block==b)with
         |true=>simp
         |false=>
          rw[BZ];refine .inl ⟨(ss++ [s],sq+1,g'.Blocks),rfl,_,w2,w3,Vg p3 (λq hq=>p4 q hq) p5,λp hp=>?_,by grind,by grind,by simp;omega,λp hp=>?_⟩
          ·grind
          rw[Az,B8]at hp
          rcases hp with hp|rfl
          ·exact p8 p hp
          exact⟨⟨m1,m2,_,m3,rfl⟩,w4⟩
        grind)
    (λo hs=>⟨.inl (o.1,o.2.1,o.2.2),by simp[Dx,Em],.inr ⟨o,rfl,by grind⟩⟩) (s:=o) (by omega)
   rw[q1]
   rcases q2 with rfl|⟨o',rfl,q2⟩
   ·simp
   grind [ad1])
  (λo ho=>⟨.inl o.1,by rfl,.inr ⟨o.1,o.2.1,o.2.2,rfl,ho⟩⟩) (s:=([],d.Seq,d.Flash.Blocks)) I0
 grind
theorem yY (h:G9 d r) {steps:List AF} (hp:FR d.Flash steps ps g) (ha:GZ d.Seq ps) (hl:steps.length<=160) (hm:∀p∈ps,o5 d r p/\GH p) (k:Nat):
  ∃m d',Steps d.Flash (steps.take k) m/\AX m/\Cr m=some (d',true)/\d'.Flash=m/\G9 d' (r++(Ce steps ps).take k)/\AEt d d'/\d'.Base=d.Base/\XM d.Flash m/\∀c,DD (AT d.Store) c->BX (r++(Ce steps ps).take k) c=BX r c:=by
 have b:=(DJ hp).2;have u:=h.few
 have e:∀y∈r,y.Page.Seq<d.Seq:=λy hy=>by rw[h.dev.seq];simp_all [Mj]
 obtain⟨m,a⟩:=TC k hp;have f:=XG h.dev.fl (DJ a).1;have ascT:∀(ps:List Page) (n:Int) (k:Nat),GZ n ps->GZ n (ps.take k):=by
  intro ps
  induction ps with
  |nil=>grind
  |cons p ps ih=>
   intro n k ha
   cases k with
   |zero=>trivial
   |succ k=>exact⟨ha.1,ih _ k ha.2⟩
 have l:=ZM h.dev.fl h.dev.sr a e<|ascT _ _ k ha;rw[WC]at l;obtain⟨d',u1,u2,u3⟩:=Kx f l;have v:=Zm b;have ascG:∀(ps:List Page) (n:Int) (i:Nat) (p:Page),GZ n ps->ps[i]?=some p->n<=p.Seq/\∀j q,j<i->ps[j]?=some q->q.Seq<p.Seq:=by
  intro ps
  induction ps with
  |nil=>grind
  |cons x ps ih=>
   intro n i p ha hp
   cases i with
   |zero=>
    simp only[MS,Ay]at hp;rw[<-hp];exact⟨ha.1,λj q hj=>by omega⟩
   |succ i=>
    obtain⟨i1,i2⟩:=ih _ i p ha.2 (by simpa using hp);have:=ha.1;refine⟨by omega,λj q hj hq=>?_⟩
    grind
 have main:∀n,n<=(Ce steps ps).length->I7 (r++(Ce steps ps).take n)/\G3 (r++(Ce steps ps).take n) (DD<|AT d.Store)/\A6 (r++(Ce steps ps).take n)=A6 r/\∀c,DD (AT d.Store) c->BX (r++(Ce steps ps).take n) c=BX r c:=by
  intro n
  induction n with
  |zero=>intro _;rw[bN,AO];exact⟨h.core,h.data,rfl,λ_ _=>rfl⟩
  |succ n ih=>
   intro hn;obtain⟨i1,i2,i3,i4⟩:=ih (by omega);have hx:(Ce steps ps)[n]?=some (Ce steps ps)[n]:=Ab (by omega);have o:=Nu hx;obtain⟨⟨m1,m2,y,m3,m4⟩,m5⟩:=hm _<|Ao o;obtain⟨a1,a2⟩:=ascG ps d.Seq n _ ha o;rw[Af (by omega),<-BA];have w:Vq (Ce steps ps)[n].Page.Text=BX r (Ce steps ps)[n].Page.Tx:=by grind [BX]
   have s:CT (r++(Ce steps ps).take n)<=(Ce steps ps)[n].Page.Seq:=by
    refine(Mj _).2.2 _ (m5.2.1.1) (λz hz=>?_)
    rcases Az.1 hz with hz|hz
    ·grind
    obtain⟨j,hj,rfl⟩:=Au hz;rw[I2]at hj;rw[List.getElem_take];exact a2 j _ (by omega)<|Nu<|Ab<|by omega
   refine⟨I7.add i1 (by simp;omega) m5 s (λhh=>by omega),nN i2 (by grind),by grind [WB],λc hc=>?_⟩
   grind [OF,BX]
 have t:I7 (r++(Ce steps ps).take k)/\G3 (r++(Ce steps ps).take k) (DD<|AT d.Store)/\A6 (r++(Ce steps ps).take k)=A6 r/\∀c,DD (AT d.Store) c->BX (r++(Ce steps ps).take k) c=BX r c:=by grind [Ce]
 obtain⟨k1,k2,k3,k4⟩:=t;obtain⟨e1,e2,e3⟩:=GO h.dev u2<|by rw[k3]
 exact⟨m,d',(DJ a).1,f,u1,u3,⟨u2,k1,by rw[e1];exact k2,h.hist.more k3 λy hy h0=>by
  rcases Az.1 hy with hh|hh
  ·exact .inl hh
  have:=(hm _<|HO _ _ _ y hh).1.1
  omega⟩,⟨e1,e2⟩,e3,λ_=>TB a,k4⟩
theorem Qq (h:Fe d r) {live:List Int} (hl:live.length<=16777216) (t:ByteArray):∃v,HL d.Flash live t=some v/\((v=0/\∀c∈live,BX r c≠some t)\/(v∈live/\BX r v=some t)):=by
 have hr:=h.pages;unfold HL RU;rw[h.scan.s];obtain⟨b,h1,h2⟩:=AA (body:=λs:Int=>E9 r live t s) (λ(_:Unit) i=>i) live.length (λi _=>∀c∈live.take i,BX r c≠some t) (λb=>(b= .inl ()/\∀c∈live,BX r c≠some t)\/∃v,b= .inr v/\v∈live/\BX r v=some t)
  (λ_ i hi hs=>by
   have hx:=Ab hi;simp only[E9,DL hi,Ap,hx,Aa];obtain⟨u,ok,k1,k2⟩:=jZ hr live[i];rw[k1,Aa,ad1]
   have no:BX r live[i]≠some t->∀c∈live.take (i+1),BX r c≠some t:=λa c hc=>by grind [Af]
   cases ok with
   |false=>simp_all
   |true=>
    cases e:seq u t with
    |true=>grind [KJ]
    |false=>simp_all [KJ])
  (λ_ hs=>⟨_,by simp[Dx,E9],.inl ⟨rfl,by grind⟩⟩) (s:=()) (by simp)
 grind
structure ADd (q:Oz):Prop where
 kind:1<=q.Kind/\q.Kind<=6
 vol:1<=q.Vol/\q.Vol<=9
 text:(L q.Text).length<=64
 sec:0<=q.Sector/\q.Sector<=15
 of_:0<=q.Of/\q.Of<=9
 cl:q.Kind=4->1<=q.Of
 no:q.Kind≠4->q.Of=0
 tx:q.Kind≠1->L q.Text=[]
theorem V4 (q:Oz):∃v,Ka q=some v/\(v=true->ADd q):=by
 unfold Ka;simp only[DV,Aa];by_cases h1:1<=q.Kind/\q.Kind<=6
 ·rw[Ac h1];by_cases h2:1<=q.Vol/\q.Vol<=9
  ·rw[Ac h2];by_cases h3:GA q.Text>64
   ·simp_all
   rw[Ah h3];rw[Bo]at h3;simp only[An,Ad];have ht:(cond (q.Kind !=1) (some<|!(seq q.Text<|bs [])) (some false):Option Bool)=some (decide<|q.Kind≠1/\L q.Text≠ []):=by grind [Qu,DH]
   rw[ht];simp only[Aa];by_cases h4:q.Kind≠1/\L q.Text≠ []
   ·grind
   rw[Ah h4]
   have a:q.Kind≠1->L q.Text=[]:=λhk=>Classical.byContradiction λhh=>h4 ⟨hk,hh⟩
   by_cases h5:q.Kind=4
   ·rw[show(q.Kind==4)=true by simpa using h5];by_cases h6:q.Sector=0
    ·rw[show(q.Sector==0)=true by simpa using h6];refine⟨_,rfl,λhh=>?_⟩;rw[AZ]at hh;exact⟨h1,h2,by omega,by omega,by omega,λ_=>hh.1,λhk=>absurd h5 hk,a⟩
    grind
   rw[show(q.Kind==4)=false by simpa using h5];by_cases h6:q.Of=0
   ·rw[show(q.Of !=0)=false by simp[h6]];by_cases h7:q.Kind=3\/q.Kind=5
    ·have:(cond (q.Kind==3) (some true) (some<|q.Kind==5):Option Bool)=some true:=by grind
     rw[this];refine⟨_,rfl,λhh=>?_⟩;rw[G5]at hh;exact⟨h1,h2,by omega,by omega,by omega,λhk=>absurd hk h5,λ_=>h6,a⟩
    have:(cond (q.Kind==3) (some true) (some<|q.Kind==5):Option Bool)=some false:=by grind
    rw[this];refine⟨_,rfl,λhh=>?_⟩;rw[AZ]at hh;exact⟨h1,h2,by omega,hh,by omega,λhk=>absurd hk h5,λ_=>h6,a⟩
   grind
  simp_all [Ah]
 simp_all [Ah]
def sF (d:Av) (r:List Ak) (q:Oz) (x:Ch) (a:ByteArray):Prop:=FM x=true/\x.Kind≠1/\x.Vol=q.Vol/\((L a=[]/\(x.Kind=4->DD (AT d.Store) x.Chunk/\BX r x.Chunk=some q.Text))\/(x.Kind=4/\x.Chunk=d.Store.Next/\L a≠ []/\Vq a=some q.Text/\∀c,DD (AT d.Store) c->BX r c≠some q.Text))
theorem Vi (h:Fe d r) (q:Oz):∃a text no,DQ d q=some (a,text,no)/\((a=[]/\text=bs [])\/(no=0/\∃x,a=[x]/\sF d r q x text))/\(no≠0->a=[]):=by
 have i:=h.st.len;have b:=h.st.nx;obtain⟨v,a1,a2⟩:=V4 q;unfold DQ;rw[a1];simp only[Aa]
 cases v with
 |false=>exact⟨_,_,_,rfl,.inl ⟨rfl,rfl⟩,λ_=>rfl⟩
 |true=>
  have hq:=a2 rfl;simp only[An,Ad];obtain⟨w,hw⟩:∃w,CN d.Store q.Vol=some w:=by
   rcases Ex d.Store (by omega) q.Vol with⟨e,_⟩|⟨k,_,e,_⟩<;>exact⟨_,e⟩
  rw[hw];by_cases h34:q.Kind=3\/q.Kind=4
  ·have:(cond (q.Kind==3) (some true) (some<|q.Kind==4):Option Bool)=some true:=by grind
   rw[this];simp only[Aa,Al]
   cases decide (w>=0)with
   |true=>grind
   |false=>
    obtain⟨j2,g⟩:∃j2,(cond (q.Kind==4) ((CN d.Store q.Of).bind λv3=>some<|decide<|v3<0) (some false):Option Bool)=some j2:=by grind [Ex]
    rw[g];simp only[Aa]
    cases j2 with
    |true=>grind
    |false=>
     cases decide (ln d.Store.Vols>=3)with
     |true=>grind
     |false=>
      refine⟨_,_,_,rfl,.inr ⟨rfl,_,rfl,ACz hq.vol hq.of_,by simp,rfl,.inl ⟨DH _,λhh=>by simp at hh⟩⟩,λhh=>absurd rfl hh⟩
  have:(cond (q.Kind==3) (some true) (some<|q.Kind==4):Option Bool)=some false:=by grind
  rw[this];simp only[Aa,Ad]
  cases decide (w>=0)with
  |false=>exact⟨_,_,_,rfl,.inl ⟨rfl,rfl⟩,λ_=>rfl⟩
  |true=>
   simp only[An,Ad]
   cases k1:(q.Kind==1)with
   |true=>
    obtain⟨live,l1,l2,l3,l4⟩:=FV h.st;obtain⟨c,f1,f2⟩:=Qq h l4 q.Text;rw[l1,Aa,f1];simp only[Aa]
    rcases f2 with⟨rfl,f2⟩|⟨f2,f3⟩
    ·obtain⟨z,z1,z2,z3⟩:=m6 q.Text hq.text;rw[show((0:Int)==0)=true from rfl,z1];refine⟨_,_,_,rfl,.inr ⟨rfl,_,rfl,xY hq.vol (by have:=hq.sec;omega) ⟨b.1,b.2⟩,by simp,rfl,.inr ⟨rfl,rfl,?_,?_,λc hc=>f2 c<|(l3 c).2 hc⟩⟩,λhh=>absurd rfl hh⟩
     ·grind
     grind [Vq]
    have f:=(l3 c).1 f2;have j:=X1 h.st f;rw[show(c==0)=false by grind];refine⟨_,_,_,rfl,.inr ⟨rfl,_,rfl,xY hq.vol (by have:=hq.sec;omega) (by omega),by simp,rfl,.inl ⟨DH _,λ_=>⟨f,f3⟩⟩⟩,λhh=>absurd rfl hh⟩
   |false=>
    cases k2:(q.Kind==2)with
    |true=>
     refine⟨_,_,_,rfl,.inr ⟨rfl,_,rfl,?_,by simp,rfl,.inl ⟨DH _,λhh=>by simp at hh⟩⟩,λhh=>absurd rfl hh⟩;have:=hq.vol;have:=hq.sec
     grind [FM]
    |false=>
     cases k5:(q.Kind==5)with
     |true=>
      refine⟨_,_,_,rfl,.inr ⟨rfl,_,rfl,?_,by simp,rfl,.inl ⟨DH _,λhh=>by simp at hh⟩⟩,λhh=>absurd rfl hh⟩;have:=hq.vol
      grind [FM]
     |false=>grind
theorem mF (h:CQ l nx x=some (l',nx')) (hk:x.Kind≠1):(∀c,DD l' c->DD l c\/c=x.Chunk)/\nx<=nx'/\nx'<=max nx (x.Chunk+1):=by
 unfold CQ at h;split at h
 ·cases h
 split at h
 ·split at h
  ·cases h
  injection h with h
  injection h with h1 h2
  subst h1 h2;refine⟨λc hc=>?_,by omega,by omega⟩;obtain⟨h0,p,hp,hx⟩:=hc;unfold pC at hp;simp only[Az,AG,B8]at hp
  rcases hp with(hp|rfl)|hp
  ·exact .inl ⟨h0,p,hp.1,hx⟩
  ·have zz:c∉SD:=λhz=>by have:=EW hz;omega
   split at hx
   ·cases hg:K3 l x.Arg with
    |none=>grind
    |some row=>
     rw[hg]at hx;obtain⟨w,a,d⟩:=AH.1 hg;have b:=List.mem_of_find?_eq_some a;exact .inl ⟨h0,w,b,by grind⟩
   exact absurd hx zz
  exact .inl ⟨h0,p,hp.1,hx⟩
 split at h
 ·cases h
 split at h
 ·injection h with h
  injection h with h1 h2
  subst h1 h2;refine⟨λc hc=>?_,by omega,by omega⟩;obtain⟨h0,p,hp,hx⟩:=hc;exact .inl ⟨h0,p,(AG.1 hp).1,hx⟩
 injection h with h
 injection h with h1 h2
 subst h1 h2;refine⟨λc hc=>?_,by omega,by omega⟩;obtain⟨h0,p,hp,hx⟩:=hc;obtain⟨w,hw,rfl⟩:=AB.1 hp;split at hx
 ·rcases Cx hx with hx|hx
  ·exact .inl ⟨h0,w,hw,hx⟩
  exact .inr hx
 exact .inl ⟨h0,w,hw,hx⟩
theorem Zv (h:CQ l nx x=some (l',nx')) (hk:x.Kind≠1):∀p∈l',(∃p'∈l,p'.1=p.1)\/p.1=x.Vol:=by
 unfold CQ at h;split at h
 ·cases h
 split at h
 ·grind [pC]
 split at h
 ·cases h
 split at h
 ·injection h with h
  injection h with h1 h2
  subst h1 h2
  exact λp hp=> .inl ⟨p,(AG.1 hp).1,rfl⟩
 grind [tV]
theorem ZX (h:Fe d r):∃v,H7 d=some v:=by
 have hr:=h.pages;unfold H7
 cases(d.Base !=sb d.Tx 1)with
 |true=>exact⟨_,rfl⟩
 |false=>
  rw[h.scan.s,Aa,LK r hr];simp only[Aa];obtain⟨g1,_⟩:=Qd hr;obtain⟨b,h1,_⟩:=AA (body:=λs:Int=>D4 d (A6 r) s) (λ(_:Unit) i=>i) (A6 r).length (λ_ _=>True) (λ_=>True)
   (λ_ i hi _=>by
    have hx:=Ab hi;simp only[D4,DL hi,Ap,hx,Aa];rw[ad1]
    cases((A6 r)[i].Num==d.Base)with
    |false=>simp
    |true=>
     cases a:(A6 r)[i].Recs with
     |nil=>exact .inr ⟨_,rfl,trivial⟩
     |cons q m=>grind [gi])
   (λ_ _=>⟨.inl (),by simp[Dx,D4],trivial⟩) (s:=()) trivial
  rw[h1]
  cases b with
  |inl u=>exact⟨_,rfl⟩
  |inr v=>exact⟨v,rfl⟩
theorem aC (h:Fe d r):∃v,HE d=some v:=by
 have hn:=h.fl.n;obtain⟨live,l1,_,_,l4⟩:=FV h.st;unfold HE;rw[h.scan.s,l1];simp only[Aa];rw[Jc r live d.Base h.scan.len l4,Jc r live 1000000000 h.scan.len l4]
 have a:∀b,live.foldl (aR r) (r.map<|CB b)=Co r live b:=λ_=>rfl
 rw[a,a];obtain⟨b,h1,_⟩:=AA (body:=λs:Int×Int×Int=>C3 d r (Co r live d.Base) (Co r live 1000000000) s.1 s.2.1 s.2.2) (λ(o:Int×Int) i=>(o.1,o.2,i)) d.Flash.Blocks.length (λ_ _=>True) (λ_=>True)
  (λo i hi _=>by
   have hx:=Ab hi;have hP:=h.fl.blk _<|Ar hi;simp only[C3,DL hi,Ap,hx,Aa];rw[SH r _ (i:Int) h.scan.len<|JA _ _ _,SH r _ (i:Int) h.scan.len<|JA _ _ _,HK _ hP.four,ad1];simp only[Aa,Kz]
   cases(bif !d.Flash.Blocks[i].Bad then _ else false)with
   |true=>simp
   |false=>grind)
  (λo _=>⟨o.1,by simp[Dx,C3],trivial⟩) (s:=(-1,4)) trivial
 grind
theorem Fe.seqs (h:Fe d r):0<=d.Seq/\d.Seq<=1000000001:=by
 rw[h.seq];have h1:=Mj r;refine⟨by omega,h1.2.2 _ (by omega) λy hy=>?_⟩;have:=(h.pages.seq y hy).2;omega
theorem eW (h:∀y∈r',y.Page.Kind=2->y.Page.Tx<Dy r+n):Dy r'<=Dy r+n:=(Hs r').2.2 _ (by have:=(Hs r).2.1;omega) h
theorem Xo (n:Nat) (hy:y∈r) (hk:y.Page.Kind=2):y.Page.Tx<Dy r+n:=by have:=(Hs r).1 y hy hk;omega
theorem VA {seq tx:Int} (h:p∈Bz seq tx T):p.Tx=tx:=by grind [Bz]
theorem e8 (h:∀y∈r',y.Page.Seq<CT r+n):CT r'<=CT r+n:=(Mj r').2.2 _ (by have:=(Mj r).2.1;omega) h
theorem Xq (n:Nat) (hy:y∈r):y.Page.Seq<CT r+n:=by have:=(Mj r).1 y hy;omega
theorem oV {seq tx:Int} (h:p∈Bz seq tx T):p.Seq<seq+T.length:=by grind [Bz]
theorem bU {a:ByteArray} (h:p∈Cg d c a++Bz (Fi d a) d.Tx T):p.Seq<d.Seq+1+T.length:=by
 rcases Az.1 h with h|h
 ·grind [Cg]
 have h1:=oV h
 grind [Fi]
theorem NS {seq tx:Int} (h:p∈Bz seq tx T):p.Kind=2:=by grind [Bz]
def ACp (m:Flash) (s:AF) (g:Flash):Prop:=AX g/\XM m g/\((s.Kind=1/\Ke 0 g.Blocks=Ke 0 m.Blocks)\/(s.Kind=2/\Ke 0 g.Blocks=(Ke 0 m.Blocks).filter λy=>y.Block !=s.Block))
def Zx (f:Flash) (ss:List AF) (k:Nat) (g:Flash):Prop:=∃m,Steps f (ss.take k) m/\(g=m\/∃s,ss[k]?=some s/\Th m s/\ACp m s g)
theorem Ll:∀{f:Flash} {a:List AF} {g m:Flash},Steps f a g->Steps f a m->g=m
 |f,[],g,m,h,k=>by rw[show g=f from h,show m=f from k]
 |f,s::a,g,m,h,k=>Ll h.2 k.2
theorem eD {m:Flash} {b:List AF} (h:Zx f (a++b) k g) (hs:Steps f a m):(k<a.length/\Zx f a k g)\/(a.length<=k/\Zx m b (k-a.length) g):=by
 obtain⟨x,h1,h2⟩:=h;by_cases e:k<a.length
 ·left;rw[List.take_append_of_le_length<|by omega]at h1;rw[L8 e]at h2;exact⟨e,x,h1,h2⟩
 right;rw[List.take_append,AQ<|by omega]at h1;rw[Dt<|by omega]at h2;obtain⟨y,y1,y2⟩:=(MR _ _ _ _).1 h1;rw[Ll y1 hs]at y2;exact⟨by omega,x,y2,h2⟩
structure G8 (n:Nat) (d:Av) (r:List Ak) (d':Av) (r':List Ak):Prop where
 good:G9 d' r'
 ab:AT d'.Store=AT d.Store
 nx:d'.Store.Next=d.Store.Next
 pg:∀y∈r',y.Page.Kind=1->∃z∈r,z.Page.Kind=1/\z.Page.Tx=y.Page.Tx/\z.Page.Text=y.Page.Text
 tx:Dy r'<=Dy r+n
 wear:∀w:Int,DW d.Flash w->DW d'.Flash (w+n)
 text:∀c,DD (AT d.Store) c->BX r' c=BX r c
 sq:CT r'<=CT r+200*n
structure As (d:Av) (r:List Ak) (d':Av) (r':List Ak):Prop where
 good:G9 d' r'
 ab:AT d'.Store=AT d.Store
 nx:d'.Store.Next=d.Store.Next
 tx:Dy r'<=Dy r+1
 wear:∀w:Int,DW d.Flash w->DW d'.Flash (w+1)
 text:∀c,DD (AT d.Store) c->BX r' c=BX r c
theorem As.torn {a b:List Ak} (h:As d a e b) (hg:AX g) (hp:Ke 0 g.Blocks=Ke 0 e.Flash.Blocks) (hw:XM e.Flash g):∃x,Cr g=some (x,true)/\x.Flash=g/\As d a x b:=by
 obtain⟨x,u1,u2,u3⟩:=Kx hg (r:=b) (by rw[hp];exact h.good.dev.sr);obtain⟨e1,e2,_⟩:=GO h.good.dev u2 rfl;exact⟨x,u1,u3,⟨⟨u2,h.good.core,by rw[e1];exact h.good.data,h.good.hist⟩,by rw[e1,h.ab],by rw[e2,h.nx],h.tx,λw hh=>by rw[u3];exact hw _<|h.wear w hh,h.text⟩⟩
theorem Xl (h:XM f g) (w:Int) (hw:DW f w):DW g (w+n):=λb hb=>by have:=h w hw b hb;omega
theorem G8.refl (h:G9 d r):G8 n d r d r:=⟨h,rfl,rfl,λy hy hk=>⟨y,hy,hk,rfl,rfl⟩,by omega,Xl λ_ h=>h,λ_ _=>rfl,by omega⟩
theorem G8.trans {g:Av} {a b c:List Ak} (h:G8 n d a e b) (k:G8 m e b g c):G8 (n+m) d a g c:=⟨k.good,by rw[k.ab,h.ab],by rw[k.nx,h.nx],λy hy hk=>by
 obtain⟨z,z1,z2,z3,z4⟩:=k.pg y hy hk;obtain⟨w,w1,w2,w3,w4⟩:=h.pg z z1 z2
 grind,by have:=h.tx;have:=k.tx;omega,λw hw=>by
 have:=k.wear _<|h.wear w hw
 grind,λc hc=>by rw[k.text c (by rw[h.ab];exact hc),h.text c hc],by have:=h.sq;have:=k.sq;omega⟩
theorem G8.mono {a b:List Ak} (h:G8 n d a e b) (hm:n<=m):G8 m d a e b:={h with
 tx:=by have:=h.tx;omega
 wear:=λw hw x hx=>by have:=h.wear w hw x hx;omega
 sq:=by have:=h.sq;omega}
theorem G8.torn {a b:List Ak} (h:G8 n d a e b) (hg:AX g) (hp:Ke 0 g.Blocks=Ke 0 e.Flash.Blocks) (hw:XM e.Flash g):∃x,Cr g=some (x,true)/\x.Flash=g/\G8 n d a x b:=by
 obtain⟨x,u1,u2,u3⟩:=Kx hg (r:=b) (by rw[hp];exact h.good.dev.sr);obtain⟨e1,e2,_⟩:=GO h.good.dev u2 rfl;exact⟨x,u1,u3,⟨⟨u2,h.good.core,by rw[e1];exact h.good.data,h.good.hist⟩,by rw[e1,h.ab],by rw[e2,h.nx],h.pg,h.tx,λw hh=>by rw[u3];exact hw _<|h.wear w hh,h.text,h.sq⟩⟩
def KD (n:Nat) (d:Av) (r:List Ak) (steps:List AF):Prop:=(∃m,Steps d.Flash steps m)/\∀k g,k<=steps.length->Zx d.Flash steps k g->∃x rx,Cr g=some (x,true)/\x.Flash=g/\G8 n d r x rx
theorem dC {steps:List AF} (h1:∀s∈steps,s.Kind=1) (hc:∀k,k<=steps.length->∃x rx,Steps d.Flash (steps.take k) x.Flash/\Cr x.Flash=some (x,true)/\G8 n d r x rx):KD n d r steps:=by
 refine⟨?_,λk g hk hg=>?_⟩
 ·obtain⟨x,rx,c1,_⟩:=hc steps.length (A3 _)
  grind
 obtain⟨x,rx,c1,c2,c3⟩:=hc k hk;obtain⟨m,m1,m2⟩:=hg;have:=Ll m1 c1;subst this
 rcases m2 with rfl|⟨s,s1,_,s2,s3,⟨_,s4⟩|⟨s4,_⟩⟩
 ·grind
 ·obtain⟨y,y1,y2,y3⟩:=c3.torn s2 s4 s3
  grind
 grind
theorem KD.full {steps:List AF} (h:G9 d r) (hc:KD n d r steps) (hl:steps.length<=1000000):∃x rx,FU d steps=some x/\Steps d.Flash steps x.Flash/\G8 n d r x rx:=by
 obtain⟨⟨m,hm⟩,hk⟩:=hc;obtain⟨x,rx,x1,x2,x3⟩:=hk steps.length m (A3 _) ⟨m,by grind,.inl rfl⟩;exact⟨x,rx,M2 h.dev hm (by omega) x1,by rw[x2];exact hm,x3⟩
theorem vP {re:List Ak} {b:List AF} (hk:G8 n d r e re) (hs:Steps d.Flash a e.Flash) (ha:KD n d r a) (hb:KD m e re b):KD (n+m) d r (a++b):=by
 refine⟨?_,λk g c hg=>?_⟩
 ·obtain⟨x,hx⟩:=hb.1;simp_all [MR];grind
 rw[A9]at c
 rcases eD hg hs with⟨e1,e2⟩|⟨e1,e2⟩
 ·obtain⟨x,rx,x1,x2,x3⟩:=ha.2 k g (by omega) e2;exact⟨x,rx,x1,x2,x3.mono<|by omega⟩
 obtain⟨x,rx,x1,x2,x3⟩:=hb.2 _ g (by omega) e2;exact⟨x,rx,x1,x2,hk.trans x3⟩
theorem Y8 (r m:List Ak) (c:Int) (h:∀y∈m,¬(y.Page.Kind=1/\y.Page.Tx=c)):K2 (r++m) c=K2 r c:=by grind [UL,K2]
theorem TG (h:G9 d r) (hw:DW d.Flash 999999999):∃steps ok,GS d=some (steps,ok)/\steps.length<=200/\(ok=false->steps=[])/\(ok=true->KD 1 d r steps):=by
 have hv:=h.dev.st.vs;obtain⟨dead,d1,d2,d3⟩:=QW h.dev;unfold GS;rw[d1];simp only[Aa]
 cases hd:dead with
 |cons b m=>
  rw[Ac (by grind [Bh]:ln (b::m)>0),show gi (b::m) 0=some b from Ap (i:=0)];refine⟨_,_,rfl,by simp,(λhh=>by cases hh),λ_=>?_⟩;obtain⟨x,x1,x2,x3⟩:=d3 b (by rw[hd];simp);have hc:vI d.Flash b:=⟨x,x1,x2,λe=>by have:=hw x<|Ao (C0 x1).2;omega⟩;have hs:Th d.Flash (AF.mk 2 b 0<|bs []):= .inr ⟨rfl,hc⟩;obtain⟨w1,w2⟩:=QG h.dev.fl hc;have he:JP d.Flash (AF.mk 2 b 0<|bs [])=Qr d.Flash b:=by rfl
  have wp:∀g,AX g->Ke 0 g.Blocks=((Ke 0 d.Flash.Blocks).filter λy=>y.Block !=b)->(∀w:Int,DW d.Flash w->DW g (w+1))->∃x rx,Cr g=some (x,true)/\x.Flash=g/\G8 1 d r x rx:=by
   intro g g1 g2 g3;obtain⟨d',u1,u2,u3,u4,u5,_,u6⟩:=AAJ h x3 g1 g2;exact⟨d',_,u1,u2,u3,u4,u5,λy hy hk=>⟨y,(AG.1 hy).1,hk,rfl,rfl⟩,eW λy hy hk=>Xo _ (AG.1 hy).1 hk,by rw[u2];exact g3,u6,e8 (n:=200*1) λy hy=>Xq _ (AG.1 hy).1⟩
  refine⟨⟨_,hs,rfl⟩,λk g hk hg=>?_⟩;obtain⟨q,q1,q2⟩:=hg
  cases k with
  |zero=>
   rw[show q=d.Flash from q1]at q2
   rcases q2 with rfl|⟨s,s1,_,s2,s3,⟨s4,_⟩|⟨_,s4⟩⟩
   ·obtain⟨x,u1,u2,u3⟩:=(G8.refl (n:=1) h).torn h.dev.fl rfl λ_ hh=>hh
    grind
   ·grind
   simp only[MS,Ay]at s1;rw[<-s1]at s4
   exact wp g s2 s4 λw hh y hy=>by have:=s3 w hh y hy;omega
  |succ k=>grind [cE,Steps]
 |nil=>
  rw[show decide (ln ([]:List Int)>0)=false from rfl];obtain⟨v,v1⟩:=ZX h.dev;rw[v1];simp only[Aa]
  cases v with
  |false=>
   unfold J7;rw[Pr h.dev.st];simp only[Aa];obtain⟨b1,b2⟩:=We hv
   rcases MD h.dev.fl h.dev.seqs (H1 (AT d.Store) d.Store.Next) (by unfold H1;simp) b2 b1 (bs [])with w|⟨steps,T,g,f,w1,w2,w3,w4,w5,w6,w7,w8,w9,wT⟩
   ·grind
   rw[w2];simp only[Aa];have l:=(DJ w7).2;have o:(Bz (Fi d<|bs []) d.Tx T).length=T.length:=by unfold Bz;grind
   have p:Cg d f.Chunk (bs [])=[]:=by rfl
   rw[p,A5,o]at l;refine⟨_,_,rfl,by omega,(λhh=>by cases hh),λ_=>dC (Qo w7) λk hk=>?_⟩;obtain⟨m,d',r',c1,c2,c3,c4,c5,rfl,cw,c6,c7,c8,c9⟩:=RL h b1 w3 w4 w5 w6 w7 w9 (λhh=>absurd (DH _) hh) k hk
   have a:∀q,Jj [Tx.mk d.Tx q<|H1 (AT d.Store) d.Store.Next]=(AT d.Store,d.Store.Next):=λq=>by
    show(CG [] 1<|H1 (AT d.Store) d.Store.Next).getD ([],1)=_;rw[Wf hv];rfl
   have t:=Zd h rfl wT (λq _ hq=>by rw[a]at hq;simp only at hq;rw[hq];rfl) hk c8 λe=>(c9 e).1
   have j:AT d'.Store=AT d.Store/\d'.Store.Next=d.Store.Next:=by
    by_cases e:k<steps.length
    ·obtain⟨e1,e2,_⟩:=GO h.dev c4 (by rw[c8 e]);exact⟨e1,e2⟩
    obtain⟨q,hq⟩:=(c9<|by omega).1;have hB:X3 (Tx.mk d.Tx q<|H1 (AT d.Store) d.Store.Next)=true:=rfl;have j:=c4.ab
    grind [MF,Wf,Jj]
   have hX:∀y∈(Ce steps<|Cg d f.Chunk (bs [])++Bz (Fi d<|bs []) d.Tx T).take k,y.Page.Kind=2/\y.Page.Tx=d.Tx:=λy hy=>by grind [HO,NS,VA]
   refine⟨d',_,by rw[c5];exact c1,by rw[c5];exact c3,⟨c4,c6,by grind,t⟩,j.1,j.2,λy hy hk=>?_,eW λy hy hk=>?_,by rw[c5];exact Xl (n:=1) cw,λc hc=>?_,e8 (n:=200*1) λy hy=>?_⟩
   ·grind
   ·rcases Az.1 hy with hh|hh
    ·exact Xo _ hh hk
    rw[(hX y hh).2,h.dev.tx];omega
   ·grind [Y8,BX]
   rcases Az.1 hy with hh|hh
   ·exact Xq _ hh
   have:=bU<|HO _ _ _ y hh;rw[h.dev.seq]at this;omega
  |true=>
   simp only[An,Ad];obtain⟨vi,vi1⟩:=aC h.dev;rw[vi1];simp only[Aa]
   cases decide (vi<0)with
   |true=>grind
   |false=>
    rcases aK h.dev h.few vi with w|⟨steps,ps,g,w1,w2,w3,w4,w5,w6,w7⟩
    ·grind
    rw[w1];refine⟨steps,true,rfl,by omega,(λhh=>by cases hh),λ_=>dC (Qo w2) λk hk=>?_⟩;obtain⟨m,d',c1,c2,c3,c4,c5,c6,_,cw,c7⟩:=yY h w2 w4 w5 w6 k;refine⟨d',_,by rw[c4];exact c1,by rw[c4];exact c3,c5,c6.ab,c6.nx,λy hy hk=>?_,eW λy hy hk=>?_,by rw[c4];exact Xl (n:=1) cw,c7,e8 (n:=200*1) λy hy=>?_⟩
    ·rcases Az.1 hy with hh|hh
     ·grind
     obtain⟨⟨_,_,z,z1,z2⟩,_⟩:=w6 _<|HO _ _ _ _ hh
     grind [Y9]
    ·rcases Az.1 hy with hh|hh
     ·exact Xo _ hh hk
     have:=(w6 _<|HO _ _ _ _ hh).1.1;omega
    rcases Az.1 hy with hh|hh
    ·exact Xq _ hh
    have:=w7 _<|HO _ _ _ _ hh;rw[h.dev.seq]at this;omega
theorem Lm (h:AX f):∃v:Int,E7 f=some v:=by
 obtain⟨v,v1,_⟩:=S4 f h.cap (by have:=h.few;omega);exact⟨v,v1⟩
theorem TH (h:G9 d r) (hw:DW d.Flash 999999000) (most:Int):∃d' all r',Ez d most=some (d',all)/\G8 20 d r d' r'/\all.length<=4000/\Steps d.Flash all d'.Flash/\KD 20 d r all:=by
 unfold Ez;rw[Jv h.dev];simp only[Aa]
 have j:∀{n:Nat} {a:List AF},n<=20->KD n d r a->KD 20 d r a:=λhn hc=>⟨hc.1,λk g hk hg=>by
  obtain⟨x,rx,x1,x2,x3⟩:=hc.2 k g hk hg
  exact⟨x,rx,x1,x2,x3.mono hn⟩⟩
 obtain⟨b,h1,d',all,r',h2,h3,h4,h5,h6⟩:=AA (body:=λs:List AF×Int×List Block×List Vol×List Ba×Int×Int×Int×Int=>CR most s.1 s.2.1 s.2.2.1 s.2.2.2.1 s.2.2.2.2.1 s.2.2.2.2.2.1 s.2.2.2.2.2.2.1 s.2.2.2.2.2.2.2.1 s.2.2.2.2.2.2.2.2)
  (λ(o:List AF×Av) i=>(o.1,i,o.2.Flash.Blocks,o.2.Store.Vols,o.2.Store.Arena.Knots,o.2.Store.Next,o.2.Seq,o.2.Tx,o.2.Base)) 20
  (λi o=>o.1.length<=200*i/\∃r',G8 i d r o.2 r'/\Steps d.Flash o.1 o.2.Flash/\KD i d r o.1)
  (λb=>∃d' all r',(b= .inr (d',all)\/b= .inl (all,d'.Flash.Blocks,d'.Store.Vols,d'.Store.Arena.Knots,d'.Store.Next,d'.Seq,d'.Tx,d'.Base))/\G8 20 d r d' r'/\all.length<=4000/\Steps d.Flash all d'.Flash/\KD 20 d r all)
  (λo i hi hs=>by
   obtain⟨all,e⟩:=o;obtain⟨l,r',hg,c,f⟩:=hs;simp only at l hg c f;have m:Av.mk (Flash.mk e.Flash.Blocks) (Store.mk e.Store.Vols (Arena.mk e.Store.Arena.Knots) e.Store.Next) e.Seq e.Tx e.Base=e:=rfl;have p:Flash.mk e.Flash.Blocks=e.Flash:=rfl;simp only[CR];rw[m,p];obtain⟨v,v1⟩:=Lm hg.good.dev.fl;rw[v1,Ac (by omega:(i:Int)<20)];simp only[Al,Aa,Kz]
   cases(bif decide ((i:Int)<most)then decide (v<12)else false)with
   |false=>
    exact .inr ⟨_,rfl,e,all,r',.inr rfl,hg.mono (by omega),by omega,c,j (by omega) f⟩
   |true=>
    obtain⟨steps,ok,c1,c2,_,c3⟩:=TG hg.good (λx hx=>by have:=hg.wear _ hw x hx;omega);rw[c1];simp only[Aa]
    cases ok with
    |false=>
     exact .inr ⟨_,rfl,e,all,r',.inl rfl,hg.mono (by omega),by omega,c,j (by omega) f⟩
    |true=>
     obtain⟨d',r2,k1,k2,k3⟩:=(c3 rfl).full hg.good (by omega);rw[k1,Aa,Bw (by omega),ad1]
     exact .inl ⟨(all++steps,d'),rfl,by simp;omega,r2,hg.trans k3,(MR _ _ _ _).2 ⟨_,c,k2⟩,vP hg c f<|c3 rfl⟩)
  (λo hs=>by simp_all [CR];grind) (s:=([],d)) ⟨by simp,r,G8.refl h,rfl,⟨⟨_,rfl⟩,λk g hk hg=>by
   obtain⟨q,q1,q2⟩:=hg;rw[List.take_nil]at q1;rw[show q=d.Flash from q1]at q2
   rcases q2 with rfl|⟨s,s1,_⟩
   ·obtain⟨x,u1,u2,u3⟩:=(G8.refl (n:=0) h).torn h.dev.fl rfl λ_ hh=>hh
    grind
   simp at s1⟩⟩
 rw[h1]
 rcases h2 with rfl|rfl
 ·grind
 exact⟨d',all,r',rfl,h3,h4,h5,h6⟩
theorem xG {r:Int} (h:k<16):(Fc K r)[k]?=some (Q4 K r k):=by grind [Fc]
theorem kI (h:Cj s) (vol:Int) (hk:k<16):∃c,KU s vol (k:Int)=some c/\((K3 (AT s) vol=none/\c=0)\/∃a,K3 (AT s) vol=some a/\a[k]?=some c/\0<=c/\(c≠0->DD (AT s) c)):=by
 have hl:=h.len;unfold KU
 rcases Ex s (by omega) vol with⟨e,e2⟩|⟨i,v,e,e2,e3,_⟩
 ·grind [Lf]
 rw[e];simp only[Aa];have hm:=Ao e2;have hr:=h.root _<|AB.2 ⟨v,hm,rfl⟩;rw[cF,Ap,e2,Aa,Yp _ (by have:=h.few;omega) h.ar hr hk];have hg:=OP h.asc hm;rw[e3]at hg;have h0:=mN h.ar hr _<|Z5 hk;exact⟨_,rfl,.inr ⟨_,hg,xG hk,h0,λb=>⟨by omega,_,AB.2 ⟨v,hm,rfl⟩,Z5 hk⟩⟩⟩
theorem Wq (h:G9 d r) (vol:Int) (hk:k<16):(K3 (AT d.Store) vol=none/\Gm r d.Store vol (k:Int)=some (bs [],false))\/
  ∃a c,K3 (AT d.Store) vol=some a/\a[k]?=some c/\KU d.Store vol (k:Int)=some c/\((c=0/\Gm r d.Store vol (k:Int)=some (bs [],true))\/(0<c/\DD (AT d.Store) c/\∃u,BX r c=some u/\Gm r d.Store vol (k:Int)=some (u,true))):=by
 have hl:=h.dev.st.len;obtain⟨c,c1,c2⟩:=kI h.dev.st vol hk;unfold Gm;rw[c1]
 rcases Ex d.Store (by omega) vol with⟨e,e2⟩|⟨i,v,e,e2,e3,_⟩
 ·grind [Lf]
 have hg:=OP h.dev.st.asc<|Ao e2;rw[e3]at hg
 rcases c2 with⟨c2,_⟩|⟨a,c2,c3,c4,c5⟩
 ·grind
 rw[e];simp only[Aa];rw[cF];right;by_cases e0:c=0
 ·grind
 rw[show(c==0)=false by simpa using e0];have b:=c5 e0;obtain⟨u,hu⟩:=h.data.data c b;obtain⟨w,ok,t1,t2⟩:=jZ h.dev.pages c
 grind
theorem TE (h:Fe d r) {q:Oz} {a:List Ch} {b:ByteArray} (hp:DQ d q=some (a,b,0)):ADd q:=by
 obtain⟨v,a1,a2⟩:=V4 q
 grind [DQ]
def nH (r r':List Ak) (c:Int) (a:ByteArray):Prop:=(∀y∈r',y.Page.Kind=1->(∃z∈r,z.Page.Kind=1/\z.Page.Tx=y.Page.Tx/\z.Page.Text=y.Page.Text)\/(L a≠ []/\y.Page.Tx=c/\y.Page.Text=a))/\Dy r'<=Dy r+1/\CT r'<=CT r+10
theorem rA (h:G9 d r) {q:Oz} {a:ByteArray} (hx:sF d r q x a):Cv d [x] a=some ([],false)\/∃steps d' r',Cv d [x] a=some (steps,true)/\steps.length<=10/\FU d steps=some d'/\G9 d' r'/\
  (AT d'.Store,d'.Store.Next)=(CQ (AT d.Store) d.Store.Next x).getD (AT d.Store,d.Store.Next)/\d.Store.Next<=d'.Store.Next/\d'.Store.Next<=d.Store.Next+1/\nH r r' x.Chunk a/\XM d.Flash d'.Flash/\Steps d.Flash steps d'.Flash/\((∀c,DD (AT d.Store) c->BX r' c=BX r c)/\(L a≠ []->BX r' x.Chunk=Vq a))/\1<=steps.length/\∀k g,k<steps.length->Zx d.Flash steps k g->∃y ry,Cr g=some (y,true)/\y.Flash=g/\As d r y ry/\nH r ry x.Chunk a:=by
 obtain⟨x1,x2,xv,x3⟩:=hx;have h7:=h.dev.st.nx
 have j:∀z∈ [x],FM z=true:=λz hz=>by grind
 rcases MD h.dev.fl h.dev.seqs [x] (by simp) (by simp) j a with w|⟨steps,T,g,b,w1,w2,w3,w4,w5,w6,w7,w8,w9,wT⟩
 ·exact .inl w
 right;have l:b=x:=by simpa using w1.symm
 subst l;have t:=(DJ w7).2;have h3:(Bz (Fi d a) d.Tx T).length=T.length:=by unfold Bz;grind
 have h8:(Cg d b.Chunk a).length<=1:=by grind [Cg]
 rw[A9,h3]at t
 have u:L a≠ []->¬DD (AT d.Store) b.Chunk:=λht h4=>by
  rcases x3 with⟨x3,_⟩|⟨_,x4,_⟩
  ·exact ht x3
  have:=X1 h.dev.st h4;omega
 have tk:∀k c,DD (AT d.Store) c->BX (r++(Ce steps<|Cg d b.Chunk a++Bz (Fi d a) d.Tx T).take k) c=BX r c:=λk c hc=>by grind [Y8,HO,NS,BX,Cg]
 have tn:L a≠ []->BX (r++(Ce steps<|Cg d b.Chunk a++Bz (Fi d a) d.Tx T).take steps.length) b.Chunk=Vq a:=λe=>by
  rw[AQ (by unfold Ce;grind),show Cg d b.Chunk a=[Page.mk 1 d.Seq b.Chunk 0 1 a] by grind [Cg]]
  cases steps with
  |nil=>grind
  |cons s ss=>
   show BX (r++Ak.mk s.Block s.Leaf (Page.mk 1 d.Seq b.Chunk 0 1 a)::Ce ss (Bz (Fi d a) d.Tx T)) b.Chunk=_;unfold BX;rw[List.append_cons,dN _ _ (λy hy=>by have:=NS (HO ss _ _ y (by rw[D1];exact hy));omega),OF,BE ⟨rfl,rfl⟩];rfl
 have fw:∀k,nH r (r++(Ce steps<|Cg d b.Chunk a++Bz (Fi d a) d.Tx T).take k) b.Chunk a:=λk=>by
  have cP:∀y∈r++(Ce steps<|Cg d b.Chunk a++Bz (Fi d a) d.Tx T).take k,y∈r\/y.Page∈Cg d b.Chunk a++Bz (Fi d a) d.Tx T:=λy hy=>(Az.1 hy).imp id<|HO _ _ _ y
  refine⟨λy hy hk=>?_,eW (n:=1) λy hy hk=>?_,e8 (n:=10) λy hy=>?_⟩
  ·grind [NS,Cg]
  ·rcases cP y hy with hh|hh
   ·exact Xo _ hh hk
   rcases Az.1 hh with hh|hh
   ·grind [Cg]
   rw[VA hh,h.dev.tx];omega
  rcases cP y hy with hh|hh
  ·exact Xq _ hh
  have:=bU hh;rw[h.dev.seq]at this;omega
 have cut:∀k g,k<steps.length->Zx d.Flash steps k g->∃y ry,Cr g=some (y,true)/\y.Flash=g/\As d r y ry/\nH r ry b.Chunk a:=λk g hk hg=>by
  obtain⟨m,y,ry,c1,c2,c3,c4,c5,hr',cw,c6,c7,c8,_⟩:=RL h j w3 w4 w5 w6 w7 w9 u k<|by omega
  have i:=Zd h hr' wT (λ_ _ _=>rfl) (by omega) c8 λe=>by omega
  obtain⟨e1,e2,_⟩:=GO h.dev c4 (by rw[c8 hk]);subst hr';have h5:As d r y (r++(Ce steps<|Cg d b.Chunk a++Bz (Fi d a) d.Tx T).take k):=⟨⟨c4,c6,by rw[e1];exact c7,i⟩,e1,e2,(fw k).2.1,by grind [Xl],tk k⟩;obtain⟨q,q1,q2⟩:=hg;have:=Ll q1 c1;subst this
  rcases q2 with rfl|⟨s,s1,_,s2,s3,⟨_,s4⟩|⟨s4,_⟩⟩
  ·grind
  ·obtain⟨z,z1,z2,z3⟩:=h5.torn s2 (by rw[c5];exact s4) (by rw[c5];exact s3)
   grind
  grind [Qo]
 obtain⟨m,d',r',c1,c2,c3,c4,c5,hr',cw,c6,c7,_,c9⟩:=RL h j w3 w4 w5 w6 w7 w9 u steps.length<|A3 _;rw[<-c5]at cw;rw[D1]at c1;have v:Steps d.Flash steps d'.Flash:=by rw[c5];exact c1
 have h0:nH r r' b.Chunk a:=by grind
 have tt:(∀c,DD (AT d.Store) c->BX r' c=BX r c)/\(L a≠ []->BX r' b.Chunk=Vq a):=by grind
 have i:=Zd h hr' wT (λ_ _ _=>rfl) (A3 _) (λe=>by omega) λe=>(c9 e).1
 obtain⟨⟨qn,hq⟩,c10⟩:=c9 rfl;have hB:¬X3 (Tx.mk d.Tx qn [b])=true:=by grind [X3]
 have f:=c4.ab;rw[hq,MF,Bi hB,YD,<-h.dev.ab]at f;have h6:CG (AT d.Store) d.Store.Next [b]=CQ (AT d.Store) d.Store.Next b:=by rfl
 simp only[h6]at f;have h1:=M2 h.dev c1 (by omega) c3
 cases o:CQ (AT d.Store) d.Store.Next b with
 |none=>
  rw[o]at f;have e1:AT d'.Store=AT d.Store:=Ct Prod.fst f;have e2:d'.Store.Next=d.Store.Next:=Ct Prod.snd f;exact⟨steps,d',r',w2,by omega,h1,⟨c4,c6,by rw[e1];exact c7,i⟩,by grind,by omega,by omega,h0,cw,v,tt,by omega,cut⟩
 |some p=>
  obtain⟨l',nx'⟩:=p;rw[o]at f;have e1:AT d'.Store=l':=Ct Prod.fst f;have e2:d'.Store.Next=nx':=Ct Prod.snd f;obtain⟨v1,v2,v3⟩:=mF o x2
  have hz:∀c,DD l' c->c=b.Chunk->b.Kind≠4->False:=λc hc h9 hk=>by
   have:b.Chunk=0:=by grind [FM]
   have:=hc.1;omega
  have h2:b.Chunk<=d.Store.Next:=by
   by_cases hk:b.Kind=4
   ·rcases x3 with⟨_,x4⟩|⟨_,x4,_⟩
    ·have:=X1 h.dev.st (x4 hk).1;omega
    omega
   grind [FM]
  refine⟨steps,d',r',w2,by omega,h1,⟨c4,c6,?_,i⟩,by grind,by omega,by omega,h0,cw,v,tt,by omega,cut⟩;rw[e1]
  rcases x3 with⟨x3,x4⟩|⟨x3,x4,x5,x6,x7⟩
  ·refine c7.mono λc hc=>?_
   grind
  exact(c10 _ x6 x5 x7).mono v1
def AAz (r r':List Ak) (nx:Int) (a:ByteArray):Prop:=(∀y∈r',y.Page.Kind=1->(∃z∈r,z.Page.Kind=1/\z.Page.Tx=y.Page.Tx/\z.Page.Text=y.Page.Text)\/(y.Page.Tx=nx/\Vq y.Page.Text=some a))/\Dy r'<=Dy r+21/\CT r'<=CT r+4010
def ABR (d d':Av) (v:Int):Prop:=∀p∈AT d'.Store,(∃p'∈AT d.Store,p'.1=p.1)\/p.1=v
theorem G8.q (h:G8 n d r e r') (hn:n<=20) (nx:Int) (t:ByteArray):AAz r r' nx t:=⟨λy hy hk=> .inl (h.pg y hy hk),by have:=h.tx;omega,by have:=h.sq;omega⟩
theorem Kg (h:AT d'.Store=AT d.Store) (v:Int):ABR d d' v:=λp hp=> .inl ⟨p,by grind,rfl⟩
theorem tH (h:G9 d r) (hw:DW d.Flash 999999000) (q:Oz):∃d' steps t no r',NK d q=some (d',steps,t,no)/\G9 d' r'/\d.Store.Next<=d'.Store.Next/\d'.Store.Next<=d.Store.Next+1/\AAz r r' d.Store.Next q.Text/\ABR d d' q.Vol/\∀w:Int,DW d.Flash w->DW d'.Flash (w+20):=by
 have a:G8 20 d r d r:=G8.refl h;unfold NK;rw[Jv h.dev,Pp h.dev];simp only[Aa,An,Ad];obtain⟨o,v,no,p1,p2,p3⟩:=Vi h.dev q;rw[p1];simp only[Aa]
 cases f:(no !=0)with
 |true=>exact⟨_,_,_,_,r,rfl,h,by omega,by omega,a.q (by omega) _ _,Kg rfl _,a.wear⟩
 |false=>
  have g:no=0:=by simpa using f
  subst g;have hq:=TE h.dev p1;simp only[Ad]
  cases h0:(q.Kind==6)with
  |true=>
   simp only[Al];obtain⟨k,hk⟩:∃k:Nat,q.Sector=(k:Int):=⟨_,(AR hq.sec.1).symm⟩;unfold LH;rw[h.dev.scan.s,hk];simp only[Aa]
   rcases Wq h q.Vol (k:=k) (by have:=hq.sec;omega)with⟨_,e⟩|⟨h1,c,_,_,_,⟨_,e⟩|⟨_,_,u,_,e⟩⟩
   ·rw[e];exact⟨_,_,_,_,r,rfl,h,by omega,by omega,a.q (by omega) _ _,Kg rfl _,a.wear⟩
   ·rw[e];exact⟨_,_,_,_,r,rfl,h,by omega,by omega,a.q (by omega) _ _,Kg rfl _,a.wear⟩
   rw[e];exact⟨_,_,_,_,r,rfl,h,by omega,by omega,a.q (by omega) _ _,Kg rfl _,a.wear⟩
  |false=>
   simp only[Ad];obtain⟨v5,i⟩:=Lm h.dev.fl;rw[i];simp only[Aa];have clean:∃e all re,(cond (decide<|v5<12) ((Ez d 20).bind λv6=>some (v6.2,v6.1.Flash.Blocks,v6.1.Store.Vols,v6.1.Store.Arena.Knots,v6.1.Store.Next,v6.1.Seq,v6.1.Tx,v6.1.Base)) (some ([],d.Flash.Blocks,d.Store.Vols,d.Store.Arena.Knots,d.Store.Next,d.Seq,d.Tx,d.Base)):Option (List AF×List Block×List Vol×List Ba×Int×Int×Int×Int))=some (all,Flash.Blocks<|Av.Flash e,e.Store.Vols,e.Store.Arena.Knots,e.Store.Next,e.Seq,e.Tx,e.Base)/\G8 20 d r e re/\all.length<=4000:=by
    cases decide (v5<12)with
    |false=>grind
    |true=>
     obtain⟨e,all,re,k1,k2,k3,_⟩:=TH h hw 20
     grind
   obtain⟨e,all,re,k1,k5,k4⟩:=clean;have k2:=k5.good;rw[k1];simp only[Aa];have j:Av.mk (Flash.mk e.Flash.Blocks) (Store.mk e.Store.Vols (Arena.mk e.Store.Arena.Knots) e.Store.Next) e.Seq e.Tx e.Base=e:=rfl;have l:Flash.mk e.Flash.Blocks=e.Flash:=rfl;rw[j,l];obtain⟨recs2,text2,no2,s1,s2,_⟩:=Vi k2.dev q;rw[s1];simp only[Aa];obtain⟨v9,m⟩:=Lm k2.dev.fl;rw[m];have h2:=k5.nx
   rcases s2 with⟨rfl,rfl⟩|⟨_,x,rfl,s2⟩
   ·have hw:Cv e [] (bs [])=some ([],true):=rfl;rw[hw];simp only[Aa,An,Ad]
    cases decide (v9<8)with
    |true=>exact⟨_,_,_,_,re,rfl,k2,by omega,by omega,k5.q (by omega) _ _,Kg k5.ab _,k5.wear⟩
    |false=>
     simp only[Ad];obtain⟨d',u1,u2,u3⟩:=Kx k2.dev.fl k2.dev.sr;obtain⟨e1,e2,_⟩:=GO k2.dev u2 rfl;rw[M2 k2.dev (steps:=[]) rfl (by simp) u1,Aa,Bw (by simp;omega)];exact⟨_,_,_,_,re,rfl,⟨u2,k2.core,by rw[e1];exact k2.data,k2.hist⟩,by omega,by omega,k5.q (by omega) _ _,Kg (by rw[e1,k5.ab]) _,by rw[u3];exact k5.wear⟩
   rcases rA k2 s2 with w|⟨steps,d',r',w1,w2,w3,w4,w7,w5,w6,w8,w9,_⟩
   ·rw[w];exact⟨_,_,_,_,re,rfl,k2,by omega,by omega,k5.q (by omega) _ _,Kg k5.ab _,k5.wear⟩
   rw[w1];simp only[Aa,An,Ad]
   cases decide (v9<8)with
   |true=>exact⟨_,_,_,_,re,rfl,k2,by omega,by omega,k5.q (by omega) _ _,Kg k5.ab _,k5.wear⟩
   |false=>
    simp only[Ad];rw[w3,Aa,Bw<|by omega];refine⟨_,_,_,_,r',rfl,w4,by omega,by omega,⟨λy hy hk=>?_,by have:=w8.2.1;have:=k5.tx;omega,by have:=w8.2.2;have:=k5.sq;omega⟩,λp hp=>?_,λw hh=>w9 _<|k5.wear w hh⟩
    ·rcases w8.1 y hy hk with⟨z,z1,z2,z3,z4⟩|⟨t1,t2,t3⟩
     ·obtain⟨w,a1,a2,a3,a4⟩:=k5.pg z z1 z2
      grind
     obtain⟨_,_,_,s3⟩:=s2
     grind
    have e1:=Ct Prod.fst w7;simp only at e1;rw[e1]at hp
    cases b:CQ (AT e.Store) e.Store.Next x with
    |none=>
     rw[b]at hp;exact .inl ⟨p,by rw[<-k5.ab];exact hp,rfl⟩
    |some lp=>
     rw[b]at hp;obtain⟨l',nx'⟩:=lp;have n:p∈l':=hp
     rcases Zv b s2.2.1 p n with⟨p',q1,q2⟩|hh
     ·exact .inl ⟨p',by rw[<-k5.ab];exact q1,q2⟩
     exact .inr<|by rw[hh,s2.2.2.1]
structure Mf (c:Bn):Prop where
 i0:0<=c.i_
 i1:c.i_<=(c.b_.length:Int)
 len:c.b_.length<=1048576
theorem AAn (a:Int):0<=ban .i64 a 255/\ban .i64 a 255<=255:=by
 unfold ban;have h:(BitVec.ofInt IntKind.i64.bits a&&&BitVec.ofInt IntKind.i64.bits 255).toNat<=255:=by
  refine IX Nat.and_le_right ?_;exact Nat.le_of_eq rfl
 grind [O0]
theorem ZS {c:Bn} (h:Mf c):∃v c',Jz c=some (v,c')/\Mf c'/\0<=v/\v<=255:=by
 have:=h.i0;have:=h.i1;have:=h.len;unfold Jz;by_cases e:c.i_<ln c.b_
 ·rw[Ac e,Al,K9 h.i0<|by grind [Bh]];rw[Bh]at e;rw[Aa,BZ (a:=c.i_) (by omega)<|by omega];exact⟨_,_,rfl,⟨by grind,by grind,h.len⟩,AAn _⟩
 rw[Ah e,Ad];exact⟨_,_,rfl,⟨h.i0,h.i1,h.len⟩,AAn _⟩
theorem ADs {a n:Int} (h0:0<=a) (hn:0<n):∃v,rm .i64 a n=some v/\0<=v/\v<n:=by
 unfold rm;rw[Bi (by omega),Int.tmod_eq_emod_of_nonneg h0];exact⟨_,rfl,Int.emod_nonneg _ (by omega),Int.emod_lt_of_pos _ hn⟩
theorem S6 {c:Bn} (h:Mf c) (n:Int):∃v c',Dw c n=some (v,c')/\Mf c'/\0<=v/\(0<n->v<n):=by
 unfold Dw;by_cases h0:n<=0
 ·simp_all;grind
 by_cases h1:n<=256
 ·grind [ZS,ADs]
 rw[Ah h1,Ad];obtain⟨v1,c1,a1,a2,a3,a4⟩:=ZS h;obtain⟨v2,c2,b1,b2,b3,b4⟩:=ZS a2;obtain⟨v3,c3,d1,d2,d3,d4⟩:=ZS b2;obtain⟨v4,c4,e1,e2,e3,e4⟩:=ZS d2;rw[a1,Aa,b1,Aa,d1,Aa,e1,Aa,OI (by omega) (by omega),OI (by omega) (by omega),OI (by omega) (by omega),BZ (a:=v1*16777216) (b:=v2*65536) (by omega) (by omega),BZ (a:=v1*16777216+v2*65536) (b:=v3*256) (by omega) (by omega),BZ (a:=v1*16777216+v2*65536+v3*256) (b:=v4) (by omega)<|by omega];obtain⟨w,w1,w2,w3⟩:=ADs (a:=v1*16777216+v2*65536+v3*256+v4) (n:=n) (by omega)<|by omega
 grind
theorem MT {c:Bn} (h:Mf c) (hn:0<n):∃(v:Nat) (c':Bn),Dw c (n:Int)=some ((v:Int),c')/\Mf c'/\v<n:=by
 obtain⟨v,c',k1,k2,k3,k4⟩:=S6 h (n:Int);exact⟨v.toNat,c',by grind,k2,by omega⟩
theorem vN {c:Bn} {l:List Int} (h:Mf c) (hl:0<l.length):∃v c',M0 c l=some (v,c')/\Mf c'/\v∈l:=by
 unfold M0
 grind [MT,Bh,Ap]
theorem AC2 {c:Bn} {l:List ByteArray} (h:Mf c) (hl:0<l.length):∃v c',RV c l=some (v,c')/\Mf c'/\v∈l:=by
 unfold RV;obtain⟨v,c',k1,k2,k3⟩:=MT h hl;simp_all [Bh,Ap];grind
theorem AAw {c:Bn} (h:Mf c) (n:Int):∃v c',Jy c n=some (v,c')/\Mf c':=by
 unfold Jy;obtain⟨v,c',k1,k2,_⟩:=S6 h n;rw[k1];exact⟨_,_,rfl,k2⟩
theorem Od {c:Bn} (h:Mf c):Mf (Bn.mk c.b_ c.i_ c.h_):=h
theorem ADX {code:List Int} (h:code.length<=1048576):∃c,Us code=some c/\Mf c:=by
 unfold Us;obtain⟨b,h1,_⟩:=AA (body:=λs:Int×Int=>LF code s.1 s.2) (λ(o:Int) i=>(o,i)) code.length (λ_ _=>True) (λ_=>True)
  (λo i hi _=>by
   have hx:=Ab hi;simp only[LF,JB,Ac hi,Al,Aa,Ap,hx];rw[ad1 (i:=i)<|by omega]
   cases decide ((i:Int)<4000)with
   |true=>grind
   |false=>grind)
  (λo _=>⟨o,by grind [JB,LF],trivial⟩) (s:=ad 36501<|ln code) trivial
 rw[h1];exact⟨_,rfl,⟨K6 _,by grind,h⟩⟩
def ten:List ByteArray:=[bs [],bs [97],bs [98,98],bs [97,98,99,100,97,98,99,100,97,98,99,100],bs [104,101,108,108,111],bs [104,101,108,108,111,32,104,101,108,108,111,32,104,101,108,108,111],bs [122,122,122,122,122,122,122,122,122,122,122,122],bs [113,49],bs [113,50],bs [113,51]]
theorem ACX {c:Bn} (h:Mf c):∃v c',RR c=some (v,c')/\Mf c'/\v∈ten:=by
 unfold RR;obtain⟨v,c',k1,k2,k3⟩:=AC2 h (l:=ten)<|by simp[ten]
 grind [ten]
structure ABU (q:Oz):Prop where
 kind:1<=q.Kind/\q.Kind<=6
 vol:1<=q.Vol/\q.Vol<=3
 rest:(q.Kind=1/\q.Text∈ten/\(0<=q.Sector/\q.Sector<=15)/\q.Of=0)\/(q.Kind≠1/\L q.Text=[]/\(((q.Kind=2\/q.Kind=6)/\(0<=q.Sector/\q.Sector<=15)/\q.Of=0)\/(q.Sector=0/\((q.Kind=4/\1<=q.Of/\q.Of<=9)\/((q.Kind=3\/q.Kind=5)/\q.Of=0)))))
theorem AC4 {c:Bn} (h:Mf c) (d:Av) (hv:d.Store.Vols.length<=3) (o:∀v∈d.Store.Vols,1<=v.Id/\v.Id<=3):∃q c',RT c d=some (q,c')/\Mf c'/\ABU q:=by
  unfold RT;obtain⟨k,c1,a1,a2,a3⟩:=vN h (l:=[1,1,1,1,1,1,2,3,4,5,6]) (by simp);rw[a1];simp only[Aa];obtain⟨v2,c2,b1,b2,b3,b4⟩:=S6 a2 3;have g:1<=k/\k<=6:=by simp at a3;omega
  have r:ad 1 v2=1+v2:=BZ (by omega) (by omega);rw[b1];simp only[Aa]
  have J1:∃x y c3,(cond ((ln d.Store.Vols)==0) (some (3,ad 1 v2,c2.b_,c2.i_,c2.h_)) ((cond (k !=3) (cond (k !=4) ((Jy c2 8).bind λv3=>
 some (!v3.1,v3.2.b_,v3.2.i_,v3.2.h_))<|some (false,c2.b_,c2.i_,c2.h_)) (some (false,c2.b_,c2.i_,c2.h_)):Option (Bool×List Int×Int×Int)).bind λj2=>
 cond j2.1 ((Dw (Bn.mk j2.2.1 j2.2.2.1 j2.2.2.2)<|ln d.Store.Vols).bind λv4=>
 (gi d.Store.Vols v4.1).bind λx1=>
 some (k,x1.Id,v4.2.b_,v4.2.i_,v4.2.h_)) (some (k,ad 1 v2,j2.2.1,j2.2.2.1,j2.2.2.2))):Option (Int×Int×List Int×Int×Int))=some (x,y,Bn.b_ c3,c3.i_,c3.h_)/\Mf c3/\(1<=x/\x<=6)/\1<=y/\y<=3:=by
   cases hz:(ln d.Store.Vols==0)with
   |true=>exact⟨_,_,c2,rfl,b2,by omega,by omega,by omega⟩
   |false=>
    have j:0<d.Store.Vols.length:=by grind [Bh]
    have J2:∃b c3,(cond (k !=3) (cond (k !=4) ((Jy c2 8).bind λv3=>some (!v3.1,v3.2.b_,v3.2.i_,v3.2.h_))<|some (false,c2.b_,c2.i_,c2.h_)) (some (false,c2.b_,c2.i_,c2.h_)):Option (Bool×List Int×Int×Int))=some (b,Bn.b_ c3,c3.i_,c3.h_)/\Mf c3:=by
     cases(k !=3)with
     |false=>grind
     |true=>
      cases(k !=4)with
      |false=>grind
      |true=>
       obtain⟨v3,c3,d1,d2⟩:=AAw b2 8;rw[d1];exact⟨_,c3,rfl,d2⟩
    obtain⟨b,c3,e1,e2⟩:=J2;rw[e1];simp only[Aa]
    cases b with
    |false=>exact⟨_,_,c3,rfl,e2,g,by omega,by omega⟩
    |true=>
     obtain⟨v4,c4,f1,f2,f3⟩:=MT (Od e2) j;rw[Bh,f1,Aa,Ap,Ab f3];exact⟨_,_,c4,rfl,f2,g,o _<|Ar f3⟩
  obtain⟨x,y,c3,j1,j1c,jx,jy⟩:=J1;rw[j1];simp only[Aa];have J3:∃b c4,(cond (x==5) ((Jy (Bn.mk c3.b_ c3.i_ c3.h_) 3).bind λv8=>some (!v8.1,v8.2.b_,v8.2.i_,v8.2.h_)) (some (false,c3.b_,c3.i_,c3.h_)):Option (Bool×List Int×Int×Int))=some (b,Bn.b_ c4,c4.i_,c4.h_)/\Mf c4:=by
   cases(x==5)with
   |false=>grind
   |true=>
    obtain⟨v8,c4,d1,d2⟩:=AAw (Od j1c) 3;rw[d1];exact⟨_,c4,rfl,d2⟩
  obtain⟨b,c4,j3,j3c⟩:=J3;rw[j3];simp only[Aa,Kz];have a:1<=(bif b then(1:Int)else x)/\(bif b then(1:Int)else x)<=6:=by grind
  generalize (bif b then(1:Int)else x)=j4 at a
  cases m:(j4==1)with
  |true=>
   obtain⟨t,c5,t1,t2,t3⟩:=ACX<|Od j3c;rw[t1];simp only[Aa];obtain⟨v10,c6,u1,u2,u3,u4⟩:=S6 t2 16;rw[u1];have hj:=G5.1 m;exact⟨_,_,rfl,u2,⟨a,jy,.inl ⟨hj,t3,by grind,rfl⟩⟩⟩
  |false=>
   have e:j4≠1:=by simpa using m
   have p:(cond (j4==2) (j4==2)<|j4==6)=decide (j4=2\/j4=6):=by grind
   rw[p];by_cases f:j4=2\/j4=6
   ·rw[Ac f];obtain⟨v11,c6,u1,u2,u3,u4⟩:=S6 (Od j3c) 16;rw[u1];exact⟨_,_,rfl,u2,⟨a,jy,.inr ⟨e,DH _,.inl ⟨f,by grind,rfl⟩⟩⟩⟩
   rw[Ah f]
   cases n:(j4==4)with
   |true=>
    obtain⟨v12,c6,u1,u2,u3,u4⟩:=S6 (Od j3c) 3;have h44:=G5.1 n;rw[u1]
    cases s:d.Store.Vols with
    |nil=>
     exact⟨_,_,rfl,u2,⟨a,jy,.inr ⟨e,DH _,.inr ⟨rfl,.inl ⟨h44,by grind [BZ]⟩⟩⟩⟩⟩
    |cons v vs=>
     rw[Ac (by grind [Bh]:ln (v::vs)>0),show gi (v::vs) 0=some v from Ap (i:=0)];exact⟨_,_,rfl,u2,⟨a,jy,.inr ⟨e,DH _,.inr ⟨rfl,.inl ⟨h44,by grind⟩⟩⟩⟩⟩
   |false=>
    exact⟨_,_,rfl,Od j3c,⟨a,jy,.inr ⟨e,DH _,.inr ⟨rfl,.inr ⟨by grind,rfl⟩⟩⟩⟩⟩
theorem AAk (h:3<=n/\n<=10):AX (Flash.mk (List.replicate n (Block.mk false 0 Lj))):=by
 refine⟨by simpa using h,λb hb=>?_⟩
 grind [mU]
theorem fO (h:3<=n/\n<=10):Pn (n:Int)=some (Flash.mk (List.replicate n (Block.mk false 0 Lj)),true):=by
 unfold Pn;rw[DV,Ac<|by omega];simp only[Aa,An,Ad];have q:=o9 (body:=λs:Int×List Block=>IH (n:Int) s.1 s.2) n (λ_=>Block.mk false 0 Lj)
  (λi a hi ho=>by grind [VF,Bw,ad1,IH])
  (λa=>by grind [IH])
 rw[q,Aa,Ms,F6]
theorem dE:∀(n:Nat) (i:Int),Ke i (List.replicate n (Block.mk false 0 Lj))=[]
 |0,i=>rfl
 |n+1,i=>by
  rw[List.replicate_succ,Ke,dE n (i+1),Y2 i 0 _ (λy hy=>by rw[EW hy];simp)];rfl
theorem nL (h:3<=n/\n<=10):∃d,NO (n:Int)=some (d,true)/\G9 d []/\AT d.Store=[]/\d.Store.Next=1/\d.Flash=Flash.mk (List.replicate n (Block.mk false 0 Lj)):=by
 have hP:=AAk h;have b:SR (Ke 0 (Flash.mk<|List.replicate n<|Block.mk false 0 Lj).Blocks) []:=by
  rw[dE];exact⟨List.Pairwise.nil,λ_=>rfl⟩
 obtain⟨d,u1,u2,u3⟩:=Kx hP b;have a:=u2.ab;have:Jj (Cy<|A6 [])=([],1):=rfl;rw[this]at a
 injection a with e1 e2
 refine⟨d,?_,⟨u2,⟨⟨by simp,by simp,by simp,by simp,by simp,by simp⟩,List.Pairwise.nil,⟨λy hy=>by cases hy⟩⟩,?_,λx hx=>by cases hx⟩,e1,e2,u3⟩
 ·grind [fO,NO]
 rw[e1];refine⟨λc hc=>?_,λc c' hc=>?_⟩
 ·obtain⟨_,p,hp,_⟩:=hc;cases hp
 obtain⟨_,p,hp,_⟩:=hc;cases hp
structure AAA (d:Av) (r:List Ak):Prop where
 ids:∀p∈AT d.Store,1<=p.1/\p.1<=3
 pg:∀y∈r,y.Page.Kind=1->y.Page.Tx<=13/\∃s∈ten,Vq y.Page.Text=some s
structure Ext (d:Av) (r:List Ak):Prop extends AAA d r where
 tx:Dy r<=1000
 sq:CT r<=100000
 wear:DW d.Flash 1000
theorem ABU.text {q:Oz} (h:ABU q):q.Text∈ten:=by
 rcases h.rest with⟨_,h2,_⟩|⟨_,h2,_⟩
 ·exact h2
 grind [JJ,DH,ten]
theorem AAA.step {q:Oz} (h:AAA d r) (hq:ABU q) (hn:d.Store.Next<=13) (hf:AAz r r' d.Store.Next q.Text) (hi:ABR d d' q.Vol):AAA d' r':=by
 refine⟨λp hp=>?_,λy hy hk=>?_⟩
 ·rcases hi p hp with⟨p',h1,h2⟩|h1
  ·rw[<-h2];exact h.ids p' h1
  rw[h1];exact hq.vol
 rcases hf.1 y hy hk with⟨z,z1,z2,z3,z4⟩|⟨h1,h2⟩
 ·have:=h.pg z z1 z2
  grind
 exact⟨by omega,_,hq.text,h2⟩
theorem vK (d:Av) (h:bL d.Flash r) (hs:Mg d.Store<=1048576) (id:Int) (k:Nat) (hk:k<16):∃u ok,Gm r d.Store id (k:Int)=some (u,ok)/\R1 d id (k:Int)=some (u,ok):=by
 unfold Mg XI at hs;have hl:=Vp (z:=Wj) (l:=d.Store.Arena.Knots);have ha:Qk d.Store.Arena:=by unfold Qk;omega
 unfold Gm R1;obtain⟨v,h1,h2,h3⟩:=TP d.Store id (by omega);rw[h1,h2];simp only[Aa]
 cases decide (v<0)with
 |true=>grind
 |false=>
  obtain⟨c,c1,c2⟩:=qX d.Store (by omega) ha id k hk;rw[c1,c2];simp only[Aa]
  cases c==0 with
  |true=>grind
  |false=>
   obtain⟨u,ok,t1,t2⟩:=Vn h c
   grind
theorem vT (h:Cj s):Mg s<=1048576:=by
 have h1:=h.len;have h2:=h.small;have a:∀l:List Ba,(∀k∈l,k.Kids.length=4)->(l.map Wj).sum=4*l.length:=by
  intro l
  induction l with
  |nil=>intro _;rfl
  |cons k l ih=>grind [Wj]
 have:=a s.Arena.Knots (λk hk=>by
  obtain⟨i,hi,rfl⟩:=Au hk;have:=(FZ.1 h.ar i hi).1
  grind [OK])
 unfold Mg XI zl;omega
theorem pH (h:G9 d r) (vol:Int) (hk:k<16):R1 d vol (k:Int)=Gm r d.Store vol (k:Int):=by
 obtain⟨u,ok,h1,h2⟩:=vK d h.dev.scan (vT h.dev.st) vol k hk;rw[h1,h2]
theorem YY (h:Cj s) {live:List Int} (hl:En s=some live):Kt s=some live:=by
 obtain⟨l,e1,e2,_,_⟩:=Wh s (by have:=h.len;omega)<|iG h
 grind
theorem nE (h:Fe d r) {live:List Int} (hl:En d.Store=some live) (l2:asc live) (l4:live.length<=16777216) (a b:Int):Yn d.Flash d.Store a b=some ((cn r.length (λj=>(Co r live a)[j]?.getD false&&bk r b j):Nat):Int)/\GY d.Flash d.Store a b=some ((cn r.length (λj=>(Co r live a)[j]?.getD false&&bk r b j):Nat):Int):=by
 obtain⟨n,n1,n2⟩:=WW h.scan d.Store (YY h.st hl) l2 l4 a b;have c:=SH r (Co r live a) b h.scan.len<|JA _ _ _;have e:Co r live a=live.foldl (aR r) (r.map<|CB a):=rfl;rw[e]at c;rw[n1]at c;unfold Yn;rw[h.scan.s,hl];simp only[Aa];rw[Jc r live _ h.scan.len l4]
 grind
theorem ABx (h:Fe d r) (hy:y∈r):GH y.Page:=by
 obtain⟨b,x,g1,g2,_,g3⟩:=h.scan.page y hy;obtain⟨_,k1⟩:=C0 g1;obtain⟨_,k2⟩:=C0 g2;have hx:=h.fl.text b (Ao k1) x<|Ao k2;obtain⟨p,ok,m1,_,_,m2⟩:=Ij x.Text (by omega);rw[g3]at m1
 injection m1 with m1
 obtain⟨v,q1,q2⟩:=Tm p
 grind
theorem AD9 (hc:Jo g) (ss:List AF) (hs:ss.length<=1000) (p:Page) (b:Int):
  (∃s g',CO g ss p=some (g',ss++ [s],true)/\Jo g'/\CD (F9.mk g ss) p b=some (if(s.Block==b)=true then(false,F9.mk g ss)else(true,F9.mk g' (ss++ [s]))))\/
  (∃g' st,CO g ss p=some (g',st,false)/\∃w,CD (F9.mk g ss) p b=some (false,w)):=by
 obtain⟨t,ok,t1,t2⟩:=WT p;obtain⟨bb,l,room,p1,p2,p3⟩:=ZN g hc;unfold CO CD;rw[t1,t2,p1,p2]
 cases ok with
 |false=>simp
 |true=>
  cases room with
  |false=>simp
  |true=>
   obtain⟨g2,v,g1,g3,g4⟩:=Wi g (AF.mk 1 bb l t) hc;have a:Jo g2:=by grind [TN.cap]
   simp only[An,Ad,Aa,g1,g3];rw[Bw<|by grind]
   cases v with
   |true=>
    refine .inl ⟨AF.mk 1 bb l t,g2,rfl,a,?_⟩
    cases hb:(bb==b)with
    |true=>rfl
    |false=>rfl
   |false=>
    refine .inr ⟨g2,_,rfl,?_⟩
    cases hb:(bb==b)with
    |true=>grind
    |false=>simp
abbrev MvS:=Int×List AF×List Block
def aQ (sq:Int) (y:Ak):Page:=Page.mk 1 sq y.Page.Tx 0 1 y.Page.Text
noncomputable def mv (b:Int):List Ak->MvS->Option (Option MvS)
 |[],o=>some (some o)
 |y::ys,o=>(CO (Flash.mk o.2.2) o.2.1 (aQ o.1 y)).bind λv=>if v.2.2=true then(match v.2.1.getLast? with
  |some s=>if(s.Block==b)=true then some none else mv b ys (o.1+1,v.2.1,v.1.Blocks)
  |none=>some none)else some none
theorem yW (b:Int):∀(xs ys:List Ak) (o:MvS),mv b (xs++ys) o=(mv b xs o).bind λq=>match q with
  |some o'=>mv b ys o'
  |none=>some none
 |[],ys,o=>rfl
 |x::xs,ys,o=>by
  simp only[Cl,mv]
  cases CO (Flash.mk o.2.2) o.2.1 (aQ o.1 x)with
  |none=>rfl
  |some v=>
   simp only[Aa];split
   ·split
    ·split
     ·rfl
     exact yW b xs ys _
    rfl
   rfl
def MvI (m:Nat) (o:MvS):Prop:=Jo (Flash.mk o.2.2)/\o.2.1.length<=m/\0<=o.1/\o.1<=1000000001+m
theorem oZ {o:MvS} (h:MvI m o) (hm:m<=1000):
  (∃s g',CO (Flash.mk o.2.2) o.2.1 (aQ o.1 y)=some (g',o.2.1++ [s],true)/\(s.Block==b)=false/\(∀ys,mv b (y::ys) o=mv b ys (o.1+1,o.2.1++ [s],g'.Blocks))/\MvI (m+1) (o.1+1,o.2.1++ [s],g'.Blocks)/\CD (F9.mk (Flash.mk o.2.2) o.2.1) (aQ o.1 y) b=some (true,F9.mk g' (o.2.1++ [s])))\/
  ((∀ys,mv b (y::ys) o=some none)/\(∃w,CD (F9.mk (Flash.mk o.2.2) o.2.1) (aQ o.1 y) b=some (false,w))/\((∃s g',CO (Flash.mk o.2.2) o.2.1 (aQ o.1 y)=some (g',o.2.1++ [s],true)/\(s.Block==b)=true)\/∃g' st,CO (Flash.mk o.2.2) o.2.1 (aQ o.1 y)=some (g',st,false))):=by
 obtain⟨h1,h2,h3,h4⟩:=h
 rcases AD9 h1 o.2.1 (by omega) (aQ o.1 y) b with⟨s,g',a1,a2,a3⟩|⟨g',st,a1,w,a2⟩
 ·cases hb:(s.Block==b)with
  |true=>grind [mv]
  |false=>
   rw[hb]at a3;refine .inl ⟨s,g',a1,hb,λys=>by grind [mv],⟨a2,?_,?_,?_⟩,by rw[a3];rfl⟩
   ·grind
   ·omega
   omega
 grind [mv]
theorem yV:∀(xs:List Ak) {m:Nat} {o:MvS},MvI m o->m+xs.length<=1000->∃v,mv b xs o=some v/\∀o',v=some o'->MvI (m+xs.length) o'
 |[],m,o,h,_=>⟨some o,rfl,λo' e=>by grind⟩
 |x::xs,m,o,h,hm=>by
  rw[AD]at hm
  rcases oZ (b:=b) (y:=x) h (by omega)with⟨s,g',a1,a2,a3,a4,a5⟩|⟨a1,_⟩
  ·obtain⟨v,v1,v2⟩:=yV xs a4 (by omega);exact⟨v,by rw[a3,v1],λo' e=>by grind⟩
  simp_all
def KK (b i:Int) (nd:List Bool) (r:List Ak):List Ak:=((nd.zip r).filter λq=>q.1&&(q.2.Block==b)&&(q.2.Leaf==i)).map Prod.snd
theorem rU {nd:List Bool} (hr:r.length<=40) (hk:∀y∈r,y.Page.Kind=1->y.Page.Count=1/\y.Page.Part=0) (d:nd.length=r.length) (hn:∀(j:Nat) y,r[j]?=some y->nd[j]?=some true->y.Page.Kind=1) (b i:Int):∀(n j:Nat),j+n=r.length->∀{m:Nat} {o:MvS},MvI m o->m+n<=1000->
  Ai (λs:List AF×Int×Int×List Block=>Em b r nd i s.1 s.2.1 s.2.2.1 s.2.2.2) (o.2.1,o.1,(j:Int),o.2.2)=(mv b (KK b i (nd.drop j) (r.drop j)) o).map λq=>match q with
   |some o'=> .inl (o'.2.1,o'.1,o'.2.2)
   |none=> .inr (.inr (.inr ([],false)))
 |0,j,hj,m,o,ho,hm=>by
  rw[Ax];simp only[Em,JB];rw[cF,List.drop_of_length_le (by omega),List.drop_of_length_le (by omega)];rfl
 |n+1,j,hj,m,o,ho,hm=>by
  have a:j<r.length:=by omega
  have hx:=Ab a;have c:=Ab (show j<nd.length by omega);have hd:nd.drop j=nd[j]::nd.drop (j+1):=AE (by omega);have e:r.drop j=r[j]::r.drop (j+1):=AE a
  have go:∀{m':Nat} {o':MvS},MvI m' o'->m'+n<=1000->_:=λ{m' o'} h1 h2=>rU hr hk d hn b i n (j+1) (by omega) (m:=m') (o:=o') h1 h2
  rw[Ax];simp only[Em,DL a,Ap,hx,c,Aa];rw[ad1,hd,e];have es:KK b i (nd[j]::nd.drop (j+1)) (r[j]::r.drop (j+1))=if(nd[j]&&(r[j].Block==b)&&(r[j].Leaf==i))=true then r[j]::KK b i (nd.drop<|j+1) (r.drop<|j+1)else KK b i (nd.drop<|j+1) (r.drop<|j+1):=by grind [List.zip_cons_cons,KK]
  rw[es]
  cases f:nd[j]with
  |false=>
   exact go ho<|by omega
  |true=>
   cases hb:(r[j].Block==b)with
   |false=>
    simp only[bne,hb,BK,Al,Aa,Bool.false_and,ME,pD];exact go ho<|by omega
   |true=>
    simp only[bne,hb,An,Ad,Aa,Bool.true_and]
    cases g:(r[j].Leaf==i)with
    |false=>
     exact go ho<|by omega
    |true=>
     simp only[An,Ad,CC];have h1:=hn j r[j] hx (by rw[c,f]);obtain⟨h2,h3⟩:=hk r[j] (Ar a) h1;have ep:Page.mk r[j].Page.Kind o.1 r[j].Page.Tx r[j].Page.Part r[j].Page.Count r[j].Page.Text=aQ o.1 r[j]:=by rw[h1,h2,h3];rfl
     rw[ep];obtain⟨c1,c2,c3,c4⟩:=ho
     rcases oZ (b:=b) (y:=r[j]) ⟨c1,c2,c3,c4⟩ (by omega)with⟨s,g',a1,a2,a3,a4,_⟩|⟨a1,_,⟨s,g',a2,a3⟩|⟨g',st,a2⟩⟩
     ·rw[a1,a3];simp only[Aa,An,Ad];rw[Bh,A9,Db,BL,show((o.2.1.length+1:Nat):Int)-1=(o.2.1.length:Int) by omega,EI];simp only[Aa,a2,Ad];rw[BZ];exact go a4<|by omega
     ·grind [Bh,BL,EI]
     grind
theorem XK (k:IntKind) (n:Nat) (h:n<=12) (hk:k= .u8\/k= .u64):k.wrap (n:Int)=(n:Int):=by
 have:n=0\/n=1\/n=2\/n=3\/n=4\/n=5\/n=6\/n=7\/n=8\/n=9\/n=10\/n=11\/n=12:=by omega
 rcases hk with rfl|rfl<;>rcases this with rfl|rfl|rfl|rfl|rfl|rfl|rfl|rfl|rfl|rfl|rfl|rfl|rfl<;>rfl
set_option maxRecDepth 20000 in
theorem bI (n:Nat) (h:n<=12):∃v,VG (IntKind.u64.wrap (n:Int))=some v:=by
 rw[XK _ n h<|.inr rfl];unfold VG YF;generalize hT:(bs _)=T;have a:13<=(L T).length:=by rw[<-hT,DH];decide
 rw[cF,Aa,cF,Aa,cF,Aa,XK _ n h<|.inl rfl,E8 (i:=n) _<|by omega];exact⟨_,rfl⟩
theorem cK {γ:Type} (a:γ->Int) (l:List γ) (hl:l.length<=12):∃r,KH (MM a) l=some r/\srt a r/\Bx a l r:=by
 obtain⟨v,hv⟩:=bI l.length hl;obtain⟨r,h1,h2,h3⟩:=Iu a [] l [] (by simp;omega);unfold KH
 grind [Bh,Ax,BL,Et,FC]
end Go.TI
