/- What is told of a drawn life, spoilt or not, is what the document tells. No condition; no program is in sight. -/
import Derived.Test.YtogblbgocmfigaaGreatWAD
set_option linter.unusedVariables false
set_option linter.unusedSimpArgs false
namespace Go.TI
open Go
def u32 (s:Int):Prop:=0<=s/\s<4294967296
theorem wF (s:Int) (hs:u32 s):∃v,Ah (λs:Int×Int=>IN s.1 s.2) (s,0)=some v/\Ah (λs:Int×Int=>Ja s.1 s.2) (s,0)=some v/\u32 v:=
 Gk (body:=λs:Int×Int=>IN s.1 s.2) (body':=λs:Int×Int=>Ja s.1 s.2) (λ(s:Int) i=>(s,i)) 8 (λ_ s=>u32 s) u32
  (λs i hi hs=>by grind [an1,AFT,ad1,AEr,IN,Ja,u32])
  (λs hs=>by grind [IN,Ja]) (s:=s) hs
theorem wE (s:Int) (t:ByteArray) (hs:u32 s) (ht:(L t).length<=9223372036854775806):∃v,TP s t=some v/\Uj s t=some v/\u32 v:=by
 obtain⟨v,h1,h2,h3⟩:=Gk (body:=λs:Int×Int=>KN t s.1 s.2) (body':=λs:Int×Int=>Lj t s.1 s.2) (λ(s:Int) i=>(s,i)) (L t).length (λ_ s=>u32 s) u32
  (λs i hi hs=>by
   obtain⟨v,h1,h2,h3⟩:=wF (xr s<|IntKind.u32.wrap ((L t)[i]).toNat)<|AEr _ _
   grind [EN,ad1,KN,Lj])
  (λs hs=>by grind [Bv,KN,Lj]) (s:=s) hs
 unfold TP Uj
 grind
theorem sW (t:ByteArray) (ht:(L t).length<=9223372036854775806):∃v,Pp t=some v/\ZD t=some v/\u32 v:=by
 obtain⟨v,h1,h2,h3⟩:=wE 4294967295 t ⟨by omega,by omega⟩ ht;unfold Pp ZD
 grind
def four (v:Int):ByteArray:=F7 [IntKind.u8.wrap<|Int.fdiv v<|2^(min (24:Int).toNat IntKind.u32.bits),IntKind.u8.wrap<|Int.fdiv v<|2^(min (16:Int).toNat IntKind.u32.bits),IntKind.u8.wrap<|Int.fdiv v<|2^(min (8:Int).toNat IntKind.u32.bits),IntKind.u8.wrap v]
theorem dF (v:Int):(L (four v)).length=4:=by rfl
theorem kN (t:ByteArray):I6 t=KO t:=by
 unfold I6 KO;by_cases h:(GF t)>20000
 ·grind
 rw[Bv]at h;obtain⟨v,h1,h2,_⟩:=sW t (by omega);rw[h1,h2];rfl
theorem UC (t:ByteArray):(20000<(L t).length->KO t=some (bs [],false))/\((L t).length<=20000->∃v,Pp t=some v/\KO t=some (t++four v,true)):=by grind [Bv,sW,GY,dF,KO,LJ,four]
theorem sT (t:ByteArray) (ht:(L t).length<=9223372036854775806):∃u ok,LL t=some (u,ok)/\Rx t=some (u,ok)/\(ok=true->(L u).length<=20000/\∃v,Pp u=some v/\t=u++four v)/\(ok=false->u=bs []):=by
 unfold LL Rx;have e4:sb (GF t) 4=((L t).length:Int)-4:=by rw[Bv,BY]
 rw[e4];by_cases h4:(L t).length<4
 ·simp_all [Bv];grind
 rw[Ai (by omega:¬((L t).length:Int)-4<0),Ai (by rw[Bv];omega:¬GF t<4)];have en:((L t).length:Int)-4=(((L t).length-4:Nat):Int):=by omega
 rw[en,Bv];have b:sub t 0 (((L t).length-4:Nat):Int)=some (t.extract 0<|(L t).length-4):=FW t (i:=0) (by omega) (by omega);have a:sub t (((L t).length-4:Nat):Int) ((L t).length:Int)=some (t.extract ((L t).length-4) (L t).length):=FW t (by omega) (by omega);rw[b,a];simp only[Aa];have hu:(L<|t.extract 0<|(L t).length-4).length=(L t).length-4:=by rw[K8];simp
 obtain⟨k1,k2⟩:=UC<|t.extract 0<|(L t).length-4;rw[kN];by_cases hb:20000<(L t).length-4
 ·grind
 obtain⟨v,h1,h2⟩:=k2 (by omega);rw[Ai (by omega:¬(((L t).length-4:Nat):Int)>20000),h1,h2];have h3:LJ v=some (four v):=rfl;simp only[Ae,Aa,h3,Ak];have c:seq (t.extract ((L t).length-4) (L t).length) (four v)=seq (t.extract 0 ((L t).length-4)++four v) t:=by
  rw[Se,Se,Hq,K8,K8,N7,Bi,Bi];have e1:List.take ((L t).length-((L t).length-4)) (List.drop ((L t).length-4)<|L t)=(L t).drop ((L t).length-4):=AQ (by simp);have e2:List.take ((L t).length-4-0) (List.drop 0<|L t)=(L t).take ((L t).length-4):=by simp
  rw[e1,e2];constructor
  ·grind [BI]
  grind
 grind [KH]
theorem IW (n:Nat) (h:n<=1099511627776):∃s,H8 (n:Int)=some s/\L s=Ch n:=by
 unfold H8;obtain⟨m,o,h1,h2,h3,h4⟩:=j8 (body:=λs:Int×List Int=>Pn s.1 s.2) (λ_ _=>rfl) n [] (by simpa using h);rw[h1,Aa];have:IntKind.u8.wrap (m:Int)=m:=by rw[IntKind.wrap_u8];omega
 rw[this,AZ (by grind),Aa]
 grind [OY]
def AEx (t:ByteArray) (at_:Int) (r:Int×Int×Bool):Prop:=(r.2.2=false/\r.1=0/\r.2.1=0)\/(r.2.2=true/\∃(a b n:Nat),at_=a/\r.2.1=b/\r.1=n/\a<b/\b<=(L t).length/\n<=1000000000/\Ch n=((L t).drop a).take (b-a))
theorem aD (l:List UInt8) (a k:Nat) (h:a+k<l.length):(l.drop a).take (k+1)=(l.drop a).take k++ [l[a+k]]:=by grind [Ag]
theorem mN (k:Nat) (h:k<5):(128:Nat)^k<=268435456:=by
 have:k<=4:=by omega
 calc 128^k<=128^4:=Nat.pow_le_pow_right (by omega) this
  _=268435456:=by decide
theorem Zv:∀ds:List UInt8,FV ds<128^ds.length
 |[]=>by simp[FV]
 |d::ds=>by
  have:=Zv ds
  grind [FV]
theorem ADo (x k:Nat) (hx:x<128) (hk:k<5):shl .i64 (x:Int) (ml 7 (k:Int))=some ((x*128^k:Nat):Int):=by
 have h7:ml 7 (k:Int)=((7*k:Nat):Int):=by grind [Qk]
 unfold shl;rw[h7,B6<|by omega];have e:(2:Int)^(min ((7*k:Nat):Int).toNat IntKind.i64.bits)=((128^k:Nat):Int):=by
  have hb:IntKind.i64.bits=64:=rfl;have h128:(128:Nat)^k=2^(7*k):=by rw[Nat.pow_mul]
  grind
 rw[e];have hp:=mN k hk;have hm:x*128^k<=128*268435456:=gM (by omega) hp
 grind [Pa]
theorem wV (x:Nat):Int.tmod (x:Int) 128=((x %128:Nat):Int):=rfl
theorem IF (t:ByteArray) (at_:Int) (ht:(L t).length<=4611686018427387904) (v:oI at_):∃r,Km t at_=some r/\K0 t at_=some r/\AEx t at_ r:=by
 have fails:∀(at_:Int),(at_<0\/((L t).length:Int)<=at_)->oI at_->K0 t at_=some (0,0,false):=by grind [Ay,Bv,BY,K0,H0]
 by_cases w:0<=at_/\at_<(L t).length
 ·obtain⟨a,rfl⟩:=Ck w.1;have y:∀(B1:Int×Int×Int->Option ((Int×Int×Int)⊕Unit⊕(Int×Int×Bool))) (B2:Int×Int->Option ((Int×Int)⊕Unit⊕(Int×Int×Bool))),(∀n sc i,B1 (n,sc,i)=Dv t (a:Int) n sc i)->(∀n k,B2 (n,k)=H0 t (a:Int) n k)->∀(m k:Nat),k+m=5->a+k<=(L t).length->(∀d∈((L t).drop a).take k,128<=d.toNat)->
    ∃r,(Ah B1 (((FV (((L t).drop a).take k):Nat):Int),((128^k:Nat):Int),((a+k:Nat):Int))=some r/\Ah B2 (((FV (((L t).drop a).take k):Nat):Int),(k:Int))=some r)/\(r= .inl ()\/∃q,r= .inr q/\AEx t (a:Int) q):=by
   intro B1 B2 z h0 m
   induction m with
   |zero=>grind [Ay,Cl,Dv,H0]
   |succ m ih=>
    intro k hk h9 hd;rw[Ay,Ay B2];simp only[z,h0,Dv,H0];have j:k<5:=by omega
    rw[Cl (b:=5) (by omega) (by omega),Ac (by omega:((a+k:Nat):Int)<(a:Int)+5),Ac (by omega:(k:Int)<5),Ac (by omega:(a:Int)>=0),Bv,BY];by_cases l:a+k<(L t).length
    ·rw[Ac (by omega:((a+k:Nat):Int)<((L t).length:Int)),Ac (by omega:(a:Int)<((L t).length:Int)-k)];have eak:ad (a:Int) (k:Int)=((a+k:Nat):Int):=by rw[Cl];omega
     simp only[Ao,Aa,EN t l,eak];have hx:=o7<|(L t)[a+k];have f:=aD (L t) a k l;have o:(((L t).drop a).take k).length=k:=by simp;omega
     have g:=Pg (((L t).drop a).take k) [(L t)[a+k]];rw[<-f,o]at g;have h4:=Zv<|((L t).drop a).take k;rw[o]at h4;have hp:=mN k j;generalize a0:(L t)[a+k]=x at hx f g;simp only[FV,Nat.mul_zero,wL]at g;have hw:IntKind.i64.wrap (x.toNat:Int)=x.toNat:=Pa (by omega) (by omega);have h7:x.toNat %128*128^k<=127*268435456:=gM (by omega) hp;have emul:ml ((x.toNat %128:Nat):Int) ((128^k:Nat):Int)=((x.toNat %128*128^k:Nat):Int):=by grind [Qk]
     have enew:ad (((FV (((L t).drop a).take k):Nat)):Int) ((x.toNat %128*128^k:Nat):Int)=((FV (((L t).drop a).take<|k+1):Nat):Int):=by grind [Cl]
     rw[hw,wV,ADo _ k (by omega) j];simp only[Aa,emul,enew];by_cases h:x.toNat<128
     ·rw[Ac (by omega:(x.toNat:Int)<128),Ai (by omega:¬(x.toNat:Int)>=128)];have ek1:ad ((a+k:Nat):Int) 1=((a+k+1:Nat):Int):=ad1 (by omega);have c:=j7 (((L t).drop a).take k) x hd h;rw[<-f]at c;have h5:(((L t).drop a).take k≠ [])↔0<k:=by grind
      rw[h5]at c;have p:sub t (a:Int) ((a+k+1:Nat):Int)=some (t.extract a<|a+k+1):=FW t (by omega) (by omega);rw[ek1,p];by_cases h8:FV (((L t).drop a).take<|k+1)>1000000000
      ·rw[Ac (by omega:((FV (((L t).drop a).take<|k+1):Nat):Int)>1000000000)];refine⟨.inr (0,0,false),⟨rfl,?_⟩,.inr ⟨_,rfl,.inl ⟨rfl,rfl,rfl⟩⟩⟩
       grind
      rw[Ai (by omega:¬((FV (((L t).drop a).take<|k+1):Nat):Int)>1000000000)];obtain⟨s,h6,a1⟩:=IW (FV<|((L t).drop a).take<|k+1) (by omega);simp only[Ae,Aa,h6];have u:seq s (t.extract a<|a+k+1)=decide (¬(x.toNat=0/\0<k)):=by grind [Se,K8]
      rw[u];by_cases hz:x.toNat=0/\0<k
      ·rw[Ai λe=>e hz];refine⟨.inr (0,0,false),⟨rfl,?_⟩,.inr ⟨_,rfl,.inl ⟨rfl,rfl,rfl⟩⟩⟩
       grind
      rw[Ac hz];refine⟨.inr (((FV (((L t).drop a).take<|k+1):Nat):Int),((a+k+1:Nat):Int),true),⟨rfl,?_⟩,.inr ⟨_,rfl,.inr ⟨rfl,a,a+k+1,_,rfl,rfl,rfl,by omega,by omega,by omega,?_⟩⟩⟩
      ·grind
      grind
     rw[Ai (by omega:¬(x.toNat:Int)<128),Ac (by omega:(x.toNat:Int)>=128)];have e1:ml ((128^k:Nat):Int) 128=((128^(k+1):Nat):Int):=by grind [Qk]
     have e2:ad ((a+k:Nat):Int) 1=((a+(k+1):Nat):Int):=ad1 (by omega);have e3:ad (k:Int) 1=((k+1:Nat):Int):=ad1 (by omega);rw[e1,e2,e3];exact ih (k+1) (by omega) (by omega)<|by grind
    grind
  obtain⟨r,⟨h1,h2⟩,h3⟩:=y (λs=>Dv t (a:Int) s.1 s.2.1 s.2.2) (λs=>H0 t (a:Int) s.1 s.2) (λ_ _ _=>rfl) (λ_ _=>rfl) 5 0 rfl (by omega) (by simp);unfold Km K0;have hw:BD (a:Int) 0 (GF t)=some true:=by grind [Bv,BD]
  rw[hw];simp only[List.take_zero,FV,Nat.pow_zero,wL]at h1 h2;rw[show((0:Nat):Int)=0 from rfl,show((1:Nat):Int)=1 from rfl]at h1;rw[show((0:Nat):Int)=0 from rfl]at h2;rw[h1,h2]
  rcases h3 with rfl|⟨q,rfl,h3⟩
  ·exact⟨_,rfl,rfl,.inl ⟨rfl,rfl,rfl⟩⟩
  grind
 have hf:=fails at_ (by omega) v;refine⟨(0,0,false),?_,hf,.inl ⟨rfl,rfl,rfl⟩⟩;unfold Km
 grind [Bv,Ay,BD,Dv]
theorem dN:Gn=BD:=rfl
variable {r n x:Int} {R:List Int} {i j k:Nat} {s:Store} {α γ:Type} {v:Vol} {p:Nat->Bool} {y:Al} {f:Flash} {l:List α}
theorem Ct {i:Int} {x:α} (h:gi l i=some x):0<=i/\l[i.toNat]?=some x:=by grind [gi]
theorem OP:Ob=FK:=by
 have h2:NM=Ej:=by
  funext x y;unfold NM Ej
  cases decide (y<ln x.Leaves)with
  |false=>rfl
  |true=>
   cases gi x.Leaves y with
   |none=>rfl
   |some z=>rfl
 funext f;unfold Ob FK;have:NN f=Ek f:=by
  funext i;unfold NN Ek;rw[h2];rfl
 rw[this];rfl
def JD (f:Flash):Prop:=f.Blocks.length<=1048576/\∀b∈f.Blocks,b.Leaves.length<=1048576
theorem Sh (x a b:Int):BD x a b=some (decide (a<=x)&&decide (x<=b)):=by
 unfold BD
 grind
theorem ADP (x:Leaf):∃v,NR x=some v:=by
 unfold NR;cases x.Is==0
 ·cases x.Is==1
  ·cases x.Is==2<;>exact⟨_,rfl⟩
  simp[Sh]
 exact⟨_,rfl⟩
theorem VO (f:Flash) (h:JD f):∃v,FK f=some v/\(v=true->f.Blocks.length<=10/\∀b∈f.Blocks,b.Leaves.length=4):=by
 have a:=AC (body:=λs:Int=>Ek f s) (λ(_:Unit) i=>i) f.Blocks.length (λi _=>∀j b,j<i->f.Blocks[j]?=some b->b.Leaves.length=4) (λr=>r= .inr false\/r= .inl ()/\∀b∈f.Blocks,b.Leaves.length=4)
  (λs i hi hs=>by
   obtain⟨x,hx⟩:∃x,f.Blocks[i]?=some x:=⟨_,Ab hi⟩;have hM:=h.1;simp only[Ek,Ds hi,Aq,hx,Aa,Sh];by_cases h4:x.Leaves.length=4
   ·have e1:(ln x.Leaves !=4)=false:=by simp[ln,h4]
    simp only[e1,Ae,Aa]
    cases hw:(decide (0<=x.Wear)&&decide (x.Wear<=1000000000))with
    |false=>grind
    |true=>
     simp only[Ak,Ae];obtain⟨r,h5,h6⟩:=AC (body:=λs:Int=>Ej x s) (λ(_:Unit) i=>i) x.Leaves.length (λ_ _=>True) (λr=>r= .inl ()\/r= .inr (.inr<|.inr false))
      (λs k hk _=>by
       obtain⟨y,hy⟩:∃y,x.Leaves[k]?=some y:=⟨_,Ab hk⟩;obtain⟨v,hv⟩:=ADP y;simp only[Ej,Ds hk,Aq,hy,Aa,hv];have fin:∀j:Bool,(∃s':Unit,(bif j then some (.inr<|.inr<|.inr<|.inr false)else some (.inl<|ad (k:Int) 1):Option (Int⊕Unit⊕Int⊕Unit⊕Bool))=some (.inl (((k+1:Nat)):Int))/\True)\/∃b,(bif j then some (.inr<|.inr<|.inr<|.inr false)else some (.inl<|ad (k:Int) 1):Option (Int⊕Unit⊕Int⊕Unit⊕Bool))=some (.inr b)/\(b= .inl ()\/b= .inr (.inr<|.inr false)):=by
        intro j
        cases j with
        |true=>grind
        |false=>exact .inl ⟨(),by rw[Ae,ad1],trivial⟩
       cases v with
       |false=>exact fin true
       |true=>
        by_cases c:0<k
        ·rw[cT,BY,L5 (by omega) (by omega),Aa];cases(x.Leaves[((k:Int)-1).toNat]'(by omega)).Is==0
         ·exact fin false
         exact fin<|y.Is !=0
        simp_all)
      (λs _=>⟨_,by grind [Ej],.inl rfl⟩) (s:=()) trivial
     rw[h5,Aa]
     rcases h6 with rfl|rfl
     ·refine .inl ⟨(),by rw[Dj,ad1],?_⟩
      grind
     grind
   grind [ln])
  (λs hs=>⟨_,by simp[CU,Ek],.inr ⟨rfl,λb hb=>by
   obtain⟨j,hj,e⟩:=Au hb
   exact hs j b hj<|by grind⟩⟩) (s:=()) (λj b hj=>absurd hj<|by omega)
 obtain⟨r,h1,h2⟩:=a;unfold FK;rw[h1,Aa]
 rcases h2 with rfl|⟨rfl,h2⟩
 ·simp
 simp_all [Sh,Bb];grind
theorem UE (p:Page):∃v,KT p=some v/\Tp p=some v/\(v=true->(p.Kind=1\/p.Kind=2)/\(1<=p.Seq/\p.Seq<=1000000000)/\(1<=p.Tx/\p.Tx<=1000000000)/\(1<=p.Count/\p.Count<=9)/\(0<=p.Part/\p.Part<p.Count)/\GF p.Text<=90):=by
 unfold KT Tp;rw[dN];simp only[Sh,Aa];by_cases h1:1<=p.Seq/\p.Seq<=1000000000
 ·by_cases h2:1<=p.Tx/\p.Tx<=1000000000
  ·by_cases h3:1<=p.Count/\p.Count<=9
   ·have e:sb p.Count 1=p.Count-1:=BY (by omega) (by omega);rw[e];by_cases h4:0<=p.Part/\p.Part<=p.Count-1
    ·by_cases h5:GF p.Text>90
     ·simp_all
     by_cases k2:p.Kind=2
     ·exact⟨true,by grind,by grind,λ_=>⟨.inr k2,h1,h2,h3,⟨h4.1,by omega⟩,by omega⟩⟩
     by_cases k1:p.Kind=1
     ·exact⟨p.Count==1,by grind,by grind,λ_=>⟨.inl k1,h1,h2,h3,⟨h4.1,by omega⟩,by omega⟩⟩
     have hk:(decide (1<=p.Kind)&&decide (p.Kind<=2))=false:=by grind
     exact⟨false,by simp[hk],by grind,by simp⟩
    refine⟨false,?_,?_,by simp⟩
    ·grind
    grind
   have e3:(decide (1<=p.Count)&&decide (p.Count<=9))=false:=by grind
   refine⟨false,?_,?_,by simp⟩
   ·grind
   grind
  have e2:(decide (1<=p.Tx)&&decide (p.Tx<=1000000000))=false:=by grind
  refine⟨false,?_,?_,by simp⟩
  ·grind
  simp[h1,e2]
 have e1:(decide (1<=p.Seq)&&decide (p.Seq<=1000000000))=false:=by grind
 refine⟨false,?_,?_,by simp⟩
 ·grind
 simp[e1]
def jB:Page:=Page.mk 0 0 0 0 0<|bs []
theorem Iw (u:ByteArray) (a:Int) (hu:(L u).length<=20000) (ha:oI a):De (EG.mk u a true)=some (0,EG.mk u a true):=by grind [IF,De]
theorem Kw {r:Int×Int×Bool} (u:ByteArray) (a:Int) (hu:(L u).length<=20000) (h:Km u a=some r):De (EG.mk u a false)=some (cond r.2.2 (r.1,EG.mk u r.2.1 false) (0,EG.mk u a true)):=by
 unfold De
 grind
theorem vM {a b:Nat} (l:List UInt8) (h:a<=b):l.drop a=(l.drop a).take (b-a)++l.drop b:=by
 have:=(BI (b-a)<|l.drop a).symm;rw[E5,show a+(b-a)=b by omega]at this;exact this
theorem YX (p:Page) (u:ByteArray) (k:UInt8) (n1 n2 n3 n4:Nat) (hp:KT p=some true) (hk:p.Kind=(k.toNat:Int)) (h1:p.Seq=n1) (h2:p.Tx=n2) (h3:p.Part=n3) (h4:p.Count=n4) (b1:n1<=1000000000) (b2:n2<=1000000000) (b3:n3<=1000000000) (b4:n4<=1000000000) (hu:(L u).length<=20000) (e:L u=[k]++Ch n1++Ch n2++Ch n3++Ch n4++L p.Text):DZ p=KO u:=by
 obtain⟨s1,q1,r1⟩:=IW n1 (by omega);obtain⟨s2,q2,r2⟩:=IW n2 (by omega);obtain⟨s3,q3,r3⟩:=IW n3 (by omega);obtain⟨s4,q4,r4⟩:=IW n4 (by omega);have hl:=Cu List.length e;have hb:Kj p.Kind=some (F7 [IntKind.u8.wrap p.Kind]):=rfl;have a:L (F7 [IntKind.u8.wrap p.Kind])=[k]:=by grind [OY,IntKind.wrap_u8,o7,UInt8.ofNat_toNat]
 unfold DZ;rw[hp];simp only[Aa,Ak,Ae,hb,h1,h2,h3,h4,q1,q2,q3,q4];rw[GY _ _ (by grind),Aa,GY _ _ (by grind [Hq]),Aa,GY _ _ (by grind [Hq]),Aa,GY _ _ (by grind [Hq]),Aa,GY _ _ (by grind [Hq]),Aa];have:F7 [IntKind.u8.wrap p.Kind]++s1++s2++s3++s4++p.Text=u:=by grind [JH,Hq]
 rw[this]
 cases KO u with
 |none=>rfl
 |some v=>rfl
theorem IG (t:ByteArray) (ht:(L t).length<=9223372036854775806):∃p ok,Fs t=some (p,ok)/\R3 t=some (p,ok)/\(ok=false->p=jB)/\(ok=true->KT p=some true):=by
 obtain⟨u,uok,j,k,m,n⟩:=sT t ht;unfold Fs R3;rw[j,k];simp only[Aa];have o1:oI 1:=⟨by omega,by omega⟩
 cases uok with
 |false=>
  have:=n rfl;subst this;have hz:(L<|bs []).length<=20000:=by rw[DS];simp
  exact⟨jB,false,rfl,rfl,λ_=>rfl,by simp⟩
 |true=>
  obtain⟨e,v,hv,q⟩:=m rfl;simp only[Ak,Ae,Aa];by_cases he:(L u).length<1
  ·have g:seq u (bs [])=true:=by grind [Se,DS]
   simp_all [Bv,Iw,jB]
  have g:seq u (bs [])=false:=by grind [Se,DS]
  rw[Ai (by rw[Bv];omega:¬GF u<1),g];simp only[Ae];have four_:∀(B:Int×Int×Int×Int×Int×Int->Option ((Int×Int×Int×Int×Int×Int)⊕(Int×Int×Int×Int×Int)⊕(Page×Bool))),(∀x y a b c d,B (x,y,a,b,c,d)=Er (u,true) x y a b c d)->
    ∃(a:Int) (m1 m2 m3 m4:Int) (bad:Bool),(∃c1 c2 c3,De (EG.mk u 1 false)=some (m1,c1)/\De c1=some (m2,c2)/\De c2=some (m3,c3)/\De c3=some (m4,EG.mk u a bad))/\
     Ah B (1,0,0,0,0,0)=some (bif bad then .inr (jB,false)else .inl (a,m1,m2,m3,m4))/\(bad=false->∃(a1 a2 a3 a4 n1 n2 n3 n4:Nat),m1=n1/\m2=n2/\m3=n3/\m4=n4/\a=a4/\1<a1/\a1<a2/\a2<a3/\a3<a4/\a4<=(L u).length/\n1<=1000000000/\n2<=1000000000/\n3<=1000000000/\n4<=1000000000/\
      Ch n1=((L u).drop 1).take (a1-1)/\Ch n2=((L u).drop a1).take (a2-a1)/\Ch n3=((L u).drop a2).take (a3-a2)/\Ch n4=((L u).drop a3).take (a4-a3)):=by
   intro B hB;obtain⟨r1,p1,q1,w1⟩:=IF u 1 (by omega) o1;have g1:=Kw u 1 e p1;rw[Ay,hB];unfold Er;rw[cT,q1,Aa]
   rcases w1 with⟨w1,w2,w3⟩|⟨w1,a0',a1,n1,z0,z1,z2,z3,z4,z5,z6⟩
   ·rw[w1]at g1⊢;exact⟨1,0,0,0,0,true,⟨_,_,_,g1,Iw u 1 e o1,Iw u 1 e o1,Iw u 1 e o1⟩,rfl,by simp⟩
   have ea0:a0'=1:=by omega
   subst ea0;rw[w1]at g1⊢;have x1:oI r1.2.1:=⟨by omega,by omega⟩;simp only[Ak,Ae,Ao]at g1⊢;rw[show((0:Int)==0)=true from rfl,Ao,show ad 0 1=1 from ad1 (i:=0)<|by omega];simp only;obtain⟨r2,p2,q2,y1⟩:=IF u r1.2.1 (by omega) x1;have g2:=Kw u r1.2.1 e p2;rw[Ay,hB];unfold Er;rw[cT,q2,Aa]
   rcases y1 with⟨y1,_,_⟩|⟨y1,b0,a2,n2,y2,y3,y4,y5,y6,y7,y8⟩
   ·rw[y1]at g2⊢;exact⟨r1.2.1,r1.1,0,0,0,true,⟨_,_,_,g1,g2,Iw u _ e x1,Iw u _ e x1⟩,rfl,by simp⟩
   have eb:b0=a1:=by omega
   subst eb;rw[y1]at g2⊢;have x2:oI r2.2.1:=⟨by omega,by omega⟩;simp only[Ak,Ae,Ao]at g2⊢;rw[show((1:Int)==0)=false from rfl,Ae,show((1:Int)==1)=true from rfl,Ao,show ad 1 1=2 from ad1 (i:=1)<|by omega];simp only;obtain⟨r3,p3,q3,k1⟩:=IF u r2.2.1 (by omega) x2;have g3:=Kw u r2.2.1 e p3;rw[Ay,hB];unfold Er;rw[cT,q3,Aa]
   rcases k1 with⟨k1,_,_⟩|⟨k1,c0,a3,n3,k2,k3,k4,k5,k6,k7,k8⟩
   ·rw[k1]at g3⊢;exact⟨r2.2.1,r1.1,r2.1,0,0,true,⟨_,_,_,g1,g2,g3,Iw u _ e x2⟩,rfl,by simp⟩
   have ec:c0=a2:=by omega
   subst ec;rw[k1]at g3⊢;have x3:oI r3.2.1:=⟨by omega,by omega⟩;simp only[Ak,Ae,Ao]at g3⊢;rw[show((2:Int)==0)=false from rfl,Ae,show((2:Int)==1)=false from rfl,Ae,show((2:Int)==2)=true from rfl,Ao,show ad 2 1=3 from ad1 (i:=2)<|by omega];simp only;obtain⟨r4,p4,q4,l1⟩:=IF u r3.2.1 (by omega) x3;have g4:=Kw u r3.2.1 e p4;rw[Ay,hB];unfold Er;rw[cT,q4,Aa]
   rcases l1 with⟨l1,_,_⟩|⟨l1,d0,a4,n4,l2,l3,l4,l5,l6,l7,l8⟩
   ·rw[l1]at g4⊢;exact⟨r3.2.1,r1.1,r2.1,r3.1,0,true,⟨_,_,_,g1,g2,g3,g4⟩,rfl,by simp⟩
   have ed:d0=a3:=by omega
   subst ed;rw[l1]at g4⊢;simp only[Ak,Ae,Ao]at g4⊢;rw[show((3:Int)==0)=false from rfl,Ae,show((3:Int)==1)=false from rfl,Ae,show((3:Int)==2)=false from rfl,Ae,show((3:Int)==3)=true from rfl,Ao,show ad 3 1=4 from ad1 (i:=3)<|by omega];simp only;rw[Ay,hB];unfold Er;rw[cF];exact⟨r4.2.1,r1.1,r2.1,r3.1,r4.1,false,⟨_,_,_,g1,g2,g3,g4⟩,rfl,λ_=>⟨b0,c0,d0,a4,n1,n2,n3,n4,z2,y4,k4,l4,l3,z3,y5,k5,l5,l6,z5,y7,k7,l7,z6,y8,k8,l8⟩⟩
  obtain⟨a,m1,m2,m3,m4,bad,⟨c1,c2,c3,f1,f2,f3,f4⟩,f5,f6⟩:=four_ (λs:Int×Int×Int×Int×Int×Int=>Er (u,true) s.1 s.2.1 s.2.2.1 s.2.2.2.1 s.2.2.2.2.1 s.2.2.2.2.2) λ_ _ _ _ _ _=>rfl;rw[f5];simp only[f1,f2,f3,f4,Aa]
  cases bad with
  |true=>grind [jB]
  |false=>
   obtain⟨a1,a2,a3,a4,n1,n2,n3,n4,rfl,rfl,rfl,rfl,rfl,i1,i2,i3,i4,i5,j1,j2,j3,j4,s1,s2,s3,s4⟩:=f6 rfl;simp only[Ae,Aa,Dj];have o:sx u 0=some (((L u)[0]'(by omega)).toNat:Int):=EN u (i:=0) (by omega);have h:sub u (a4:Int) (GF u)=some (u.extract a4 (L u).length):=by grind [Bv,FW]
   rw[o,h];simp only[Aa];have hk:=o7 ((L u)[0]'(by omega));have hw:IntKind.i64.wrap (((L u)[0]'(by omega)).toNat:Int)=((L u)[0]'(by omega)).toNat:=Pa (by omega) (by omega);rw[hw];obtain⟨po,po1,po2,_⟩:=UE (Page.mk (((L u)[0]'(by omega)).toNat:Int) n1 n2 n3 n4<|u.extract a4 (L u).length);rw[po2]
   cases po with
   |false=>
    have:DZ (Page.mk (((L u)[0]'(by omega)).toNat:Int) n1 n2 n3 n4<|u.extract a4 (L u).length)=some (bs [],false):=by grind [DZ]
    rw[this];simp[jB]
   |true=>
    have hT:L (u.extract a4 (L u).length)=(L u).drop a4:=by grind [K8,AQ]
    have f:L u=[(L u)[0]'(by omega)]++Ch n1++Ch n2++Ch n3++Ch n4++L (u.extract a4 (L u).length):=by
     rw[hT,s1,s2,s3,s4];have h0:L u=[(L u)[0]'(by omega)]++(L u).drop 1:=by
      have:=AD (l:=L u) (i:=0) (by omega);simpa using this
     grind [vM]
    rw[YX _ u ((L u)[0]'(by omega)) n1 n2 n3 n4 po1 rfl rfl rfl rfl rfl j1 j2 j3 j4 e f];obtain⟨v',hv',hs'⟩:=(UC u).2 e;rw[hv]at hv'
    injection hv' with hv'
    subst hv';rw[hs',Aa];have:seq (u++four v) t=true:=by grind [KH]
    simp only[Ak,Ae,Aa,this]
    grind
def ZQ (x:Leaf):Nat:=x.Text.size
def L9 (x:Block):Nat:=zl ZQ x.Leaves
def L8 (x:Flash):Nat:=zl L9 x.Blocks
theorem AD9 (f:Flash) (h:L8 f<=1048576):JD f/\∀b∈f.Blocks,∀x∈b.Leaves,(L x.Text).length<=1048576:=by
 have h1:=PG (z:=L9) (l:=f.Blocks);unfold L8 at h;refine⟨⟨by omega,λb hb=>?_⟩,λb hb x hx=>?_⟩
 ·grind [kT,L9,zl]
 grind [kT,eP,L9,ZQ]
def nl (l:List Block):Nat:=(l.map λb=>b.Leaves.length).sum
theorem AF9 (f:Flash):nl f.Blocks<=L8 f:=by
 unfold nl L8 zl;have:∀l:List Block,(l.map λb=>b.Leaves.length).sum<=(l.map L9).sum:=by
  intro l
  induction l with
  |nil=>simp
  |cons b l ih=>grind [L9,zl]
 grind
def Te (f:Flash) (y:Al):Prop:=∃b x,gi f.Blocks y.Block=some b/\gi b.Leaves y.Leaf=some x/\(x.Is==1)=true/\Fs x.Text=some (y.Page,true)
theorem YU {b:Block} {x:Leaf} (f:Flash) (hf:JD f) (hb:f.Blocks[i]?=some b) (hx:b.Leaves[k]?=some x):QQ f i k=some (cond (x.Is==1) (x.Text,true) (bs [],false)):=by
 have h1:=(Ad.1 hb).1;have h2:=(Ad.1 hx).1;have h3:=hf.1;have h4:=hf.2 b<|Aj hb;unfold QQ;rw[BY (by rw[Bb];omega) (by rw[Bb];omega),Sh,Bb,Ac (by omega:(0:Int)<=(i:Int)),Ac (by omega:(i:Int)<=(f.Blocks.length:Int)-1)];simp only[Aa,Bool.and_self,Ak,Ae,Aq,hb];rw[BY (by rw[Bb];omega) (by rw[Bb];omega),Sh,Bb,Ac (by omega:(0:Int)<=(k:Int)),Ac (by omega:(k:Int)<=(b.Leaves.length:Int)-1)]
 grind
theorem dQ (f:Flash) (hf:JD f) (hT:∀b∈f.Blocks,∀x∈b.Leaves,(L x.Text).length<=1048576) (hn:nl f.Blocks<=1048576):
  ∃X,Ah (λs:List Al×Int=>Eg f s.1 s.2) ([],0)=some X/\Ah (λs:Int×List Al=>Jb f s.1 s.2) (0,[])=some X/\X.length<=nl f.Blocks/\∀y∈X,Te f y:=by
 refine La (body:=λs:List Al×Int=>Eg f s.1 s.2) (body':=λs:Int×List Al=>Jb f s.1 s.2) (λs i=>(s,i)) (λs i=>(i,s)) f.Blocks.length (λi a=>a.length<=((f.Blocks.take i).map λb=>b.Leaves.length).sum/\∀y∈a,Te f y) (λX=>X.length<=nl f.Blocks/\∀y∈X,Te f y) ?_ ?_ (s:=[]) ⟨by simp,by simp⟩
 ·intro a i hi ⟨c,d⟩;have hb:f.Blocks[i]?=some f.Blocks[i]:=Ab hi;have hm:f.Blocks[i]∈f.Blocks:=Aw _;have h:=S2 (λb:Block=>b.Leaves.length) f.Blocks i hi;have j:=Ph (λb:Block=>b.Leaves.length) f.Blocks<|i+1;unfold nl at hn;have l:=hf.1;refine .inl ?_;simp only[Eg,Jb,Ds hi,Aq,hb,Aa];obtain⟨u,q1,q2,q3⟩:=La (body:=λs:List Al×Int=>Gh f (i:Int) s.1 s.2) (body':=λs:Int×List Al=>Lk (i:Int) f.Blocks[i] s.1 s.2) (λs i=>(s,i)) (λs i=>(i,s)) f.Blocks[i].Leaves.length (λk u=>u.length<=a.length+k/\∀y∈u,Te f y) (λu=>u.length<=a.length+f.Blocks[i].Leaves.length/\∀y∈u,Te f y)
   (λu k hk hu=>by
    have hx:f.Blocks[i].Leaves[k]?=some f.Blocks[i].Leaves[k]:=Ab hk
    have g:∀y:Al,ap 72 u [y]=some (u++ [y]):=λy=>AZ<|by grind
    refine .inl ?_;obtain⟨p,ok,r1,r2,r3,r4⟩:=IG f.Blocks[i].Leaves[k].Text (by grind);simp only[Gh,Lk,Ds hk,Aq,hb,hx,Aa,YU f hf hb hx,r2,g]
    cases e:f.Blocks[i].Leaves[k].Is==1 with
    |false=>grind [IG,DS,ad1]
    |true=>
     simp only[Ao,Aa,r1]
     cases ok with
     |false=>grind [ad1]
     |true=>
      refine⟨u++ [Al.mk i k p],by grind [ad1],by grind [ad1],by grind,λy hy=>?_⟩
      rcases A8.1 hy with hy|hy
      ·exact hu.2 y hy
      rw[Cp]at hy;subst hy
      exact⟨_,_,by simp only[Aq];exact hb,by grind [Aq],e,r1⟩)
   (λu hu=>⟨u,by simp_all [Aq,CU,Gh],by simp[CU,Lk],hu⟩) (s:=a) ⟨by omega,d⟩
  grind [ad1]
 intro a ⟨c,d⟩;refine⟨a,by simp[CU,Eg],by simp[CU,Jb],?_,d⟩;rw[Jh]at c;exact c
theorem nR {l:List γ} {i j:Int} {x y:γ} (h:gi l j=some y):∃z,gi (si l i x) j=some z:=by grind [gi,si]
theorem tQ (l:List Al) (k:Int):KP l k=(Bc (Oa Bu) 0 k l).map (Sum.map (λs=>(s.2,s.1)) id):=by
 unfold KP Bc gi2 tP
 cases hk:decide (k>0)with
 |false=>rfl
 |true=>
  cases h1:gi l (sb k 1)with
  |none=>simp
  |some x=>
   cases h2:gi l k with
   |none=>simp
   |some y=>
    simp only[Aa];have e:(decide<|x.Page.Seq>y.Page.Seq)=Oa Bu y x:=rfl;rw[e]
    cases Oa Bu y x with
    |false=>rfl
    |true=>
     obtain⟨z,hz⟩:=nR (i:=k) (x:=x) h1
     grind
theorem ADj {l l':List γ} {i j:Int} (h:tP l i j=some l'):l'.length=l.length:=by grind [Af,tP,si]
theorem ADY {a j:Int} {l r:List Al} (h:Ah (λs:Int×List Al=>Bc (Oa Bu) a s.1 s.2) (j,l)=some r):r.length=l.length:=by
 refine AAn (λs:Int×List Al=>s.2.length=l.length) (λr=>r.length=l.length) ?_ ?_ (s:=(j,l)) rfl h
 ·rintro⟨j,m⟩ s' hm hb;obtain⟨c,_,hb⟩:=Af.1 hb
  grind [Af,ADj]
 rintro⟨j,m⟩ b hm hb;obtain⟨c,_,hb⟩:=Af.1 hb
 grind [Af]
theorem eC (f:Flash) (hf:JD f) (hT:∀b∈f.Blocks,∀x∈b.Leaves,(L x.Text).length<=1048576) (hn:nl f.Blocks<=1048576):
  ∃r,E9 f=some r/\FQ f=some r/\r.length<=nl f.Blocks/\(∀y∈r,Te f y)/\srt Bu r:=by
 obtain⟨X,h1,h2,h3,h4⟩:=dQ f hf hT hn;obtain⟨r,h5,h6,h7⟩:=iF Bu X (by omega);obtain⟨r',h8,h9,h10⟩:=IX Bu [] X [] (by grind);have hr:r'=r:=Oo Bu h9 h6 (λk=>by rw[h7 k,<-h10 k]);subst hr;refine⟨r',?_,?_,?_,?_,h6⟩
 ·unfold E9;rw[h1,Aa];simp only[Az,AW,N6,Mh]at h8;unfold BJ at h8;have hc:Ah (λs:List Al×Int=>KQ s.1 s.2) (X,1)=Ah (λs:Int×List Al=>AX (Oa Bu) ((0:Nat):Int) (X.length:Int) s.1 s.2) (1,X):=by
   refine qW (body:=λs:Int×List Al=>AX (Oa Bu) ((0:Nat):Int) (X.length:Int) s.1 s.2) (body':=λs:List Al×Int=>KQ s.1 s.2) (λs=>(s.2,s.1)) (λs=>s.2.length=X.length) ?_ ?_ (1,X) rfl
   ·rintro⟨j,m⟩ hm;simp only[KQ,AX,Bb,hm]
    cases decide (j<(X.length:Int))with
    |false=>rfl
    |true=>
     rw[uU (body:=λs:Int×List Al=>Bc (Oa Bu) ((0:Nat):Int) s.1 s.2) (body':=λs:List Al×Int=>KP s.1 s.2) (λs=>(s.2,s.1)) (λs=>tQ s.2 s.1) (j,m)];cases Ah (λs:Int×List Al=>Bc (Oa Bu) ((0:Nat):Int) s.1 s.2) (j,m)<;>rfl
   rintro⟨j,m⟩ s' hm hb;simp only[AX]at hb
   cases hc:decide (j<(X.length:Int))with
   |false=>grind
   |true=>
    rw[hc,Ao]at hb;obtain⟨m',h1,hb⟩:=Af.1 hb
    injection hb with hb
    injection hb with hb
    subst hb;exact(ADY h1).trans hm
  rw[hc];exact h8
 ·unfold FQ
  grind
 ·grind [BH.len]
 grind [BH.mem]
theorem OG {S:Type} {body:S->Option (S⊕List α)} (a:List α->Int->S) (g:Nat->α->α) (l0:List α) (h1:∀(i:Nat) (l:List α) x,l.length=l0.length->l[i]?=some x->l0[i]?=some x->body (a l (i:Nat))=some (.inl (a (l.set i (g i x)) ((i+1:Nat):Int)))) (h2:∀l:List α,l.length=l0.length->body (a l (l0.length:Nat))=some (.inr l)):Ah body (a l0 0)=some (l0.mapIdx g):=by
 obtain⟨b,h3,h4⟩:=AC (body:=body) a l0.length (λi l=>l.length=l0.length/\∀j,l[j]?=if j<i then(l0[j]?).map (g j)else l0[j]?) (λb=>b=l0.mapIdx g)
  (λl i hi hs=>by
   obtain⟨hl,hs⟩:=hs;have c:l0[i]?=some l0[i]:=Ab hi
   grind)
  (λl hs=>⟨l,h2 l hs.1,by
   apply BF
   grind⟩) (s:=l0) ⟨rfl,λj=>by rfl⟩
 rw[h3,h4]
abbrev Ks:=List Bf
def dk:Bf:=Bf.mk true []
def B5 (K:Ks) (i:Int):Bf:=(gi K i).getD dk
def OZ (k:Bf) (j:Nat):Int:=(k.Kids[j]?).getD 0
def Sr (K:Ks) (i:Nat) (leaf:Bool) (n:Int):Bool:=bif leaf then decide (0<=n)else(n== -1||(decide (0<=n/\n<=(i:Int)-1)&&(B5 K n).Leaf))
def Cy (K:Ks):Bool:=K.zipIdx.all λz=>z.1.Kids.length==4&&z.1.Kids.all (Sr K z.2 z.1.Leaf)
def CA (K:Ks) (r:Int):Bool:=r== -1||(decide (0<=r/\r<(K.length:Int))&&!(B5 K r).Leaf)
def Qz (K:Ks) (root:Int) (s:Nat):Int:=if root<0 then 0 else if OZ (B5 K root) (s/4)<0 then 0 else OZ (B5 K<|OZ (B5 K root)<|s/4)<|s %4
def DJ (K:Ks) (root:Int):List Int:=(List.range 16).map<|Qz K root
variable {K X:Ks}
theorem OI (h:i<K.length):B5 K (i:Int)=K[i]:=by grind [Aq,B5]
theorem H5 {i:Int} (h0:0<=i) (h:i<(K.length:Int)):gi K i=some (B5 K i):=by grind [L5,B5]
theorem CM (x a b:Int):BD x a b=some (decide (a<=x/\x<=b)):=by
 rw[Sh];simp
theorem Fy:Cy K=true↔∀i:Nat,i<K.length->(B5 K (i:Int)).Kids.length=4/\∀n∈(B5 K (i:Int)).Kids,Sr K i (B5 K (i:Int)).Leaf n=true:=by simp_all [OI,List.mem_zipIdx_iff_getElem?,Ad,Cy];grind
theorem Gi (a:Arena) (ha:a.Knots.length<=1048576):GP a=some (Cy a.Knots):=by
 unfold GP;have h:=MZ (body:=λs:Int=>Eo a s) a.Knots (λi k=>k.Kids.length==4&&k.Kids.all (Sr a.Knots i k.Leaf)) (.inr false) (.inl ()) (by omega)
  (λi k hk=>by
   have hi:=(Ad.1 hk).1;simp only[Eo,Ds hi,Aq,hk,Aa];by_cases h4:k.Kids.length=4
   ·have e1:(ln k.Kids !=4)=false:=by simp[ln,h4]
    have e2:(k.Kids.length==4)=true:=by simp[h4]
    simp only[e1,Ae,e2,GD];have q:=MZ (body:=λs:Int=>EU a (i:Int) k s) k.Kids (λ_ n=>Sr a.Knots i k.Leaf n) (.inr<|.inr<|.inr false) (.inl ()) (by omega)
     (λj n hn=>by
      have hj:=(Ad.1 hn).1;simp only[EU];rw[cT,Aq,hn];simp only[Aa,Sr]
      cases hl:k.Leaf with
      |true=>grind [ad1]
      |false=>
       simp only[Ae,CG,Ao];by_cases h1:n= -1
       ·grind [ad1]
       grind [BY,CM,H5,ad1])
     (by grind [EU])
    rw[q];have hz:(k.Kids.zipIdx.all λz=>Sr a.Knots i k.Leaf z.1)=k.Kids.all (Sr a.Knots i k.Leaf):=by
     rw[show(λz:Int×Nat=>Sr a.Knots i k.Leaf z.1)=(Sr a.Knots i k.Leaf)∘Prod.fst from rfl,<-List.all_map];simp
    grind [ad1]
   grind [ln])
  (by simp[CU,Eo])
 grind [Cy]
theorem KI (a:Arena) (ha:a.Knots.length<=1048576) (r:Int):HG a r=some (CA a.Knots r):=by grind [Bb,BY,CM,H5,HG,CA]
theorem BN (h:CA K r=true):r= -1\/(0<=r/\r<(K.length:Int)/\(B5 K r).Leaf=false):=by grind [CA]
theorem EH (hK:Cy K=true) (h0:0<=r) (h1:r<(K.length:Int)):(B5 K r).Kids.length=4/\∀j,j<4->(B5 K r).Kids[j]?=some (OZ (B5 K r) j)/\Sr K r.toNat (B5 K r).Leaf (OZ (B5 K r) j)=true:=by
 have:=Fy.1 hK r.toNat<|by omega
 grind [OZ]
theorem F5 (hK:Cy K=true) (h0:0<=r) (h1:r<(K.length:Int)) (hl:(B5 K r).Leaf=false) (hj:j<4):OZ (B5 K r) j= -1\/(0<=OZ (B5 K r) j/\OZ (B5 K r) j<r/\(B5 K (OZ (B5 K r) j)).Leaf=true):=by grind [EH,Sr]
theorem ACd (hK:Cy K=true) (h0:0<=r) (h1:r<(K.length:Int)) (hl:(B5 K r).Leaf=true) (hj:j<4):0<=OZ (B5 K r) j:=by grind [EH,Sr]
theorem qu4 {s:Nat} (h:s<16):qu (s:Int) 4=((s/4:Nat):Int):=by grind [Pa,qu]
theorem AA6 {s:Nat}:Int.tmod (s:Int) 4=((s %4:Nat):Int):=by rfl
theorem SA {s:Nat} (a:Arena) (hK:Cy a.Knots=true) (hr:CA a.Knots r=true) (hs:s<16):O2 a r (s:Int)=some (Qz a.Knots r s):=by
 unfold O2 Qz
 rcases BN hr with rfl|⟨h0,h1,hl⟩
 ·rfl
 rw[Ai (by omega:¬r<0),B6 (by omega),Ae,H5 h0 h1];rw[Aa,qu4 hs,Aq,((EH hK h0 h1).2 (s/4)<|by omega).1];simp only[Aa]
 rcases F5 hK h0 h1 hl (show s/4<4 by omega)with e|⟨e1,e2,e3⟩
 ·rw[e];rfl
 rw[Ai (by omega),B6 (by omega),Ae,H5 e1<|by omega];rw[Aa,AA6,Aq,((EH hK e1<|by omega).2 (s %4)<|by omega).1];rfl
theorem bC {s:Nat} (a:Arena) (ha:a.Knots.length<=1048576) (hK:Cy a.Knots=true) (hr:CA a.Knots r=true) (hs:s<16):QS a r (s:Int)=some (Qz a.Knots r s):=by simp_all [Gi,KI,CM,SA,QS];grind
theorem O9 (a:Arena) (ha:a.Knots.length<=1048576) (hK:Cy a.Knots=true) (hr:CA a.Knots r=true):HS a r=some (DJ a.Knots r):=by
 unfold HS;obtain⟨b,h1,h2⟩:=AC (body:=λs:List Int×Int=>LV a r s.1 s.2) (λ(o:List Int) i=>(o,i)) 16 (λi o=>o=(List.range i).map (Qz a.Knots r)) (λb=>b=DJ a.Knots r)
  (λo i hi ho=>by grind [bC,AZ,ad1,DR,LV])
  (λo ho=>⟨_,by rfl,ho⟩) (s:=[]) rfl
 grind
theorem Mg {by_:Nat} (h:l.length*by_<=140737488355328):ap by_ [] l=some l:=by grind [AZ]
def ACH (K:Ks):Prop:=K.length<=1048576/\∀k∈K,k.Kids.length<=1048576
theorem Lr (hK:Cy K=true) (h:K.length<=1048576):ACH K:=by
 refine⟨h,λk hk=>?_⟩
 grind [Au,Fy,OI]
theorem Wt (a:Arena) (h:ACH a.Knots):NQ a=some a:=by
 unfold NQ;have h1:=Tb (body:=λs:Int×List Bf=>KJ a s.1 s.2) a.Knots (λk=>k)
  (λi k b hk ho=>by
   have hi:=(Ad.1 hk).1;have hm:=h.2 k<|Aj hk;have:=h.1;simp only[KJ,Ds hi,Aq,hk,Aa]
   rw[Mg (by omega),Aa,AZ (by simp;omega),Aa,ad1])
  (λb=>by simp[CU,KJ])
 rw[h1];simp
theorem Gc (s:Store) (h:ACH s.Arena.Knots) (hv:s.Vols.length<=1048576):DI s=some s:=by
 unfold DI;rw[Mg (by omega),Wt _ h];rfl
def Sf (K:Ks) (r:Int) (s:Nat) (n:Int):List Int:=(if r<0 then [0,0,0,0]else if OZ (B5 K r) (s/4)<0 then [0,0,0,0]else(B5 K<|OZ (B5 K r)<|s/4).Kids).set (s %4) n
def Wd (K:Ks) (r:Int) (s:Nat):List Int:=(if r<0 then [-1,-1,-1,-1]else(B5 K r).Kids).set (s/4) (K.length:Int)
def KA (K:Ks) (r:Int) (s:Nat) (n:Int):Ks:=K++ [Bf.mk true<|Sf K r s n,Bf.mk false<|Wd K r s]
theorem mk4:mk 8 (0:Int) 4=some [0,0,0,0]:=by rfl
theorem rW {k:Bf} (h:j<k.Kids.length):gi k.Kids (j:Int)=some (OZ k j):=by grind [Aq,OZ]
theorem aY {s:Nat} (a:Arena) (ha:a.Knots.length<=1048000) (hK:Cy a.Knots=true) (hr:CA a.Knots r=true) (hs:s<16) (hn:0<=n):
  Z3 a r (s:Int) n=some (Arena.mk (KA a.Knots r s n),(a.Knots.length:Int)+1):=by
 unfold Z3;rw[Wt _ (Lr hK<|by omega),Gi a (by omega),KI a (by omega),CM,hK,hr];rw[Ac (by omega:0<=(s:Int)/\(s:Int)<=15),Ai (by omega:¬n<0)];rw[mk4];simp only[Aa];have fin:∀(lf tp:List Int),lf.length=4->tp.length=4->KA a.Knots r s n=a.Knots++ [Bf.mk true<|lf.set (s %4) n,Bf.mk false<|tp.set (s/4) (a.Knots.length:Int)]->
   ((gi lf<|Int.tmod (s:Int) 4).bind λx4=>(gi tp<|qu (s:Int) 4).bind λx5=>(ap 32 a.Knots [Bf.mk true<|si lf (Int.tmod (s:Int) 4) n,Bf.mk false<|si tp (qu (s:Int) 4)<|ln a.Knots]).bind λq4=>some (Arena.mk q4,sb (ln q4) 1))=some (Arena.mk<|KA a.Knots r s n,(a.Knots.length:Int)+1):=by
  intro lf tp h1 h2 h3;rw[qu4 hs,AA6,Aq,Aq,Ab (by omega),Ab<|by omega];rw[AZ (by simp;omega),DQ,DQ,Bb,<-h3]
  grind [Bb,BY]
 rcases BN hr with rfl|⟨h0,h1,hl⟩
 ·rw[Ai (by omega:¬(-1:Int)>=0)];exact fin _ _ rfl rfl rfl
 rw[cT,H5 h0 h1];have h4:=(EH hK h0 h1).1;simp only[Aa];rw[Mg<|by omega];simp only[Aa];rw[qu4 hs,rW (by omega:s/4<(B5 a.Knots r).Kids.length)];simp only[Aa];rw[<-qu4 hs]
 rcases F5 hK h0 h1 hl (show s/4<4 by omega)with e|⟨e1,e2,e3⟩
 ·grind [KA,Sf,Wd]
 grind [H5,EH,Mg,KA,Sf,Wd]
def Pb (K:Ks) (r:Int) (i:Nat):Bool:=decide (0<=r)&&(decide (r=(i:Int))||(B5 K r).Kids.any λn=>decide<|n=(i:Int))
theorem mW (n:Nat) (f:Nat->α) (g:Nat->α->α):((List.range n).map f).mapIdx g=(List.range n).map λi=>g i (f i):=by
 apply BF
 grind
theorem Qd (n:Nat) (f:Nat->α) (i:Nat) (x:α) (g:Nat->α) (h:∀j,j<n->g j=if j=i then x else f j):((List.range n).map f).set i x=(List.range n).map g:=by
 apply BF
 grind
theorem NX {n:Nat} {f:Nat->α} (h:i<n):((List.range n).map f)[i]?=some (f i):=by grind
theorem Sz {l:List Int} {m:Nat} (h:l[m]?=some x) (p:Int->Bool):(l.take (m+1)).any p=((l.take m).any p||p x):=by grind [D9]
theorem pN (a:Arena) (ha:a.Knots.length<=1048576) (hK:Cy a.Knots=true) (hr:CA a.Knots r=true):Ws a r=some ((List.range a.Knots.length).map (Pb a.Knots r)):=by
 unfold Ws;rw[Bb,cA (by omega)<|by omega];simp only[Aa]
 rcases BN hr with rfl|⟨h0,h1,hl⟩
 ·simp only[show decide ((-1:Int)<0)=true from rfl,Ao];congr 1;rw[show(Pb a.Knots<|-1)=λ_=>false from rfl,N5,FT]
 rw[cF];obtain⟨m,rfl⟩:∃m:Nat,r=(m:Int):=⟨r.toNat,by omega⟩;rw[Aq,List.getElem?_replicate,Cn<|by omega];rw[DQ];obtain⟨h4,hk⟩:=EH hK h0 h1;obtain⟨b,q1,q2⟩:=AC (body:=λs:List Bool×Int=>ME a (m:Int) s.1 s.2) (λ(o:List Bool) i=>(o,i)) 4
  (λi o=>o=(List.range a.Knots.length).map λ(j:Nat)=>decide ((m:Int)=(j:Int))||((B5 a.Knots (m:Int)).Kids.take i).any λn=>decide<|n=(j:Int))
  (λb=>b=(List.range a.Knots.length).map (Pb a.Knots (m:Int)))
  (λo i hi ho=>by
   obtain⟨e,_⟩:=hk i hi;simp only[ME];rw[cT,H5 h0 h1];simp only[Aa];rw[Aq,e];simp only[Aa]
   rcases F5 hK h0 h1 hl hi with e1|⟨e1,e2,e3⟩
   ·grind [ad1,Sz]
   obtain⟨c,hc⟩:∃c:Nat,OZ (B5 a.Knots (m:Int)) i=(c:Int):=⟨(OZ (B5 a.Knots (m:Int)) i).toNat,by omega⟩;rw[hc,cT];rw[ho,Aq,NX<|by omega];rw[DQ,ad1]
   simp_all [Qd,Sz];grind)
  (λo ho=>⟨_,by simp only[ME];rw[cF],by
   rw[ho];apply D8;intro j hj;rw[AQ<|by omega]
   rfl⟩) (s:=(List.replicate a.Knots.length false).set m true) (by grind [FT,N5,Qd])
 grind
def BW (K:Ks) (R:List Int) (i:Nat):Bool:=R.any λr=>Pb K r i
def oW (K:Ks) (R:List Int) (i:Nat):Nat:=((List.range i).filter<|BW K R).length
def Sp (K:Ks) (R:List Int) (n:Int):Int:=if 0<=n then(oW K R n.toNat:Int)else n
def aH (K:Ks) (R:List Int) (i:Nat):Bf:=Bf.mk (B5 K (i:Int)).Leaf<|bif(B5 K (i:Int)).Leaf then(B5 K (i:Int)).Kids else(B5 K (i:Int)).Kids.map<|Sp K R
def TE (K:Ks) (R:List Int):Ks:=((List.range K.length).filter<|BW K R).map<|aH K R
theorem IV (l:List α) (f:α->α):l.mapIdx (λ_ x=>f x)=l.map f:=by
 apply BF
 grind
theorem PV (hr:r∈R) (h0:0<=r):BW K R r.toNat=true:=by grind [BW,Pb]
theorem ZX (hK:Cy K=true) (hR:∀r∈R,CA K r=true) (hu:BW K R i=true) (hl:(B5 K (i:Int)).Leaf=false):(i:Int)∈R:=by
 unfold BW at hu;rw[Fo]at hu;obtain⟨r,hr,h⟩:=hu;unfold Pb at h;simp only[Ap,Gw,Bi,Fo]at h;obtain⟨h0,h⟩:=h
 rcases h with h|⟨n,hn,h⟩
 ·grind
 rcases BN (hR r hr)with e|⟨_,h1,a⟩
 ·omega
 obtain⟨h4,hk⟩:=EH hK h0 h1;obtain⟨j,hj,b⟩:=Au hn;have e:=(hk j<|by omega).1
 grind [F5]
theorem VY (hr:r∈R) (h0:0<=r) (hn:n∈(B5 K r).Kids) (h1:0<=n):BW K R n.toNat=true:=by grind [BW,Pb]
theorem AEz (i:Nat):oW K R i<=i:=by
 have:=Be (BW K R)<|List.range i;rw[FT]at this;exact this
theorem fH (a:Arena) (ha:a.Knots.length<=1048576) (R:List Int) (hc:R.length<=1048576) (hR:∀r∈R,CA a.Knots r=true):Ah (λs:Bool×Int=>FI a R s.1 s.2) (true,0)=some true:=by
 obtain⟨b,h1,h2⟩:=AC (body:=λs:Bool×Int=>FI a R s.1 s.2) (λ(o:Bool) i=>(o,i)) R.length (λ_ o=>o=true) (λb=>b=true)
  (λo i hi ho=>by
   have hx:=Ab hi;simp only[FI,Fv,Ac hi,Ao,Aa,ho,Aq,hx];rw[KI a ha,hR _<|Aw hi,Aa,ad1]
   grind)
  (λo ho=>⟨o,by grind [Fv,FI],ho⟩) (s:=true) rfl
 grind
theorem lP (a:Arena) (ha:a.Knots.length<=1048576) (hK:Cy a.Knots=true) (R:List Int) (hc:R.length<=1048576) (hR:∀r∈R,CA a.Knots r=true):
  Ah (λs:List Bool×Int=>FH a R s.1 s.2) (List.replicate a.Knots.length false,0)=some ((List.range a.Knots.length).map (BW a.Knots R)):=by
 obtain⟨b,h1,h2⟩:=AC (body:=λs:List Bool×Int=>FH a R s.1 s.2) (λ(o:List Bool) i=>(o,i)) R.length (λi o=>o=(List.range a.Knots.length).map λ(j:Nat)=>(R.take i).any λr=>Pb a.Knots r j) (λb=>b=(List.range a.Knots.length).map (BW a.Knots R))
  (λo i hi ho=>by
   have hx:=Ab hi;simp only[FH,Ds hi,Aa,Aq,hx];rw[pN a ha hK<|hR _<|Aw hi];simp only[Aa];have q:=OG (body:=λs:List Bool×Int=>H9 ((List.range a.Knots.length).map<|Pb a.Knots R[i]) s.1 s.2) (λl i=>(l,i)) (λk x=>x||Pb a.Knots R[i] k) o
    (λk l x hl c d=>by grind [Fv,Aq,DQ,ad1,H9])
    (λl hl=>by grind [Fv,H9])
   rw[q,Aa,ad1,ho,mW]
   grind [D9])
  (λo ho=>⟨o,by simp[CU,FH],by rw[ho,AQ<|by omega];rfl⟩) (s:=List.replicate a.Knots.length false) (by grind [N5,FT])
 grind
def VQ (K:Ks) (R:List Int) (i:Nat):List Int:=(List.range K.length).map λ(j:Nat)=>if j<i/\BW K R j=true then(oW K R j:Int)else 0
theorem fI (a:Arena) (ha:a.Knots.length<=1048576) (hK:Cy a.Knots=true) (R:List Int) (hR:∀r∈R,CA a.Knots r=true):
  Ah (λs:List Int×Int×List Bf=>FG a ((List.range a.Knots.length).map (BW a.Knots R)) s.1 s.2.1 s.2.2) (List.replicate a.Knots.length 0,0,[])=some (VQ a.Knots R a.Knots.length,TE a.Knots R):=by
 obtain⟨b,h1,h2⟩:=AC (body:=λs:List Int×Int×List Bf=>FG a ((List.range a.Knots.length).map<|BW a.Knots R) s.1 s.2.1 s.2.2) (λ(o:List Int×List Bf) i=>(o.1,i,o.2)) a.Knots.length
  (λi o=>o=(VQ a.Knots R i,((List.range i).filter<|BW a.Knots R).map<|aH a.Knots R)) (λb=>b=(VQ a.Knots R a.Knots.length,TE a.Knots R))
  (λo i hi ho=>by
   subst ho;simp only[FG,Ds hi];rw[Aq,NX hi];simp only[Aa]
   cases hu:BW a.Knots R i with
   |false=>grind [ad1,DR,VQ]
   |true=>
    simp only[Ak,Ae];have h0:(0:Int)<=(i:Int):=by omega
    have d:(i:Int)<(a.Knots.length:Int):=by omega
    rw[H5 h0 d];obtain⟨h4,hk⟩:=EH hK h0 d;simp only[Aa];rw[Mg<|by omega];simp only[Aa];have inner:Ah (λs:Int×List Int=>FE (VQ a.Knots R i) ((B5 a.Knots (i:Int)).Leaf,(B5 a.Knots (i:Int)).Kids) s.1 s.2) (0,(B5 a.Knots (i:Int)).Kids)=some (aH a.Knots R i).Kids:=by
     unfold aH
     cases hl:(B5 a.Knots (i:Int)).Leaf with
     |true=>rw[Ay];rfl
     |false=>
      have q:=OG (body:=λs:Int×List Int=>FE (VQ a.Knots R i) (false,(B5 a.Knots (i:Int)).Kids) s.1 s.2) (λl k=>(k,l)) (λ_ x=>Sp a.Knots R x) (B5 a.Knots (i:Int)).Kids
       (λk l x g h j=>by
        have m:k<4:=by grind
        have ex:x=OZ (B5 a.Knots (i:Int)) k:=by grind
        simp only[FE];rw[Ac (by omega:(k:Int)<4)];simp only[Ao,Aa,CG];rw[Aq,h];simp only[Aa]
        rcases F5 hK h0 d hl m with e|⟨e1,e2,e3⟩
        ·rw[cF,ad1];have:Sp a.Knots R x=x:=by unfold Sp;omega
         rw[this,show l.set k x=l from by
          apply BF
          grind]
        rw[cT];obtain⟨c,hc⟩:∃c:Nat,x=(c:Int):=⟨x.toNat,by omega⟩;have n:x∈(B5 a.Knots (i:Int)).Kids:=Aj j;have f:=VY (ZX hK hR hu hl) h0 n (by omega);rw[hc]at f;rw[hc,Aq];unfold VQ;rw[NX (by omega),Aa,Cn ⟨by omega,f⟩,DQ,ad1]
        rfl)
       (λl g=>by grind [FE])
      grind [IV]
    rw[inner];simp only[Aa];have p:gi (VQ a.Knots R i) (i:Int)=some 0:=by grind [Aq,VQ]
    rw[p];simp only[Aa];have u:=AEz (K:=a.Knots) (R:=R) i;have t:(((List.range i).filter<|BW a.Knots R).map<|aH a.Knots R).length=oW a.Knots R i:=by rw[Ba];rfl
    rw[AZ (by grind),Aa,ad1,Bb,t,DQ];refine .inl ⟨(_,_),rfl,?_⟩;congr 1
    ·grind [Qd,VQ]
    rw[DR,Cq,Oh hu,List.filter_nil,Ka]
    rfl)
  (λo ho=>⟨o,by simp[CU,FG],ho⟩) (s:=(List.replicate a.Knots.length 0,[])) (by grind [N5,FT,VQ])
 grind
theorem tY (a:Arena) (ha:a.Knots.length<=1048576) (R:List Int) (hc:R.length<=1048576) (hR:∀r∈R,CA a.Knots r=true):
  Ah (λs:List Int×Int=>FD (VQ a.Knots R a.Knots.length,TE a.Knots R) s.1 s.2) (R,0)=some (R.map (Sp a.Knots R)):=by
 have q:=OG (body:=λs:List Int×Int=>FD (VQ a.Knots R a.Knots.length,TE a.Knots R) s.1 s.2) (λl k=>(l,k)) (λ_ x=>Sp a.Knots R x) R
  (λk l x h b d=>by
   have i:=(Ad.1 b).1;simp only[FD,Ds i,Aq,b,Aa]
   rcases BN (hR x<|Aj d)with e|⟨e1,e2,e3⟩
   ·rw[cF,ad1];have:Sp a.Knots R x=x:=by unfold Sp;omega
    rw[this,show l.set k x=l from by
     apply BF
     grind]
   rw[cT];obtain⟨c,f⟩:∃c:Nat,x=(c:Int):=⟨x.toNat,by omega⟩;have g:=PV (K:=a.Knots) (Aj d) e1;rw[f]at g;rw[f,Aq];unfold VQ;rw[NX (by omega),Aa,Cn ⟨by omega,g⟩,DQ,ad1]
   rfl)
  (λl h=>by grind [Bb,FD])
 grind [IV]
theorem Vq (a:Arena) (ha:a.Knots.length<=1048576) (hK:Cy a.Knots=true) (R:List Int) (hc:R.length<=1048576) (hR:∀r∈R,CA a.Knots r=true):
  KM a R=some (Arena.mk (TE a.Knots R),R.map (Sp a.Knots R)):=by
 unfold KM;rw[Mg (by omega),Gi a ha,hK];simp only[Aa];rw[fH a ha R hc hR];rw[Bb,cA (by omega)<|by omega];simp only[Aa];rw[lP a ha hK R hc hR];rw[cA (by omega)<|by omega];simp_all [fI,tY]
theorem dK (p:Nat->Bool) (hp:p i=true):∀{n:Nat},i<n->((List.range n).filter p)[((List.range i).filter p).length]?=some i
 |0,h=>by omega
 |n+1,h=>by
  rw[DR,Cq];by_cases e:i=n
  ·grind
  have h2:=dK p hp<|show i<n by omega
  grind
theorem ACv {n:Nat} (p:Nat->Bool) (hp:p i=true) (h:i<n):((List.range i).filter p).length<((List.range n).filter p).length:=(Ad.1<|dK p hp h).1
theorem rZ (p:Nat->Bool):∀{n j:Nat},j<((List.range n).filter p).length->∃i,i<n/\p i=true/\((List.range i).filter p).length=j
 |0,j,h=>by simp at h
 |n+1,j,h=>by
  rw[DR,Cq,AE]at h;by_cases e:j<((List.range n).filter p).length
  ·obtain⟨i,h1,h2,h3⟩:=rZ p e
   grind
  grind
theorem xH:(TE K R).length=oW K R K.length:=by unfold TE oW;rw[Ba]
theorem TD (hu:BW K R i=true) (hi:i<K.length):B5 (TE K R) (oW K R i:Nat)=aH K R i/\oW K R i<(TE K R).length:=by grind [Aq,dK,oW,TE,B5]
theorem AA9 (hj:j<(TE K R).length):∃i,i<K.length/\BW K R i=true/\oW K R i=j:=by
 rw[xH]at hj;exact rZ (BW K R) hj
theorem AFZ (hu:BW K R i=true) (h:i<j):oW K R i<oW K R j:=ACv _ hu h
theorem aG (i:Nat):(aH K R i).Leaf=(B5 K (i:Int)).Leaf:=rfl
theorem wZ (hK:Cy K=true) (hi:i<K.length):(aH K R i).Kids.length=4:=by grind [Fy,aH]
theorem xG (hl:(B5 K (i:Int)).Leaf=false) (hj:j<(B5 K (i:Int)).Kids.length):OZ (aH K R i) j=Sp K R (OZ (B5 K (i:Int)) j):=by
 unfold OZ aH
 grind
theorem UO (hl:(B5 K (i:Int)).Leaf=true):(aH K R i).Kids=(B5 K (i:Int)).Kids:=by grind [aH]
theorem Z4 (h:n<0):Sp K R n=n:=by unfold Sp;omega
theorem TT (n:Nat):Sp K R (n:Int)=(oW K R n:Int):=by rfl
theorem AEX (hK:Cy K=true) (hR:∀r∈R,CA K r=true):Cy (TE K R)=true:=by
 rw[Fy];intro j hj;obtain⟨i,hi,hu,rfl⟩:=AA9 hj;rw[(TD hu hi).1];refine⟨wZ hK hi,λn hn=>?_⟩;have h0:(0:Int)<=(i:Int):=by omega
 have h1:(i:Int)<(K.length:Int):=by omega
 obtain⟨h4,hk⟩:=EH hK h0 h1;rw[aG]
 cases hl:(B5 K (i:Int)).Leaf with
 |true=>grind [UO,Fy,Sr]
 |false=>
  obtain⟨m,hm,b⟩:=Au hn;rw[wZ hK hi]at hm;have e:n=Sp K R (OZ (B5 K (i:Int)) m):=by
   rw[<-xG hl (by omega),<-b]
   grind [OZ]
  rcases F5 hK h0 h1 hl hm with k1|⟨k1,k2,k3⟩
  ·rw[k1,Z4<|by omega]at e;subst e;rfl
  obtain⟨c,hc⟩:∃c:Nat,OZ (B5 K (i:Int)) m=(c:Int):=⟨_,(AL k1).symm⟩;rw[hc]at e k2 k3;rw[TT]at e;have a:=VY (ZX hK hR hu hl) h0 (Aj (hk m hm).1) (by omega);rw[hc]at a;have d:c<K.length:=by omega
  have f:oW K R c<oW K R i:=AFZ (by simpa using a)<|by omega
  grind [TD,aG,Sr]
theorem ABy (hR:∀r∈R,CA K r=true) (hr:r∈R):CA (TE K R) (Sp K R r)=true:=by
 rcases BN (hR r hr)with e|⟨h0,h1,hl⟩
 ·rw[e,Z4<|by omega];rfl
 obtain⟨c,rfl⟩:∃c:Nat,r=(c:Int):=⟨_,(AL h0).symm⟩
 grind [PV,Cj,TD,TT,aG,CA]
theorem yC (hK:Cy K=true) (hR:∀r∈R,CA K r=true) (hr:r∈R):DJ (TE K R) (Sp K R r)=DJ K r:=by
 unfold DJ;apply D8;intro s hs;rw[gN]at hs;unfold Qz
 rcases BN (hR r hr)with e|⟨h0,h1,hl⟩
 ·grind [Z4]
 obtain⟨c,rfl⟩:∃c:Nat,r=(c:Int):=⟨_,(AL h0).symm⟩;have a:=PV (K:=K) hr h0;rw[Cj]at a;obtain⟨g1,g2⟩:=TD a (by omega);obtain⟨h4,hk⟩:=EH hK h0 h1;rw[TT,g1,xG hl<|by omega];simp only[B6 (show¬((oW K R c:Nat):Int)<0 by omega),B6<|show¬((c:Nat):Int)<0 by omega]
 rcases F5 hK h0 h1 hl (show s/4<4 by omega)with k1|⟨k1,k2,k3⟩
 ·grind [Z4]
 obtain⟨d,hd⟩:∃d:Nat,OZ (B5 K (c:Int)) (s/4)=(d:Int):=⟨_,(AL k1).symm⟩;have b:=VY hr h0 (Aj (hk (s/4)<|by omega).1) k1
 grind [TT,TD,UO,OZ]
theorem ADk (hK:Cy K=true) (hR:∀r∈R,CA K r=true) (hj:j<(TE K R).length):BW (TE K R) (R.map (Sp K R)) j=true:=by
 obtain⟨i,hi,hu,rfl⟩:=AA9 hj;have hu':=hu;unfold BW at hu';rw[Fo]at hu';obtain⟨r,hr,h⟩:=hu';unfold Pb at h;simp only[Ap,Gw,Bi,Fo]at h;obtain⟨h0,h⟩:=h;unfold BW;rw[Fo];refine⟨Sp K R r,A6.2 ⟨r,hr,rfl⟩,?_⟩;obtain⟨c,rfl⟩:∃c:Nat,r=(c:Int):=⟨_,(AL h0).symm⟩;rw[TT];unfold Pb;simp only[Ap,Gw,Bi,Fo];refine⟨by omega,?_⟩
 rcases h with h|⟨n,hn,h⟩
 ·grind
 right
 rcases BN (hR _ hr)with e|⟨_,h1,hl⟩
 ·omega
 grind [PV,Cj,TD,TT,aH]
theorem Tc {i:Int} (h0:0<=i) (h:i<(K.length:Int)):B5 (K++X) i=B5 K i:=by
 obtain⟨c,rfl⟩:∃c:Nat,i=(c:Int):=⟨_,(AL h0).symm⟩
 grind [Aq,B5]
theorem ABv (h:CA K r=true):CA (K++X) r=true:=by grind [Tc,CA]
theorem xY (hK:Cy K=true) (h:CA K r=true):DJ (K++X) r=DJ K r:=by grind [D8,BN,Tc,F5,DJ,Qz]
theorem jO {s:Nat} (hK:Cy K=true) (hr:CA K r=true) (hs:s<16) (n:Int):(Sf K r s n).length=4:=by grind [BN,F5,EH,Sf]
theorem o9 (hK:Cy K=true) (hr:CA K r=true) (s:Nat):(Wd K r s).length=4:=by grind [BN,EH,Wd]
theorem XM {s:Nat}:B5 (KA K r s n) (K.length:Int)=Bf.mk true (Sf K r s n):=by grind [Aq,B5,KA]
theorem XL {s:Nat}:B5 (KA K r s n) ((K.length:Int)+1)=Bf.mk false (Wd K r s):=by
 unfold B5 KA;rw[show(K.length:Int)+1=((K.length+1:Nat):Int)from rfl,Aq,Dy (by omega),show K.length+1-K.length=1 by omega];rfl
theorem AE7 {s:Nat} (hK:Cy K=true) (hr:CA K r=true) (hs:s<16) (hn:0<=n):Cy (KA K r s n)=true:=by
 rw[Fy];intro j hj;have a:(KA K r s n).length=K.length+2:=by unfold KA;simp
 rw[a]at hj;by_cases h:j<K.length
 ·grind [Tc,Fy,KA,Sr]
 by_cases e:j=K.length
 ·subst e;rw[XM];refine⟨jO hK hr hs n,λm hm=>?_⟩;simp only[Sr,Ao,Bi]
  rcases C6 hm with hm|hm
  ·rcases BN hr with e|⟨h0,h1,hl⟩
   ·grind
   rw[B6<|by omega]at hm
   rcases F5 hK h0 h1 hl (show s/4<4 by omega)with k1|⟨k1,k2,k3⟩
   ·grind
   rw[B6<|by omega]at hm;have hq:=Fy.1 hK (OZ (B5 K r)<|s/4).toNat<|by omega
   grind [Sr]
  omega
 have:j=K.length+1:=by omega
 subst this;rw[show((K.length+1:Nat):Int)=(K.length:Int)+1 from rfl,XL];refine⟨o9 hK hr s,λm hm=>?_⟩;simp only[Sr,Ae,Gw,HW,Ap,Bi]
 rcases C6 hm with hm|hm
 ·rcases BN hr with e|⟨h0,h1,hl⟩
  ·grind
  rw[B6<|by omega]at hm;obtain⟨q,hq,rfl⟩:=Au hm;obtain⟨h4,hk⟩:=EH hK h0 h1;have e5:=(hk q<|by omega).1
  grind [F5,Tc,KA]
 grind [XM]
theorem AAa {s:Nat}:CA (KA K r s n) ((K.length:Int)+1)=true:=by grind [XL,CA,KA]
theorem yH {s:Nat} (hK:Cy K=true) (hr:CA K r=true) (hs:s<16):DJ (KA K r s n) ((K.length:Int)+1)=(DJ K r).set s n:=by
 unfold DJ;symm;apply Qd;intro t ht;unfold Qz;rw[XL];simp only[B6<|show¬((K.length:Int)+1)<0 by omega];have a:=o9 hK hr s;have b:=jO hK hr hs n;by_cases hq:t/4=s/4
 ·have e1:OZ (Bf.mk false<|Wd K r s) (t/4)=(K.length:Int):=by grind [OZ,Wd]
  rw[e1,B6 (by omega),XM];have e2:OZ (Bf.mk true<|Sf K r s n) (t %4)=if t %4=s %4 then n else(if r<0 then 0 else if OZ (B5 K r) (s/4)<0 then 0 else OZ (B5 K<|OZ (B5 K r)<|s/4)<|t %4):=by grind [OZ,Sf]
  grind
 rw[B6<|show¬t=s by omega];have e1:OZ (Bf.mk false<|Wd K r s) (t/4)=if r<0 then-1 else OZ (B5 K r) (t/4):=by grind [OZ,Wd]
 rw[e1]
 grind [BN,F5,Tc,KA]
def Lq (n:Nat) (p:Nat->Bool):Nat:=((List.range n).filter p).length
theorem Qx (n:Nat) (p:Nat->Bool):Lq (n+1) p=Lq n p+(if p n=true then 1 else 0):=by grind [DR,Lq]
theorem ZL (p q:Nat->Bool):∀n,Lq n (λj=>p j||q j)<=Lq n p+Lq n q
 |0=>by simp[Lq]
 |n+1=>by
  have:=ZL p q n
  grind [Qx]
theorem dS (x:Int):∀n,Lq n (λj=>decide (x=(j:Int)))<=1/\(x>=(n:Int)->Lq n (λj=>decide (x=(j:Int)))=0)
 |0=>by simp[Lq]
 |n+1=>by
  obtain⟨h1,h2⟩:=dS x n
  grind [Qx]
theorem ACE (l:List Int) (n:Nat):Lq n (λj=>l.any λx=>decide (x=(j:Int)))<=l.length:=by
 induction l with
 |nil=>simp[Lq]
 |cons x l ih=>
  simp only[List.any_cons,AY];have:=ZL (λj=>decide<|x=(j:Int)) (λj=>l.any λx=>decide<|x=(j:Int)) n;have:=(dS x n).1;omega
theorem AD6 {n:Nat} {q:Nat->Bool} (h:∀j,j<n->p j=true->q j=true):Lq n p<=Lq n q:=by
 induction n with
 |zero=>simp[Lq]
 |succ n ih=>grind [Qx]
theorem Xh {n:Nat} (h:∀j,j<n->p j=true):Lq n p=n:=by
 induction n with
 |zero=>rfl
 |succ n ih=>grind [Qx]
theorem AD1 (hK:Cy K=true) (hr:CA K r=true) (n:Nat):Lq n (Pb K r)<=5:=by
 have h1:=ZL (λj=>decide<|r=(j:Int)) (λj=>(B5 K r).Kids.any λn=>decide<|n=(j:Int)) n;have h2:=(dS r n).1;have h3:=ACE (B5 K r).Kids n
 have h4:Lq n (Pb K r)<=Lq n (λj=>decide (r=(j:Int))||(B5 K r).Kids.any λn=>decide<|n=(j:Int)):=AD6 λj _ h=>by grind [Pb]
 rcases BN hr with e|⟨h0,hl,_⟩
 ·have:Lq n (Pb K r)=Lq n (λ_=>false):=by rw[e];rfl
  simp_all;grind
 grind [EH]
theorem VZ (hK:Cy K=true) (n:Nat):∀(R:List Int),(∀r∈R,CA K r=true)->Lq n (BW K R)<=5*R.length
 |[],_=>by simp[Lq,BW]
 |r::R,h=>by
  have h1:=VZ hK n R (λx hx=>h x<|by simp[hx]);have h2:=AD1 hK (h r<|by simp) n;have h3:=ZL (Pb K r) (BW K R) n;have h4:Lq n (BW K (r::R))=Lq n (λj=>Pb K r j||BW K R j):=rfl
  grind
theorem zR (hK:Cy K=true) (hR:∀r∈R,CA K r=true):(TE K R).length<=5*R.length:=by
 rw[xH];exact VZ hK _ R hR
def AM (s:Store):List Int:=s.Vols.map Vol.Root
structure StoreR (s:Store):Prop where
 len:s.Vols.length<=3
 ar:Cy s.Arena.Knots=true
 nx:1<=s.Next/\s.Next<=1000000000
 ids:∀v∈s.Vols,1<=v.Id/\v.Id<=9
 asc:(s.Vols.map Vol.Id).Pairwise (·<·)
 root:∀r∈AM s,CA s.Arena.Knots r=true
 lt:∀r∈AM s,∀x∈DJ s.Arena.Knots r,x<s.Next
 few:s.Arena.Knots.length<=1000
structure Ci (s:Store):Prop extends StoreR s where
 used:∀i,i<s.Arena.Knots.length->BW s.Arena.Knots (AM s) i=true
theorem Ci.small (h:Ci s):s.Arena.Knots.length<=15:=by
 have h1:=VZ h.ar s.Arena.Knots.length (AM s) h.root;rw[Xh h.used]at h1;have:(AM s).length=s.Vols.length:=by unfold AM;rw[Ba]
 have:=h.len;omega
def AF (s:Store):List (Int×List Int):=s.Vols.map λv=>(v.Id,DJ s.Arena.Knots v.Root)
def LA (s:Store):Store:=Store.mk (s.Vols.map λv=>Vol.mk v.Id<|Sp s.Arena.Knots (AM s) v.Root) (Arena.mk<|TE s.Arena.Knots<|AM s) s.Next
theorem Rb (s:Store):AM (LA s)=(AM s).map (Sp s.Arena.Knots (AM s)):=by simp[AM,LA]
theorem wY (h:StoreR s):Ci (LA s):=by
 have b:(AM s).length=s.Vols.length:=by unfold AM;rw[Ba]
 refine⟨⟨by unfold LA;simpa using h.len,AEX h.ar h.root,h.nx,?_,?_,?_,?_,?_⟩,?_⟩
 ·intro v hv;unfold LA at hv;simp only[A6]at hv;obtain⟨w,hw,rfl⟩:=hv;exact h.ids w hw
 ·have:((LA s).Vols.map Vol.Id)=s.Vols.map Vol.Id:=by unfold LA;simp
  rw[this];exact h.asc
 ·intro r hr;rw[Rb]at hr;obtain⟨q,hq,rfl⟩:=A6.1 hr;exact ABy h.root hq
 ·intro r hr;rw[Rb]at hr;obtain⟨q,hq,rfl⟩:=A6.1 hr;have:=yC h.ar h.root hq;intro x hx;have a:x∈DJ s.Arena.Knots q:=by rw[<-this];exact hx
  exact h.lt q hq x a
 ·have:=zR h.ar h.root;have:=h.len;show(TE s.Arena.Knots<|AM s).length<=1000;omega
 intro i hi;rw[Rb];exact ADk h.ar h.root hi
theorem iC (h:StoreR s):AF (LA s)=AF s:=by
 unfold AF;show(s.Vols.map λv=>Vol.mk v.Id<|Sp s.Arena.Knots (AM s) v.Root).map _=_;rw[HQ];apply D8;intro v hv;have:=yC h.ar h.root<|show v.Root∈AM s from A6.2 ⟨v,hv,rfl⟩;show(v.Id,DJ (TE s.Arena.Knots<|AM s)<|Sp s.Arena.Knots (AM s) v.Root)=_;rw[this]
theorem PJ (s:Store) (hv:s.Vols.length<=1048576):O1 s=some (AM s):=by
 unfold O1;obtain⟨b,h1,h2⟩:=AC (body:=λq:List Int×Int=>Js s q.1 q.2) (λ(o:List Int) i=>(o,i)) s.Vols.length (λi o=>o=(s.Vols.take i).map Vol.Root) (λb=>b=AM s)
  (λo i hi ho=>by
   have hx:=Ab hi;simp only[Js,Ds hi,Aq,hx,Aa]
   grind [AZ,ad1,D9])
  (λo ho=>⟨o,by simp[CU,Js],by rw[ho,AQ<|A4 _];rfl⟩) (s:=[]) rfl
 grind
theorem Mp (h:StoreR s):Hr s=some (LA s):=by
 have hl:=h.len;have hf:=h.few;have c:(AM s).length=s.Vols.length:=by unfold AM;rw[Ba]
 unfold Hr;rw[PJ s<|by omega];simp only[Aa];rw[Vq _ (by omega) h.ar _ (by omega) h.root];rw[Mg<|by omega];simp only[Aa];have q:=OG (body:=λq:Int×List Vol=>Jr ((AM s).map<|Sp s.Arena.Knots<|AM s,TE s.Arena.Knots<|AM s) q.1 q.2) (λl i=>(i,l)) (λ_ v=>Vol.mk v.Id<|Sp s.Arena.Knots (AM s) v.Root) s.Vols
  (λi l x a b d=>by
   have hi:=(Ad.1 b).1;simp only[Jr,Ds hi]
   grind [Aq,DQ,ad1,AM])
  (λl a=>by grind [Bb,Jr])
 rw[IV]at q;rw[q];rfl
theorem aE (h:Ci s):LA s=s:=by
 have d:∀i,i<=s.Arena.Knots.length->oW s.Arena.Knots (AM s) i=i:=λi hi=>Xh λj hj=>h.used j<|by omega
 have b:∀n:Int,n<(s.Arena.Knots.length:Int)->Sp s.Arena.Knots (AM s) n=n:=λn hn=>by
  unfold Sp
  grind
 have a:∀r∈AM s,Sp s.Arena.Knots (AM s) r=r:=λr hr=>by
  rcases BN (h.root r hr)with e|⟨h0,h1,_⟩
  ·grind
  exact b r h1
 have c:TE s.Arena.Knots (AM s)=s.Arena.Knots:=by
  unfold TE;rw[IK.2 λi hi=>h.used i<|by simpa using hi];apply BF;intro i;rw[E4];by_cases hi:i<s.Arena.Knots.length
  ·rw[List.getElem?_range hi,Ab hi];simp only[JZ];congr 1;have h0:(0:Int)<=(i:Int):=by omega
   have h1:(i:Int)<(s.Arena.Knots.length:Int):=by omega
   unfold aH
   cases hl:(B5 s.Arena.Knots (i:Int)).Leaf with
   |true=>
    simp only[Ao];rw[<-hl,OI hi]
   |false=>
    simp only[Ae];have:(B5 s.Arena.Knots (i:Int)).Kids.map (Sp s.Arena.Knots<|AM s)=(B5 s.Arena.Knots (i:Int)).Kids:=by
     conv=>rhs;rw[<-VS (B5 s.Arena.Knots (i:Int)).Kids]
     apply D8;intro n hn;obtain⟨q,hq,rfl⟩:=Au hn;obtain⟨h4,hk⟩:=EH h.ar h0 h1;have e5:=(hk q<|by omega).1;rw[Ab hq]at e5
     injection e5 with e5
     rw[e5]
     rcases F5 h.ar h0 h1 hl (show q<4 by omega)with k1|⟨k1,k2,k3⟩
     ·grind
     grind
    rw[this,<-hl,OI hi]
  grind
 unfold LA;rw[c];have:(s.Vols.map λv=>Vol.mk v.Id<|Sp s.Arena.Knots (AM s) v.Root)=s.Vols:=by
  conv=>rhs;rw[<-VS s.Vols]
  apply D8;intro v hv;rw[a _<|A6.2 ⟨v,hv,rfl⟩];rfl
 rw[this]
theorem dV {s:Nat} (hs:s<16):Qz K r s∈DJ K r:=A6.2 ⟨s,by simpa using hs,rfl⟩
theorem ST {l:List Int} {y:Int} (h:l.Pairwise (·<·)) (a:i<j) (hx:l[i]?=some x) (hy:l[j]?=some y):x<y:=by grind [Cr]
theorem SF (h:Ci s):GM s=some true:=by
 have hl:=h.len;have hf:=h.few;have d:(AM s).length=s.Vols.length:=by unfold AM;rw[Ba]
 unfold GM;rw[Bb,cF,Gi _ (by omega),h.ar,CM,Ac h.nx];obtain⟨b,h1,h2⟩:=AC (body:=λq:Int=>Gf s q) (λ(_:Unit) i=>i) s.Vols.length (λ_ _=>True) (λb=>b= .inl ())
  (λ_ i hi _=>by
   have hx:=Ab hi;have hm:s.Vols[i]∈s.Vols:=Aw hi;have hr:s.Vols[i].Root∈AM s:=A6.2 ⟨_,hm,rfl⟩;simp only[Gf,Ds hi,Aq,hx,Aa];rw[CM,Ac<|h.ids _ hm,KI _ (by omega),h.root _ hr];simp only[Aa,Ak,Ae];have a:(cond (decide<|(i:Int)>0) ((gi s.Vols<|sb (i:Int) 1).bind λx2=>cond (decide<|x2.Id>=s.Vols[i].Id) (some true)<|some false) (some false):Option Bool)=some false:=by
    by_cases h0:i=0
    ·rw[cF]
    rw[cT,BY,show(i:Int)-1=((i-1:Nat):Int) by omega,Aq,Ab<|by omega];simp only[Aa];have:=ST h.asc (show i-1<i by omega) (x:=s.Vols[i-1].Id) (y:=s.Vols[i].Id) (by grind) (by grind);rw[cF]
   rw[a];obtain⟨c,q1,q2⟩:=AC (body:=λq:Int=>Ht s s.Vols[i] q) (λ(_:Unit) i=>i) 16 (λ_ _=>True) (λb=>b= .inl ())
    (λ_ k hk _=>by
     simp only[Ht];rw[cT,SA _ h.ar (h.root _ hr) hk];simp only[Aa];have:=h.lt _ hr _<|dV hk;rw[cF,ad1]
     simp)
    (λ_ _=>⟨_,by rfl,rfl⟩) (s:=()) trivial
   rw[q1,q2];rw[ad1]
   simp)
  (λ_ _=>⟨_,by simp[CU,Gf],rfl⟩) (s:=()) trivial
 rw[h1,h2];simp only[Aa,Dj];rw[PJ s (by omega),Aa,Vq _ (by omega) h.ar _ (by omega) h.root];have:TE s.Arena.Knots (AM s)=s.Arena.Knots:=by
  have:=aE h
  grind [LA]
 rw[this];simp
abbrev Vs:=List<|Int×List Int
def Jg (l:Vs) (id:Int):Option (List Int):=(l.find? λp=>p.1==id).map Prod.snd
def cH (l:Vs) (id:Int) (a:List Int):Vs:=(l.filter λp=>decide<|p.1<id)++ [(id,a)]++l.filter λp=>decide<|p.1>id
def vN (l:Vs) (id:Int):Vs:=l.filter λp=>p.1 !=id
def fA (l:Vs) (id:Int) (s:Nat) (n:Int):Vs:=l.map λp=>if p.1=id then(p.1,p.2.set s n)else p
def G0 (r:Cm):Bool:=decide (0<=r.Arg/\r.Arg<=1000000000)&&(bif r.Kind==1 then r.Vol==0&&r.Chunk==0 else decide (2<=r.Kind/\r.Kind<=5)&&decide (1<=r.Vol/\r.Vol<=9)&&(r.Kind==4||r.Chunk==0)&&
 (bif r.Kind==2 then decide (r.Arg<=9)else bif r.Kind==3 then r.Arg==0 else bif r.Kind==4 then decide (r.Arg<16)&&decide (1<=r.Chunk/\r.Chunk<=1000000000)else decide (r.Arg<16)))
def Ok:List Int:=List.replicate 16 0
def CN (l:Vs) (nx:Int) (r:Cm):Option (Vs×Int):=if G0 r=false then none else if r.Kind=1 then some ([],if r.Arg=0 then 1 else r.Arg) else if r.Kind=2 then
  if(0<r.Arg/\Jg l r.Arg=none)\/Jg l r.Vol≠none\/l.length=3 then none else some (cH l r.Vol (if 0<r.Arg then(Jg l r.Arg).getD Ok else Ok),nx) else if Jg l r.Vol=none\/r.Chunk=1000000000 then none else if r.Kind=3 then some (vN l r.Vol,nx) else some (fA l r.Vol r.Arg.toNat r.Chunk,max nx<|r.Chunk+1)
theorem NU (r:Cm):Pr r=some (G0 r):=by
 unfold Pr G0;simp only[CM,Aa]
 grind
theorem ED (s:Store) (hv:s.Vols.length<=1048576) (id:Int):(CR s id=some (-1)/\∀v∈s.Vols,v.Id≠id)\/∃k:Nat,∃v,CR s id=some (k:Int)/\s.Vols[k]?=some v/\v.Id=id/\∀j w,j<k->s.Vols[j]?=some w->w.Id≠id:=by
 unfold CR;obtain⟨b,h1,h2⟩:=AC (body:=λq:Int=>Hs s id q) (λ(_:Unit) i=>i) s.Vols.length (λi _=>∀j w,j<i->s.Vols[j]?=some w->w.Id≠id)
  (λb=>(b= .inl ()/\∀v∈s.Vols,v.Id≠id)\/∃k:Nat,∃v,b= .inr (k:Int)/\s.Vols[k]?=some v/\v.Id=id/\∀j w,j<k->s.Vols[j]?=some w->w.Id≠id)
  (λ_ i hi hs=>by
   have hx:=Ab hi;simp only[Hs,Ds hi,Aq,hx,Aa]
   cases e:(s.Vols[i].Id==id)with
   |true=>grind
   |false=>
    rw[ad1];refine .inl ⟨(),rfl,λj w hj hw=>?_⟩
    grind)
  (λ_ hs=>⟨_,by simp[CU,Hs],.inl ⟨rfl,λv hv=>by
   obtain⟨j,hj,rfl⟩:=Au hv
   simp_all⟩⟩) (s:=()) (λj w hj=>by omega)
 grind
theorem Jf {id:Int}:(∀v∈s.Vols,v.Id≠id)↔Jg (AF s) id=none:=by
 unfold Jg AF;simp
theorem AEb {w:Vol} (h:(s.Vols.map Vol.Id).Pairwise (·<·)) (hv:v∈s.Vols) (hw:w∈s.Vols) (e:v.Id=w.Id):v=w:=by
 obtain⟨i,hi,rfl⟩:=Au hv;obtain⟨j,hj,rfl⟩:=Au hw;have gi:(s.Vols.map Vol.Id)[i]?=some s.Vols[i].Id:=by grind
 have gj:(s.Vols.map Vol.Id)[j]?=some s.Vols[j].Id:=by grind
 rcases VR i j with h1|h1|h1
 ·have:=ST h h1 gi gj;omega
 ·subst h1;rfl
 have:=ST h h1 gj gi;omega
theorem Me (h:(s.Vols.map Vol.Id).Pairwise (·<·)) (hv:v∈s.Vols):Jg (AF s) v.Id=some (DJ s.Arena.Knots v.Root):=by
 unfold Jg;have hm:(v.Id,DJ s.Arena.Knots v.Root)∈AF s:=A6.2 ⟨v,hv,rfl⟩
 cases hf:(AF s).find? λp=>p.1==v.Id with
 |none=>grind
 |some p=>
  have h1:=List.find?_some hf;have h2:=List.mem_of_find?_eq_some hf;obtain⟨w,hw,rfl⟩:=A6.1 h2
  grind [AEb]
theorem Lt (s:Store):(AF s).length=s.Vols.length:=by unfold AF;rw[Ba]
theorem qF (K:Ks):DJ K (-1)=Ok:=by rfl
theorem vZ (s:Store) (p:Int->Bool) (t:Store) (hk:t.Arena=s.Arena) (hv:t.Vols=s.Vols.filter λv=>p v.Id):AF t=(AF s).filter λq=>p q.1:=by
 unfold AF;rw[hk,hv,List.filter_map];rfl
theorem Ud {body:List Vol×Int->Option ((List Vol×Int)⊕List Vol)} (l:List Vol) (p:Vol->Bool) (o:List Vol) (hM:l.length+o.length<=1048576) (h1:∀(i:Nat) v (a:List Vol),l[i]?=some v->a.length<=1048576->body (a,(i:Int))=some (.inl (bif p v then a++ [v]else a,((i+1:Nat):Int)))) (h2:∀a,body (a,(l.length:Int))=some (.inr a)):
  Ah body (o,0)=some (o++l.filter p):=by
 obtain⟨b,h3,h4⟩:=AC (body:=body) (λ(q:List Vol) i=>(q,i)) l.length (λi q=>q=o++(l.take i).filter p) (λb=>b=o++l.filter p)
  (λq i hi hq=>by grind [D9])
  (λq hq=>⟨q,h2 q,by grind⟩) (s:=o) (by simp)
 rw[h3,h4]
theorem ACm {R':List Int} (h:∀r∈R,r∈R') (hu:BW K R i=true):BW K R' i=true:=by grind [BW]
theorem aN {l:List Vol} (h:(l.map Vol.Id).Pairwise (·<·)) (v:Vol):(((l.filter λw=>decide (w.Id<v.Id))++ [v]++l.filter λw=>decide (w.Id>v.Id)).map Vol.Id).Pairwise (·<·):=by simp_all [Bo];grind
theorem iI (l:List Vol) (id:Int):(l.filter λw=>decide (w.Id<id)).length+(l.filter λw=>decide (w.Id>id)).length<=l.length:=by
 induction l with
 |nil=>simp
 |cons v l ih=>grind
def Lb (s:Store) (r:Cm) (o:Option (Store×Bool)):Prop:=match CN (AF s) s.Next r with
 |none=>o=some (s,false)
 |some (l,nx)=>∃t,o=some (t,true)/\Ci t/\AF t=l/\t.Next=nx
theorem AAA {r:Cm} (h:Ci s) (hr:G0 r=true) (hk:r.Kind=2):Lb s r (Ga s r):=by
 have hl:=h.len;have d:=Lr h.ar (by have:=h.few;omega);have b:=Gc s d (by omega);have hb:G0 r=true:=hr;unfold G0 at hr;rw[hk]at hr;simp at hr;unfold Lb CN;rw[hb,hk];simp only[Bool.true_eq_false,uY,C7,show¬((2:Int)=1) by omega];unfold Ga;have root:(Jg (AF s) r.Arg=none/\0<r.Arg/\(cond (decide<|r.Arg>0) ((CR s r.Arg).bind λv1=>cond (decide<|v1<0) ((DI s).bind λv2=>some<|.inr (v2,false))<|(gi s.Vols v1).bind λx1=>some<|.inl x1.Root) (some<|.inl<|-1):Option (Int⊕(Store×Bool)))=some (.inr (s,false)))\/
   (¬(0<r.Arg/\Jg (AF s) r.Arg=none)/\∃q,CA s.Arena.Knots q=true/\(q= -1\/q∈AM s)/\DJ s.Arena.Knots q=(if 0<r.Arg then(Jg (AF s) r.Arg).getD Ok else Ok)/\(cond (decide<|r.Arg>0) ((CR s r.Arg).bind λv1=>cond (decide<|v1<0) ((DI s).bind λv2=>some<|.inr (v2,false))<|(gi s.Vols v1).bind λx1=>some<|.inl x1.Root) (some<|.inl<|-1):Option (Int⊕(Store×Bool)))=some (.inl q)):=by
  by_cases h0:0<r.Arg
  ·rw[Ac (by omega:r.Arg>0)]
   rcases ED s (by omega) r.Arg with⟨h1,h2⟩|⟨k,v,h1,h2,h3,_⟩
   ·grind [Jf]
   right;rw[h1];have hm:=Aj h2;have hg:=Me h.asc hm;refine⟨λhh=>(by grind),v.Root,h.root _<|A6.2 ⟨v,hm,rfl⟩,.inr<|A6.2 ⟨v,hm,rfl⟩,?_,?_⟩
   ·grind
   grind [Aq]
  right;rw[Ai (by omega:¬r.Arg>0),B6 h0];exact⟨λhh=>h0 hh.1,-1,rfl,.inl rfl,qF _,rfl⟩
 rcases root with⟨g1,g2,g3⟩|⟨g1,q,g2,g3,g4,g5⟩
 ·grind
 rw[g5];simp only[Aa,Dj]
 rcases ED s (by omega) r.Vol with⟨h1,h2⟩|⟨k,v,h1,h2,h3,_⟩
 ·rw[h1];rw[Aa,cF,Bb];have j:Jg (AF s) r.Vol=none:=Jf.1 h2;by_cases h3:s.Vols.length=3
  ·grind [Lt]
  have e3:((s.Vols.length:Int)==3)=false:=by simp;omega
  rw[e3,B6<|by grind [Lt]];rw[b];have k1:=Ud (body:=λq:List Vol×Int=>Hj s r q.1 q.2) s.Vols (λv=>decide<|v.Id<r.Vol) [] (by simp;omega)
   (λi v c hv ho=>by
    have hi:=(Ad.1 hv).1;simp only[Hj,Ds hi,Aq,hv,Aa]
    grind [ad1,AZ])
   (λc=>by simp[CU,Hj])
  rw[Az]at k1;rw[k1];simp only[Aa];have l:=iI s.Vols r.Vol;rw[AZ (by simp;omega)];simp only[Aa];have k2:=Ud (body:=λq:List Vol×Int=>Hi s r q.1 q.2) s.Vols (λv=>decide<|v.Id>r.Vol) ((s.Vols.filter λv=>decide<|v.Id<r.Vol)++ [Vol.mk r.Vol q]) (by simp;omega)
   (λi v c hv ho=>by
    have hi:=(Ad.1 hv).1;simp only[Hi,Ds hi,Aq,hv,Aa]
    grind [ad1,AZ])
   (λc=>by simp[CU,Hi])
  rw[k2];have f:((s.Vols.filter λv=>decide<|v.Id<r.Vol)++ [Vol.mk r.Vol q]++s.Vols.filter λv=>decide<|v.Id>r.Vol).length<=3:=by grind
  have g:∀x∈AM s,x∈(AM<|Store.mk ((s.Vols.filter λv=>decide<|v.Id<r.Vol)++ [Vol.mk r.Vol q]++s.Vols.filter λv=>decide<|v.Id>r.Vol) s.Arena s.Next):=by
   intro x hx;obtain⟨v,hv,rfl⟩:=A6.1 hx;refine A6.2 ⟨v,?_,rfl⟩
   grind
  have a:∀x∈(AM<|Store.mk ((s.Vols.filter λv=>decide<|v.Id<r.Vol)++ [Vol.mk r.Vol q]++s.Vols.filter λv=>decide<|v.Id>r.Vol) s.Arena s.Next),x= -1\/x∈AM s:=by
   intro x hx;obtain⟨v,hv,rfl⟩:=A6.1 hx;simp only[A8,AR,Cp]at hv
   rcases hv with(hv|rfl)|hv
   ·exact .inr<|A6.2 ⟨v,hv.1,rfl⟩
   ·exact g3
   exact .inr<|A6.2 ⟨v,hv.1,rfl⟩
  refine⟨_,rfl,⟨⟨f,h.ar,h.nx,?_,aN h.asc<|Vol.mk r.Vol q,?_,?_,h.few⟩,?_⟩,?_,rfl⟩
  ·intro v hv;simp only[A8,AR,Cp]at hv
   rcases hv with(hv|rfl)|hv
   ·exact h.ids v hv.1
   ·grind
   exact h.ids v hv.1
  ·intro x hx
   rcases a x hx with e|e
   ·rw[e];rfl
   exact h.root x e
  ·intro x hx
   rcases a x hx with e|e
   ·intro y hy;rw[e]at hy;rw[qF]at hy;have:=DL hy;have:=h.nx
    grind
   exact h.lt x e
  ·intro i hi;exact ACm g<|h.used i hi
  rw[<-g4];unfold cH AF;simp only[Ka,HX,List.map_nil,List.filter_map];rfl
 rw[h1];have hg:=Me h.asc<|Aj h2
 grind
theorem PQ {f:α->Int} {v:α} (h:(l.map f).Pairwise (·<·)) (hv:l[k]?=some v):l.take k++l.drop (k+1)=l.filter λw=>f w !=f v:=by
 rw[List.pairwise_map]at h;have hk:=(Ad.1 hv).1;have e:l=l.take k++v::l.drop (k+1):=by grind [AD,BI]
 rw[e,Bo]at h;obtain⟨h1,h2,h3⟩:=h;rw[Co]at h2
 conv=>rhs;rw[e]
 rw[Cq,List.filter_cons_of_neg<|by simp]
 grind [IK]
theorem ACy (h:Ci s) (id:Int):StoreR (Store.mk (s.Vols.filter λw=>w.Id !=id) s.Arena s.Next):=by
 have hl:=h.len;refine⟨?_,h.ar,h.nx,λv hv=>h.ids v (AR.1 hv).1,?_,?_,?_,h.few⟩
 ·grind
 ·have:=h.asc
  grind
 ·intro x hx;obtain⟨w,hw,rfl⟩:=A6.1 hx;exact h.root _<|A6.2 ⟨w,(AR.1 hw).1,rfl⟩
 intro x hx;obtain⟨w,hw,rfl⟩:=A6.1 hx;exact h.lt _<|A6.2 ⟨w,(AR.1 hw).1,rfl⟩
theorem AEy {t:Nat} (h:Ci s) (h2:s.Vols[k]?=some v) (ht:t<16) (hn:0<=n) (e:n+1<=1000000000):StoreR (Store.mk (s.Vols.set k (Vol.mk v.Id ((s.Arena.Knots.length:Int)+1))) (Arena.mk (KA s.Arena.Knots v.Root t n)) (max s.Next (n+1))):=by
 have hl:=h.len;have hm:=Aj h2;have a:=h.root _<|A6.2 ⟨v,hm,rfl⟩;have f:=h.small
 have b:∀w∈s.Vols.set k (Vol.mk v.Id<|(s.Arena.Knots.length:Int)+1),w∈s.Vols\/w=Vol.mk v.Id ((s.Arena.Knots.length:Int)+1):=λw hw=>C6 hw
 refine⟨by simpa using hl,AE7 h.ar a ht hn,?_,?_,?_,?_,?_,?_⟩
 ·have:=h.nx
  grind
 ·intro w hw
  rcases b w hw with hw|rfl
  ·exact h.ids w hw
  exact h.ids v hm
 ·have:(s.Vols.set k<|Vol.mk v.Id<|(s.Arena.Knots.length:Int)+1).map Vol.Id=s.Vols.map Vol.Id:=by
   rw[List.map_set];apply BF
   grind
  rw[this];exact h.asc
 ·intro x hx;obtain⟨w,hw,rfl⟩:=A6.1 hx
  rcases b w hw with hw|rfl
  ·exact ABv<|h.root _<|A6.2 ⟨w,hw,rfl⟩
  exact AAa
 ·intro x hx y hy;obtain⟨w,hw,rfl⟩:=A6.1 hx;show y<max s.Next (n+1)
  rcases b w hw with hw|rfl
  ·have d:=h.root _<|A6.2 ⟨w,hw,rfl⟩;have c:y∈DJ s.Arena.Knots w.Root:=by rw[<-xY (X:=[Bf.mk true<|Sf s.Arena.Knots v.Root t n,Bf.mk false<|Wd s.Arena.Knots v.Root t]) h.ar d];exact hy
   have:=h.lt _ (A6.2 ⟨w,hw,rfl⟩) y c;omega
  have c:y∈(DJ s.Arena.Knots v.Root).set t n:=by rw[<-yH (s:=t) (n:=n) h.ar a (by omega)];exact hy
  rcases C6 c with c|rfl
  ·have:=h.lt _ (A6.2 ⟨v,hm,rfl⟩) y c;omega
  omega
 grind [KA]
theorem Xe (h:Ci s) (r:Cm):Lb s r (QT s r):=by
 have hl:=h.len;have d:=Lr h.ar (by have:=h.few;omega);have c:=Gc s d (by omega);unfold QT;rw[SF h,NU];simp only[Aa,Ak,Ae]
 cases hb:G0 r with
 |false=>grind [Lb,CN]
 |true=>
  have hr:=hb;unfold G0 at hr
  cases k1:(r.Kind==1)with
  |true=>
   have e1:r.Kind=1:=by simpa using k1
   rw[e1]at hr;simp at hr;unfold Lb CN;rw[hb,e1];have:(cond (r.Arg==0) (some 1) (some r.Arg):Option Int)=some (if r.Arg=0 then 1 else r.Arg):=by grind
   rw[this];refine⟨_,rfl,⟨⟨by simp,rfl,?_,by simp,by simp,by simp[AM],by simp[AM],by simp⟩,by simp⟩,rfl,rfl⟩
   grind
  |false=>
   have n1:r.Kind≠1:=by simpa using k1
   rw[k1]at hr
   cases k2:(r.Kind==2)with
   |true=>
    have:=AAA h hb (by simpa using k2);have e:((Ga s r).bind λv4=>some (v4.1,v4.2))=Ga s r:=by cases Ga s r<;>rfl
    grind
   |false=>
    have n2:r.Kind≠2:=by simpa using k2
    unfold Lb CN;rw[hb];simp only[Bool.true_eq_false,uY,B6 n1,B6 n2]
    rcases ED s (by omega) r.Vol with⟨h1,h2⟩|⟨k,v,h1,h2,h3,_⟩
    ·grind [Jf]
    rw[h1];simp only[Aa];rw[cF];simp only[Aa];have hm:=Aj h2;have f:=(Ad.1 h2).1;have hg:=Me h.asc hm
    cases hc:(r.Chunk==1000000000)with
    |true=>grind
    |false=>
     have n:r.Chunk≠1000000000:=by simpa using hc
     rw[B6 (by grind),c];simp only[Aa]
     cases k3:(r.Kind==3)with
     |true=>
      have e3:r.Kind=3:=by simpa using k3
      rw[Cn e3];rw[Bb,ad1];have d1:dr s.Vols 0 (k:Int)=some (s.Vols.take k):=by grind [dr]
      have d2:dr s.Vols ((k+1:Nat):Int) (s.Vols.length:Int)=some (s.Vols.drop<|k+1):=by grind [AQ,dr]
      rw[d1,d2];simp only[Aa];rw[Mg (by simp;omega)];simp only[Aa];rw[AZ (by simp;omega),PQ h.asc h2,h3];simp only[Aa];have hR:=ACy h r.Vol;rw[Mp hR];refine⟨_,rfl,wY hR,?_,rfl⟩;rw[iC hR];exact vZ s (λid=>id !=r.Vol) _ rfl rfl
     |false=>
      have n3:r.Kind≠3:=by simpa using k3
      rw[B6 n3];have ha:0<=r.Arg/\r.Arg<16/\0<=r.Chunk/\r.Chunk<=1000000000:=by grind
      obtain⟨t,ht⟩:∃t:Nat,r.Arg=(t:Int):=⟨_,(AL ha.1).symm⟩;rw[Aq,h2];simp only[Aa];have a:=h.root _<|A6.2 ⟨v,hm,rfl⟩;rw[ht,aY _ (by have:=h.few;omega) h.ar a (by omega) ha.2.2.1];simp only[Aa];rw[DQ];have hR:=AEy h h2 (show t<16 by omega) ha.2.2.1 (show r.Chunk+1<=1000000000 by omega);have m:AF (Store.mk (s.Vols.set k<|Vol.mk v.Id<|(s.Arena.Knots.length:Int)+1) (Arena.mk<|KA s.Arena.Knots v.Root t r.Chunk)<|max s.Next<|r.Chunk+1)=fA (AF s) r.Vol t r.Chunk:=by
       unfold AF fA;simp only[HQ];apply BF;intro j;rw[E4,E4,Pf];by_cases e:k=j
       ·subst e;rw[Cn rfl,Cn f,h2];simp only[JZ,Function.comp];rw[Cn h3,yH h.ar a<|by omega]
       rw[B6 e]
       cases hj:s.Vols[j]? with
       |none=>rfl
       |some w=>
        have g:=Aj hj;have i:w.Id≠r.Vol:=by
         intro e2;have gi:(s.Vols.map Vol.Id)[k]?=some v.Id:=by grind
         have gj:(s.Vols.map Vol.Id)[j]?=some w.Id:=by grind
         rcases VR k j with q|q|q
         ·have:=ST h.asc q gi gj;omega
         ·exact e q
         grind
        simp only[JZ,Function.comp];rw[B6 i];have:=xY (X:=[Bf.mk true<|Sf s.Arena.Knots v.Root t r.Chunk,Bf.mk false<|Wd s.Arena.Knots v.Root t]) h.ar<|h.root _<|A6.2 ⟨w,g,rfl⟩
        grind [KA]
      have l:∀b:Bool,b=decide (r.Chunk>=s.Next)->(cond b ((Hr<|Store.mk (s.Vols.set k<|Vol.mk v.Id<|(s.Arena.Knots.length:Int)+1) (Arena.mk<|KA s.Arena.Knots v.Root t r.Chunk)<|ad r.Chunk 1).bind λv11=>some (v11,true))<|(Hr<|Store.mk (s.Vols.set k<|Vol.mk v.Id<|(s.Arena.Knots.length:Int)+1) (Arena.mk<|KA s.Arena.Knots v.Root t r.Chunk) s.Next).bind λv12=>some (v12,true))=(Hr<|Store.mk (s.Vols.set k<|Vol.mk v.Id<|(s.Arena.Knots.length:Int)+1) (Arena.mk<|KA s.Arena.Knots v.Root t r.Chunk)<|max s.Next<|r.Chunk+1).bind λv=>some (v,true):=by grind [Cl]
      rw[l _ rfl,Mp hR];refine⟨_,rfl,wY hR,?_,rfl⟩
      grind [iC]
theorem AB6 (s:ByteArray) (f a:Int):O3 s f a=Ah (λn:Int=>Gl s a f n) 0:=by
 show(Ah (λn:Int=>Gl s a f n) 0).bind _=_;simp
theorem AB5 (s:ByteArray) (f a:Nat) (hf:f<a) (ha:a<=(L s).length) (hs:(L s).length<=64):∃k:Nat,Ah (λn:Int=>Gl s (a:Int) (f:Int) n) 0=some (k:Int)/\k<=31/\a+k<=(L s).length:=by
 obtain⟨b,h1,k,rfl,h2,h3⟩:=AC (body:=λn:Int=>Gl s (a:Int) (f:Int) n) (λ(_:Unit) i=>i) 31 (λi _=>a+i<=(L s).length) (λb=>∃k:Nat,b=(k:Int)/\k<=31/\a+k<=(L s).length)
  (λ_ i hi hs=>by
   simp only[Gl];rw[cT,Cl,Cl,Bv];by_cases c:a+i<(L s).length
   ·rw[cT];have e1:((f:Int)+(i:Int))=((f+i:Nat):Int):=by omega
    have e2:((a:Int)+(i:Int))=((a+i:Nat):Int):=by omega
    rw[e1,e2,EN s (by omega),EN s c];simp only[Aa]
    cases((((L s)[f+i]).toNat:Int)==(((L s)[a+i]).toNat:Int))with
    |true=>
     rw[ad1];exact .inl ⟨(),rfl,by omega⟩
    |false=>grind
   grind)
  (λ_ hs=>by
   simp only[Gl];rw[cF]
   exact⟨_,rfl,31,rfl,by omega,hs⟩) (s:=()) (by omega)
 grind
theorem uS (s:ByteArray) (a:Nat) (ha:a<=(L s).length) (hs:(L s).length<=64):∃z b:Nat,Ug s (a:Int)=some ((z:Int),(b:Int))/\Ah (λq:Int×Int×Int=>Ef s (a:Int) q.1 q.2.1 q.2.2) (0,0,sb (a:Int) 1)=some ((z:Int),(b:Int))/\z<=31/\a+z<=(L s).length/\(z=0\/4<=z/\1<=b/\b<=a):=by
 have c:(λq:Int×Int×Int=>Ef s (a:Int) q.1 q.2.1 q.2.2)=λq:Int×Int×Int=>Hy s (a:Int) q.1 q.2.1 q.2.2:=by grind [AB6,Ef,Hy]
 rw[c,BY];obtain⟨r,h1,z,b,rfl,h2,h3,h4⟩:=AC (body:=λq:Int×Int×Int=>Hy s (a:Int) q.1 q.2.1 q.2.2) (λ(q:Nat×Nat) i=>((q.1:Int),(q.2:Int),(a:Int)-1-i)) a (λi q=>q.1<=31/\a+q.1<=(L s).length/\(q.1=0\/4<=q.1/\1<=q.2/\q.2<=a)) (λr=>∃z b:Nat,r=((z:Int),(b:Int))/\z<=31/\a+z<=(L s).length/\(z=0\/4<=z/\1<=b/\b<=a))
  (λq i hi hq=>by
   obtain⟨k,m1,m2,m3⟩:=AB5 s (a-1-i) a (by omega) ha hs;have e1:((a:Int)-1-(i:Int))=((a-1-i:Nat):Int):=by omega
   simp only[Hy,e1];rw[Ac (by omega:(((a-1-i:Nat)):Int)>=0),Ao,m1,Aa,BY,BY];refine .inl ?_;have e2:(((a-1-i:Nat):Int)-1)=(a:Int)-1-((i+1:Nat):Int):=by omega
   have e3:((a:Int)-((a-1-i:Nat):Int))=((1+i:Nat):Int):=by omega
   rw[e2,e3];by_cases h4:4<=k
   ·rw[cT];by_cases h5:q.1<k
    ·rw[Ac (by omega:(k:Int)>(q.1:Int))];exact⟨(k,1+i),rfl,m2,m3,.inr ⟨h4,by omega,by omega⟩⟩
    grind
   grind)
  (λq hq=>by
   simp only[Hy]
   grind) (s:=(0,0)) ⟨by omega,by omega,.inl rfl⟩
 grind [BY,Ug]
def Wf (t:AO):Prop:=(t.Back=0/\t.Size=0/\1<=(L t.Text).length/\(L t.Text).length<=31)\/(1<=t.Back/\t.Back<=64/\4<=t.Size/\t.Size<=31/\L t.Text=[])
theorem Fd (l:List α) (x:α):gi (l++ [x]) (l.length:Int)=some x:=by
 rw[Aq];simp
theorem Kf (l:List α) (x y:α):si (l++ [x]) (l.length:Int) y=l++ [y]:=by
 rw[DQ];simp
theorem sV (s:ByteArray) (hs:(L s).length<=64):∃l,LM s=some l/\Ry s=some l/\l.length<=64/\∀t∈l,Wf t:=by
 unfold LM Ry;obtain⟨l,h1,h2,h3,h4⟩:=TY (body:=λq:List AO×Int=>C4 s q.1 q.2) (body':=λq:List AO×Int=>Mx s q.1 q.2) (λq=>(L s).length-q.2.toNat)
  (λq=>∃a:Nat,q.2=(a:Int)/\a<=(L s).length/\q.1.length<=a/\∀t∈q.1,Wf t) (λl=>l.length<=64/\∀t∈l,Wf t)
  (by
   rintro⟨f,at_⟩ ⟨a,ha,h1,h2,h3⟩;simp only at ha h2 h3;subst ha;simp only[C4,Mx];rw[Bv];by_cases i:a<(L s).length
   ·rw[Ac (by omega:(a:Int)<((L s).length:Int)),Ao,Ao];obtain⟨z,b,m1,m2,m3,m4,m5⟩:=uS s a h1 hs;rw[m1,m2];simp only[Aa]
    have c:∀x:AO,ap 32 f [x]=some (f++ [x]):=λx=>AZ<|by grind
    refine .inl ?_;by_cases hz:z=0
    ·subst hz;have esub:sub s (a:Int) (ad (a:Int) 1)=some (s.extract a<|a+1):=by rw[ad1];exact FW s (by omega) (by omega)
     have elen:(L<|s.extract a<|a+1).length=1:=by grind [K8]
     rw[esub,ad1,BY (by rw[Bb];omega) (by rw[Bb];omega),Bb]
     have ecat:∀x:ByteArray,(L x).length<=31->HY x (s.extract a<|a+1)=some (x++s.extract a (a+1)):=λx hx=>GY _ _ (by rw[elen];omega)
     have e0:HY (bs []) (s.extract a<|a+1)=some (s.extract a<|a+1):=by
      rw[ecat _ (by rw[DS];simp)];rfl
     have enew:Wf (AO.mk 0 0<|s.extract a<|a+1):= .inl ⟨rfl,rfl,by grind,by grind⟩
     have d:∀(o:List AO) (x:AO),(∀t∈o,Wf t)->Wf x->∀t∈o++ [x],Wf t:=λo x ho hx t ht=>by grind
     have fin:∀o:List AO,o.length<=a+1->(∀t∈o,Wf t)->(∃a':Nat,((a+1:Nat):Int)=(a':Int)/\a'<=(L s).length/\o.length<=a'/\∀t∈o,Wf t)/\(L s).length-(((a+1:Nat)):Int).toNat<(L s).length-((a:Int)).toNat:=λo g h=>⟨⟨a+1,rfl,by omega,g,h⟩,by omega⟩
     rcases Hp f with rfl|⟨o,x,rfl⟩
     ·simp only[N6,Int.ofNat_zero,Int.zero_sub];rw[Ac (by omega:(-1:Int)<0),Ai (by omega:¬(-1:Int)>=0)];simp only[Ao,Ae,Aa,c];rw[show ad (-1) 1=(([]:List AO).length:Int)from rfl];simp only[Fd,Aa,e0,Kf];exact⟨_,rfl,rfl,fin _ (by simp)<|d _ _ (by simp) enew⟩
     rw[KE]at h2 h3 c⊢;simp only[AE,Dg]at h2⊢;have ek:(((o.length+1:Nat):Int)-1)=(o.length:Int):=by omega
     rw[ek,Ai (by omega:¬(o.length:Int)<0),Ac (by omega:(o.length:Int)>=0)];simp only[Ao,Ae,Fd,Aa];have hx:=h3 x (by simp);have e:=d (o++ [x]) _ h3 enew;have elast:ad (o.length:Int) 1=((o++ [x]).length:Int):=by rw[ad1];simp
     rcases hx with⟨x1,x2,x3,x4⟩|⟨x1,x2,x3,x4,x5⟩
     ·rw[x1];simp only[show((0:Int)==0)=true from rfl,Ao,show decide ((0:Int)>0)=false from rfl,Ae];rw[Bv];by_cases h31:(L x.Text).length<31
      ·rw[Ac (by omega:((L x.Text).length:Int)<31),Ai (by omega:¬((L x.Text).length:Int)>=31)];simp only[Ao,Ae,Aa,Fd,ecat _ x4,Kf];simp only[x1];refine⟨_,rfl,rfl,fin _ (by simp;omega)<|d _ _ (λt ht=>h3 t<|by simp[ht])<|.inl ⟨rfl,x2,?_,?_⟩⟩
       ·grind [Hq]
       grind [Hq]
      rw[Ai (by omega:¬((L x.Text).length:Int)<31),Ac (by omega:((L x.Text).length:Int)>=31)];simp only[Ao,Ae,Aa,c,elast,Fd,e0,Kf];exact⟨_,rfl,rfl,fin _ (by simp;omega) e⟩
     have hb:(x.Back==0)=false:=by simp;omega
     rw[hb,Ac (by omega:x.Back>0)];simp only[Ao,Ae,Aa,c,elast,Fd,e0,Kf];exact⟨_,rfl,rfl,fin _ (by simp;omega) e⟩
    rw[Ac (by omega:(z:Int)>0),Ao,Ao,c];rw[Cl];refine⟨_,rfl,rfl,⟨a+z,by simp,by omega,by simp;omega,?_⟩,by simp only;omega⟩;intro t ht
    rcases A8.1 ht with ht|ht
    ·exact h3 t ht
    rw[Cp]at ht;subst ht;refine .inr ⟨?_,?_,?_,?_,by rfl⟩<;>simp only<;>omega
   grind) ((L s).length) ([],0) (by simp) ⟨0,rfl,by omega,by simp,by simp⟩
 grind
theorem aJ (l m:List Int):L (F7 (l++m))=L (F7 l)++L (F7 m):=by grind [OY]
theorem S3 (l:List Int):(L (F7 l)).length=l.length:=by rw[OY,Ba]
theorem ABb (b:ByteArray):L (F7 (zW b))=L b:=by
 rw[OY,zW,HQ];have:((λn:Int=>UInt8.ofNat n.toNat)∘λc:UInt8=>(c.toNat:Int))=id:=by
  funext c;simp
 rw[this,VS];rfl
theorem ACP (l:List Int) (b:ByteArray):aps l b=ap 1 l (zW b):=by simp[zW,aps,ap]
theorem lH (b:ByteArray):(zW b).length=(L b).length:=by simp[zW,L]
theorem YY (s:ByteArray):∃z ok,EE s=some (z,ok)/\Md s=some (z,ok)/\(ok=false->z=bs [])/\(ok=true->(L s).length<=64/\((L z)[0]?=some 122\/(L z)[0]?=some 114)):=by
 unfold EE Md;rw[Bv];by_cases hs:(L s).length<=64
 ·rw[Ai (by omega:¬((L s).length:Int)>64),Ae,Ae];obtain⟨l,t1,t2,t3,t4⟩:=sV s hs;rw[t1,t2];simp only[Aa];obtain⟨z,v,h1,h2,rfl,h3,h4⟩:=jL (body:=λq:ByteArray×Int=>EX l q.1 q.2) (body':=λq:List Int×Int=>J5 l q.1 q.2) (λv i=>(F7 v,i)) (λv i=>(v,i)) l.length (λi v=>v.length<=1+33*i/\(L<|F7 v)[0]?=some 122) (λz v=>z=F7 v/\v.length<=4000/\(L<|F7 v)[0]?=some 122)
   (λv i hi hv=>by
    have hg:l[i]?=some l[i]:=Ab hi;have ht:=t4 _<|Aw hi;refine .inl ?_;simp only[EX,J5,Fv,Ac hi,Ao,Aq,hg,Aa]
    have b:∀(a:ByteArray) (m:List Int),(L a).length<=4000->m.length<=2->HY a (F7 m)=some (a++F7 m):=λa m h1 h2=>GY _ _ (by rw[S3];omega)
    have h0:∀m:List Int,(L<|F7<|v++m)[0]?=some 122:=λm=>by grind [aJ]
    rcases ht with⟨x1,x2,x3,x4⟩|⟨x1,x2,x3,x4,x5⟩
    ·rw[x1];simp only[show((0:Int)==0)=true from rfl,Ao,show decide ((0:Int)>0)=false from rfl,Ae];rw[b _ _ (by rw[S3];omega) (by simp),AZ<|by grind];simp only[Aa];rw[GY _ _ (by grind [Hq,S3]),ACP,AZ (by rw[lH];grind)]
     grind [ad1,JH,Hq,aJ,ABb,lH]
    have hb:(l[i].Back==0)=false:=by simp;omega
    rw[hb,Ac (by omega:l[i].Back>0)];simp only[Ao,Ae];rw[b _ _ (by rw[S3];omega) (by simp),AZ<|by grind];simp only[Aa];rw[ad1<|by omega];refine⟨v++ [IntKind.u8.wrap<|ad 128 l[i].Size,IntKind.u8.wrap l[i].Back],?_,rfl,?_,h0 _⟩
    ·grind [JH,Hq,aJ]
    grind)
   (λv hv=>⟨_,_,by grind [Fv,EX],by grind [Fv,J5],rfl,by omega,hv.2⟩) (s:=[122]) ⟨by simp,by rw[OY];rfl⟩
  have e0:(F7 [122],(0:Int))=(bs [122],(0:Int)):=by rfl
  simp only[e0]at h1;rw[h1,h2];simp only[Aa];rw[Bv,S3,Bb,Cl (by omega)<|by omega];by_cases hc:((L s).length:Int)+1<=(v.length:Int)
  ·rw[Ac hc,Ao,GY _ _ (by rw[DS];grind)];refine⟨_,true,rfl,rfl,by simp,λ_=>⟨hs,.inr ?_⟩⟩;rfl
  simp_all [Ai]
 simp_all;grind
def Sy (t:AO):Prop:=(t.Back=0/\t.Size=0/\1<=(L t.Text).length/\(L t.Text).length<=31)\/(t.Back≠0/\1<=t.Size/\t.Size<=31/\L t.Text=[])
theorem oO:Qr=GN:=by grind [dN,Sh,ACP,Qr,GN,R5,Ei,ln,R4,DC]
theorem RZ (l:List AO) (hl:l.length<=1048576):∃p ok,GN l=some (p,ok)/\(ok=true->∀t∈l,Sy t):=by
 unfold GN;obtain⟨r,h1,h2⟩:=AC (body:=λq:List Int×Int=>Ei l q.1 q.2) (λ(o:List Int) i=>(o,i)) l.length (λi o=>o.length<=64/\∀(j:Nat) t,j<i->l[j]?=some t->Sy t) (λr=>(∃o,r= .inl o/\∀t∈l,Sy t)\/r= .inr (bs [],false))
  (λo i hi ho=>by
   have hg:l[i]?=some l[i]:=Ab hi;simp only[Ei,Ds hi,Aq,hg,Aa,Sh];have good:∀(o':List Int),Sy l[i]->(∃s',(some (.inl o':(List Int)⊕(List Int×Int)⊕(List Int)⊕(ByteArray×Bool))).bind (Sum.elim (λj1=>cond (decide<|(ln j1)>64) (some<|.inr<|.inr (bs [],false))<|some<|.inl (j1,ad (i:Int) 1)) some)=some (.inl (s',((i+1:Nat):Int)))/\s'.length<=64/\∀(j:Nat) t,j<i+1->l[j]?=some t->Sy t)\/∃b,(some (.inl o':(List Int)⊕(List Int×Int)⊕(List Int)⊕(ByteArray×Bool))).bind (Sum.elim (λj1=>cond (decide<|(ln j1)>64) (some<|.inr<|.inr (bs [],false))<|some<|.inl (j1,ad (i:Int) 1)) some)=some (.inr b)/\((∃o,b= .inl o/\∀t∈l,Sy t)\/b= .inr (bs [],false)):=by grind [Bb,ad1]
   by_cases hb:l[i].Back=0
   ·rw[hb];rw[Bv];by_cases hx:(1<=(L l[i].Text).length/\(L l[i].Text).length<=31)/\l[i].Size=0
    ·obtain⟨⟨c,d⟩,a⟩:=hx;rw[Ac (by omega:(1:Int)<=((L l[i].Text).length:Int)),Ac (by omega:((L l[i].Text).length:Int)<=31),a];rw[AZ (by rw[lH];omega)];exact good _<|.inl ⟨hb,a,c,d⟩
    grind
   have hb':(l[i].Back==0)=false:=by simpa using hb
   rw[hb'];rw[Bb,Se,DS];by_cases hx:(1<=l[i].Back/\l[i].Back<=(o.length:Int))/\(1<=l[i].Size/\l[i].Size<=31)/\L l[i].Text=[]
   ·obtain⟨⟨y1,y2⟩,⟨y3,y4⟩,y5⟩:=hx;rw[Ac y1,Ac y2,Ac y3,Ac y4,Ac y5];obtain⟨o',q1,q2⟩:=AC (body:=λq:List Int×Int=>DC l[i] q.1 q.2) (λ(o:List Int) k=>(o,k)) l[i].Size.toNat (λk u=>u.length=o.length+k) (λ_=>True)
     (λu k hk hu=>by grind [BY,Bb,L5,AZ,ad1,DC])
     (λu hu=>⟨u,by grind [DC],trivial⟩) (s:=o) (by omega)
    rw[q1];exact good _<|.inr ⟨hb,y3,y4,y5⟩
   grind)
  (λo ho=>⟨_,by simp[CU,Ei],.inl ⟨o,rfl,λt ht=>by
   obtain⟨j,hj,rfl⟩:=Au ht
   simp_all⟩⟩) (s:=[]) ⟨by simp,λj t hj=>by omega⟩
 grind
theorem Zs (c:UInt8):IntKind.i64.wrap (c.toNat:Int)=(c.toNat:Int):=Pa (by omega) (by have:=c.toNat_lt;omega)
theorem hZ (rem:ByteArray) (a:List AO) (h:0<(L rem).length) (ho:a.length<=1048576) (hr:(L rem).length<=1048576):
  Dt rem a=some (if 128<=(L rem)[0].toNat/\2<=(L rem).length then .inl (rem.extract 2 (L rem).length,a++ [AO.mk (((L rem)[1]?.getD 0).toNat:Int) (((L rem)[0].toNat:Int)-128) (bs [])])
   else if(L rem)[0].toNat<128/\(L rem)[0].toNat<(L rem).length then .inl (rem.extract (1+(L rem)[0].toNat) (L rem).length,a++ [AO.mk 0 0 (rem.extract 1 (1+(L rem)[0].toNat))])
   else .inr (.inr ([],false))):=by
 have d:=(L rem)[0].toNat_lt;have b:seq rem (bs [])=false:=by grind [Se,DS]
 have c:∀x:AO,ap 32 a [x]=some (a++ [x]):=λx=>AZ<|by grind
 unfold Dt;rw[b];have s0:sx rem 0=some ((L rem)[0].toNat:Int):=EN rem (i:=0) h;simp only[CG,Ao,s0,Aa,Zs,Bv,c];have c0:ad 1 ((L rem)[0].toNat:Int)=((1+(L rem)[0].toNat:Nat):Int):=by rw[Cl];omega
 rw[c0];by_cases h1:128<=(L rem)[0].toNat
 ·rw[Ac (by omega:((L rem)[0].toNat:Int)>=128),Ai (by omega:¬((L rem)[0].toNat:Int)<128)];simp only[Ao,Ae,Aa];by_cases h2:2<=(L rem).length
  ·grind [EN,FW,BY,Zs,L,sub]
  grind
 rw[Ai (by omega:¬((L rem)[0].toNat:Int)>=128),Ac (by omega:((L rem)[0].toNat:Int)<128),B6 λe=>h1 e.1];simp only[Ao,Ae,Aa];simp_all [L,sub];grind
theorem pA (rem:ByteArray) (a:List AO) (h:(L rem).length=0):Dt rem a=some (.inr (.inl a)):=by grind [Se,DS,Dt]
theorem hO (t:ByteArray) (b:List AO) (a:Nat) (h:a<(L t).length) (ho:b.length<=1048576) (hr:(L t).length<=1048576):
  BR t b (a:Int)=some (if 128<(L t)[a].toNat then(if a+2<=(L t).length then .inl (b++ [AO.mk (((L t)[a+1]?.getD 0).toNat:Int) (((L t)[a].toNat:Int)-128) (bs [])],((a+2:Nat):Int))else .inr (.inr (b,false)))
   else if a+1+(L t)[a].toNat<=(L t).length then .inl (b++ [AO.mk 0 0 (t.extract (a+1) (a+1+(L t)[a].toNat))],((a+1+(L t)[a].toNat:Nat):Int))
   else .inr (.inr (b,false))):=by
 have d:=(L t)[a].toNat_lt
 have c:∀x:AO,ap 32 b [x]=some (b++ [x]):=λx=>AZ<|by grind
 have c2:ad (a:Int) 2=((a+2:Nat):Int):=by rw[Cl];omega
 have c3:ad ((a+1:Nat):Int) ((L t)[a].toNat:Int)=((a+1+(L t)[a].toNat:Nat):Int):=by rw[Cl];omega
 unfold BR;rw[Bv,cT,EN t h];simp only[Aa,Zs,c];rw[c2,ad1,c3];by_cases h1:128<(L t)[a].toNat
 ·rw[cT,Cn h1];by_cases h2:a+2<=(L t).length
  ·rw[cF,Cn h2,EN t (by omega:a+1<(L t).length),BY]
   grind [Zs]
  grind
 rw[cF,B6 h1];by_cases h2:a+1+(L t)[a].toNat<=(L t).length
 ·rw[Ai (by omega:¬((a+1+(L t)[a].toNat:Nat):Int)>((L t).length:Int)),Ae,Cn h2,FW t (by omega) h2];rfl
 grind
theorem aA (t:ByteArray) (b:List AO) (a:Nat) (h:(L t).length<=a):BR t b (a:Int)=some (.inr (.inl b)):=by grind [Bv,BR]
theorem AA5 (rem:ByteArray) (a:List AO) (h:a.length+(L rem).length<=1048576):∃r,Ah (λq:ByteArray×List AO=>Dt q.1 q.2) (rem,a)=some r/\((∃l,r= .inl l/\l.length<=1048576/\∀t∈a,t∈l)\/r= .inr ([],false)):=by
 obtain⟨r,h1,_,h2⟩:=TY (body:=λq:ByteArray×List AO=>Dt q.1 q.2) (body':=λq:ByteArray×List AO=>Dt q.1 q.2) (λq=>(L q.1).length) (λq=>q.2.length+(L q.1).length<=1048576/\∀t∈a,t∈q.2) (λr=>(∃l,r= .inl l/\l.length<=1048576/\∀t∈a,t∈l)\/r= .inr ([],false))
  (by grind [pA,hZ,K8]) _ (rem,a) (A4 _) ⟨h,λt ht=>ht⟩
 grind
theorem AA4 (t:ByteArray) (b:List AO) (a:Nat) (ha:a<=(L t).length) (h:b.length<=a) (hr:(L t).length<=1048576):∃r,Ah (λq:List AO×Int=>BR t q.1 q.2) (b,(a:Int))=some r/\((∃l,r= .inl l/\l.length<=1048576/\∀x∈b,x∈l)\/∃l,r= .inr (l,false)/\l.length<=1048576):=by
 obtain⟨r,h1,_,h2⟩:=TY (body:=λq:List AO×Int=>BR t q.1 q.2) (body':=λq:List AO×Int=>BR t q.1 q.2) (λq=>(L t).length-q.2.toNat) (λq=>∃a:Nat,q.2=(a:Int)/\a<=(L t).length/\q.1.length<=a/\∀x∈b,x∈q.1) (λr=>(∃l,r= .inl l/\l.length<=1048576/\∀x∈b,x∈l)\/∃l,r= .inr (l,false)/\l.length<=1048576)
  (by
   rintro⟨o,at_⟩ ⟨a,ha,hl,hb,ho⟩;simp only at ha hb ho;subst ha;simp only
   rcases Fz a (L t).length with h0|h0
   ·rw[hO t o a h0 (by omega) hr];split
    ·split
     ·simp_all;grind
     grind
    split
    ·simp_all;grind
    grind
   grind [aA]) _ (b,(a:Int)) (A4 _) ⟨a,rfl,ha,h,λt ht=>ht⟩
 grind
theorem AA3 (t:ByteArray) (hr:(L t).length<=1048576):∀(n a:Nat) (rem:ByteArray) (b:List AO),(L t).length-a<=n->a<=(L t).length->L rem=(L t).drop a->b.length<=a->
  ∃ri rs,Ah (λq:ByteArray×List AO=>Dt q.1 q.2) (rem,b)=some ri/\Ah (λq:List AO×Int=>BR t q.1 q.2) (b,(a:Int))=some rs/\
   ((∃l,ri= .inl l/\rs= .inl l/\l.length<=1048576)\/((ri= .inr ([],false)\/∃l,ri= .inl l/\l.length<=1048576/\∃x∈l,¬Sy x)/\((∃l,rs= .inr (l,false)/\l.length<=1048576)\/∃l,rs= .inl l/\l.length<=1048576/\∃x∈l,¬Sy x))):=by
 intro n
 induction n with
 |zero=>grind [Ay,pA,aA]
 |succ n ih=>
  intro a rem b h1 h2 h3 h4
  rcases Fz a (L t).length with h0|h0
  ·have j:(L rem).length=(L t).length-a:=by rw[h3];simp
   have e:0<(L rem).length:=by omega
   have g:(L rem)[0]=(L t)[a]:=by grind
   have h:(L rem)[1]?.getD 0=(L t)[a+1]?.getD 0:=by grind
   have c:=hZ rem b e (by omega) (by omega);have f:=hO t b a h0 (by omega) hr
   have d:∀k,L (rem.extract k (L rem).length)=(L t).drop (a+k):=λk=>by grind [K8,E5,AQ]
   rw[g,h]at c
   rcases VR (L t)[a].toNat 128 with hc|hc|hc
   ·rw[B6<|by omega]at c;by_cases hk:a+1+(L t)[a].toNat<=(L t).length
    ·obtain⟨ri,rs,q1,q2,q3⟩:=ih (a+1+(L t)[a].toNat) (rem.extract (1+(L t)[a].toNat) (L rem).length) (b++ [AO.mk 0 0<|t.extract (a+1)<|a+1+(L t)[a].toNat]) (by omega) hk (by grind) (by grind);have etx:rem.extract 1 (1+(L t)[a].toNat)=t.extract (a+1) (a+1+(L t)[a].toNat):=by grind [JH,K8,E5]
     refine⟨ri,rs,?_,?_,q3⟩
     ·rw[Ay]
      grind
     grind [Ay]
    grind [Ay]
   ·
    have hI:∃ri,Ah (λq:ByteArray×List AO=>Dt q.1 q.2) (rem,b)=some ri/\(ri= .inr ([],false)\/∃l,ri= .inl l/\l.length<=1048576/\∃x∈l,¬Sy x):=by
     by_cases hk:2<=(L rem).length
     ·obtain⟨r,q1,q2⟩:=AA5 (rem.extract 2 (L rem).length) (b++ [AO.mk (((L t)[a+1]?.getD 0).toNat:Int) (((L t)[a].toNat:Int)-128)<|bs []]) (by grind);refine⟨r,by rw[Ay];grind,?_⟩
      rcases q2 with⟨l,rfl,q3,q4⟩|rfl
      ·refine .inr ⟨l,rfl,q3,_,q4 _<|BT _<|Cp.2 rfl,?_⟩;intro hk
       rcases hk with⟨_,_,k3,_⟩|⟨_,k2,_⟩
       ·grind [DS]
       grind
      exact .inl rfl
     grind [Ay]
    have hS:∃rs,Ah (λq:List AO×Int=>BR t q.1 q.2) (b,(a:Int))=some rs/\((∃l,rs= .inr (l,false)/\l.length<=1048576)\/∃l,rs= .inl l/\l.length<=1048576/\∃x∈l,¬Sy x):=by
     by_cases hk:a+1+(L t)[a].toNat<=(L t).length
     ·obtain⟨r,q1,q2⟩:=AA4 t (b++ [AO.mk 0 0<|t.extract (a+1)<|a+1+(L t)[a].toNat]) (a+1+(L t)[a].toNat) hk (by grind) hr;refine⟨r,by rw[Ay];grind,?_⟩
      rcases q2 with⟨l,rfl,q3,q4⟩|⟨l,rfl,q3⟩
      ·refine .inr ⟨l,rfl,q3,_,q4 _<|BT _<|Cp.2 rfl,?_⟩;intro i
       rcases i with⟨_,_,_,k4⟩|⟨k1,_⟩
       ·simp only[K8,Fl,Q9]at k4;omega
       exact k1 rfl
      grind
     grind [Ay]
    obtain⟨ri,q1,q2⟩:=hI;obtain⟨rs,q3,q4⟩:=hS;exact⟨ri,rs,q1,q3,.inr ⟨q2,q4⟩⟩
   by_cases hk:a+2<=(L t).length
   ·obtain⟨ri,rs,q1,q2,q3⟩:=ih (a+2) (rem.extract 2 (L rem).length) (b++ [AO.mk (((L t)[a+1]?.getD 0).toNat:Int) (((L t)[a].toNat:Int)-128)<|bs []]) (by omega) hk (d 2) (by grind);exact⟨ri,rs,by rw[Ay];grind,by rw[Ay];grind,q3⟩
   grind [Ay]
  grind [Ay,aA]
theorem ABK (t:ByteArray) (hr:(L t).length<=1048576):∃li oi ls os pi ki ps ks,Ro t=some (li,oi)/\MF t=some (ls,os)/\Qr li=some (pi,ki)/\GN ls=some (ps,ks)/\((oi=os/\pi=ps/\ki=ks)\/((oi=false\/ki=false)/\(os=false\/ks=false))):=by
 obtain⟨ri,rs,q1,q2,q3⟩:=AA3 t hr ((L t).length) 0 t [] (by omega) (by omega) (by simp) (by simp);have e0:(([]:List AO),((0:Nat):Int))=([],0):=rfl;simp only[e0]at q2;unfold Ro MF;rw[q1,q2,oO];have none:∀l:List AO,l.length<=1048576->(∃x∈l,¬Sy x)->∃p,GN l=some (p,false):=by
  rintro l hl ⟨x,hx,hn⟩;obtain⟨p,ok,h1,h2⟩:=RZ l hl
  cases ok with
  |false=>exact⟨p,h1⟩
  |true=>grind
 rcases q3 with⟨l,rfl,rfl,hl⟩|⟨hi,hs⟩
 ·obtain⟨p,ok,h1,_⟩:=RZ l hl;exact⟨l,true,l,true,p,ok,p,ok,rfl,rfl,h1,h1,.inl ⟨rfl,rfl,rfl⟩⟩
 have hI:∃li oi pi ki,(some ri).bind (Sum.elim (λv1=>some (v1,true)) some)=some (li,oi)/\GN li=some (pi,ki)/\(oi=false\/ki=false):=by
  rcases hi with rfl|⟨l,rfl,hl,hb⟩
  ·obtain⟨p,ok,h1,_⟩:=RZ [] (by simp)
   grind
  obtain⟨p,h1⟩:=none l hl hb;simp_all
 have hS:∃li oi pi ki,(some rs).bind (Sum.elim (λv1=>some (v1,true)) some)=some (li,oi)/\GN li=some (pi,ki)/\(oi=false\/ki=false):=by grind [RZ]
 obtain⟨li,oi,pi,ki,a1,a2,a3⟩:=hI;obtain⟨ls,os,ps,ks,b1,b2,b3⟩:=hS;exact⟨li,oi,ls,os,pi,ki,ps,ks,a1,b1,a2,b2,.inr ⟨a3,b3⟩⟩
theorem Ve (t:ByteArray) (hr:(L t).length<=1048576):∃u ok,Gd t=some (u,ok)/\NI t=some (u,ok)/\(ok=false->u=bs [])/\(ok=true->(L u).length<=64):=by
 unfold Gd NI;rw[Bv,Se,DS];by_cases h0:L t=[]
 ·simp_all
 have a:0<(L t).length:=by grind
 have e1:(((L t).length:Int)==0)=false:=by simp;exact h0
 rw[e1,Ai h0,Ae,Ae];have s1:sub t 1 ((L t).length:Int)=some (t.extract 1 (L t).length):=FW t (i:=1) (by omega)<|A4 _;have s0:sx t 0=some ((L t)[0].toNat:Int):=EN t (i:=0) a;rw[s1,s0];simp only[Aa];generalize hx:t.extract 1 (L t).length=x;have b:(L x).length<=1048576:=by grind [K8]
 obtain⟨li,oi,ls,os,pi,ki,ps,ks,a1,a2,a3,a4,a5⟩:=ABK x b;rw[a1,a2];simp only[Aa];rw[a3,a4];simp only[Aa];have back:∀j:ByteArray,∃u ok,((EE j).bind λv3=>(cond (!v3.2) (some true) (some<|!(seq v3.1 t)):Option Bool).bind λj2=>cond j2 (some (bs [],false)) (some (j,true)):Option (ByteArray×Bool))=some (u,ok)/\
   ((Md j).bind λv3=>(cond (!v3.2) (some true) (some<|!(seq v3.1 t)):Option Bool).bind λj2=>cond j2 (some (bs [],false)) (some (j,true)):Option (ByteArray×Bool))=some (u,ok)/\(ok=false->u=bs [])/\(ok=true->(L u).length<=64/\((L t)[0].toNat=122\/(L t)[0].toNat=114)):=by
  intro j;obtain⟨z,ok,p1,p2,p3,p4⟩:=YY j;rw[p1,p2];simp only[Aa]
  cases ok with
  |false=>simp
  |true=>
   simp only[Ak,Ae,Aa]
   cases hz:seq z t with
   |false=>simp
   |true=>
    have c:z=t:=by grind [KH]
    obtain⟨p5,p6⟩:=p4 rfl;refine⟨_,true,rfl,rfl,by simp,λ_=>⟨p5,?_⟩⟩;rw[c,Ab a]at p6
    rcases p6 with p6|p6
    ·simp_all
    simp_all
 by_cases h122:(L t)[0].toNat=122
 ·have c1:((((L t)[0].toNat:Nat):Int)==122)=true:=by simp[h122]
  have c2:((((L t)[0].toNat:Nat):Int) !=114)=true:=by simp[h122]
  rw[c1,c2];simp only[Ao]
  rcases a5 with⟨rfl,rfl,rfl⟩|⟨hi,hs⟩
  ·cases oi with
   |false=>simp
   |true=>
    cases ki with
    |false=>simp
    |true=>simp_all
  grind
 have c1:((((L t)[0].toNat:Nat):Int)==122)=false:=by simp;omega
 rw[c1];simp only[Ae,Aa,Dj];by_cases h114:(L t)[0].toNat=114
 ·simp_all
 have c2:((((L t)[0].toNat:Nat):Int) !=114)=true:=by simp;omega
 rw[c2];simp only[Ao];have nope:∀(j u:ByteArray) (ok:Bool),(ok=true->(L u).length<=64/\((L t)[0].toNat=122\/(L t)[0].toNat=114))->ok=false:=by grind
 obtain⟨u,ok,b1,b2,b3,b4⟩:=back x;have k1:=nope x u ok b4;subst k1;have k2:=b3 rfl;subst k2;refine⟨bs [],false,b1,?_,by simp,by simp⟩
 cases oi with
 |false=>rfl
 |true=>
  cases ki with
  |false=>rfl
  |true=>
   simp only[Ak,Ae,Aa,Dj];obtain⟨u,ok,d1,d2,d3,d4⟩:=back pi
   grind
def UM (x:Bf):Nat:=x.Kids.length
def QC (x:Arena):Nat:=zl UM x.Knots
def EC (x:Store):Nat:=x.Vols.length+QC x.Arena
def GA (x:Device):Nat:=L8 x.Flash+EC x.Store
def Ss (x:Leaf):Nat:=bif x.Is==0 then 1 else 0
theorem ACL (l:List Leaf):(l.map Ss).sum<=l.length:=by
 induction l with
 |nil=>simp
 |cons x l ih=>grind [Ss]
theorem Yc (b:Block) (h:b.Leaves.length<=1048576):I3 b=some ((b.Leaves.map Ss).sum:Int):=by
 unfold I3;obtain⟨v,h1,rfl⟩:=AC (body:=λs:Int×Int=>Hn b s.1 s.2) (λ(s:Int) i=>(s,i)) b.Leaves.length (λk s=>s=(((b.Leaves.take k).map Ss).sum:Nat)) (λv=>v=((b.Leaves.map Ss).sum:Nat))
  (λs k hk hs=>by
   have hx:b.Leaves[k]?=some b.Leaves[k]:=Ab hk;have e:=S2 Ss b.Leaves k hk;have e2:=Ph Ss b.Leaves<|k+1;have e3:=ACL b.Leaves;refine .inl ?_;simp only[Hn,Ds hk,Aq,hx,Aa]
   grind [Cl,Ss])
  (λs hs=>⟨s,by simp[CU,Hn],by grind⟩) (s:=0) (by simp)
 rw[h1];rfl
theorem Ye (f:Flash) (hf:JD f) (hn:nl f.Blocks<=1048576):∃v:Int,ML f=some v/\ON f=some v/\0<=v/\v<=nl f.Blocks:=by
 unfold ML ON;obtain⟨v,h1,h2,h3⟩:=La (body:=λs:Int×Int=>MK f s.1 s.2) (body':=λs:Int×Int=>Nf f s.1 s.2) (λ(s:Int) i=>(s,i)) (λ(s:Int) i=>(s,i)) f.Blocks.length (λi n=>0<=n/\n<=(((f.Blocks.take i).map λb=>b.Leaves.length).sum:Nat)) (λv=>0<=v/\v<=nl f.Blocks)
  (λn i hi hs=>by
   have hb:f.Blocks[i]?=some f.Blocks[i]:=Ab hi;have hm:f.Blocks[i]∈f.Blocks:=Aw _;have d:=S2 (λb:Block=>b.Leaves.length) f.Blocks i hi;have g:=Ph (λb:Block=>b.Leaves.length) f.Blocks<|i+1;unfold nl at hn;have h:=hf.1;have c:=hf.2 _ hm;have j:=ACL f.Blocks[i].Leaves;refine .inl ?_;simp only[MK,Nf,Ds hi,Aq,hb,Aa,Yc _ c];obtain⟨u,q1,rfl⟩:=AC (body:=λs:Int×Int=>MJ f (i:Int) s.1 s.2) (λ(s:Int) i=>(s,i)) f.Blocks[i].Leaves.length (λk s=>s=n+(bif f.Blocks[i].Bad then 0 else((f.Blocks[i].Leaves.take k).map Ss).sum:Nat)) (λv=>v=n+(bif f.Blocks[i].Bad then 0 else(f.Blocks[i].Leaves.map Ss).sum:Nat))
    (λs k hk hs=>by
     have hx:f.Blocks[i].Leaves[k]?=some f.Blocks[i].Leaves[k]:=Ab hk;have e:=S2 Ss f.Blocks[i].Leaves k hk;have e2:=Ph Ss f.Blocks[i].Leaves<|k+1;refine .inl ?_;simp only[MJ,Aq,hb,Aa,Ds hk,hx]
     cases a:f.Blocks[i].Bad with
     |true=>
      rw[a]at hs;simp only[Ak,Ae,Ao]at hs⊢;rw[ad1]
      grind
     |false=>
      rw[a]at hs;simp only[CG,Ae,Ao]at hs⊢;have e4:Ss f.Blocks[i].Leaves[k]=bif f.Blocks[i].Leaves[k].Is==0 then 1 else 0:=rfl
      cases hb:f.Blocks[i].Leaves[k].Is==0 with
      |true=>
       rw[hb]at e4;simp only[Ao]at e4⊢;rw[ad1,Cl]
       grind
      |false=>
       rw[hb]at e4;simp only[Ae]at e4⊢;rw[ad1]
       grind)
    (λs hs=>⟨s,by simp_all [Aq,CU,MJ],by grind⟩) (s:=n) (by grind)
   rw[q1];simp only[Aa]
   cases f.Blocks[i].Bad with
   |true=>
    simp only[Ao,Ak,Ae];rw[ad1]
    grind
   |false=>
    simp only[Ao,CG,Ae];rw[ad1,Cl]
    grind)
  (λn hs=>by
   rw[Jh]at hs
   exact⟨n,by simp[CU,MK],by simp[CU,Nf],hs⟩) (s:=0) (by simp)
 grind
def Ls (a:Arena):Prop:=a.Knots.length<=1048576
theorem Y4 (x a b:Int):BD x a b=some (decide (a<=x/\x<=b)):=by
 rw[Sh];simp
theorem Xs (a:Arena):Je a=GP a:=by
 unfold Je GP
 grind [dN,RI,Eo,gi,RH,EU]
def Td (a:Arena) (i:Nat) (k:Bf) (n:Int):Prop:=if k.Leaf=true then 0<=n else n= -1\/(0<=n/\n<i/\∃k',gi a.Knots n=some k'/\k'.Leaf=true)
theorem wT (a:Arena) (ha:Ls a):∃v,GP a=some v/\(v=true->∀(i:Nat) k,a.Knots[i]?=some k->k.Kids.length=4/\∀n∈k.Kids,Td a i k n):=by
 unfold Ls at ha;unfold GP;obtain⟨r,h1,h2⟩:=AC (body:=λs:Int=>Eo a s) (λ(_:Unit) i=>i) a.Knots.length (λi _=>∀(j:Nat) k,j<i->a.Knots[j]?=some k->k.Kids.length=4/\∀n∈k.Kids,Td a j k n) (λr=>r= .inr false\/r= .inl ()/\∀(i:Nat) k,a.Knots[i]?=some k->k.Kids.length=4/\∀n∈k.Kids,Td a i k n)
  (λ_ i hi hs=>by
   obtain⟨k,hk⟩:∃k,a.Knots[i]?=some k:=⟨_,Ab hi⟩;simp only[Eo,Ds hi,Aq,hk,Aa];by_cases h4:k.Kids.length=4
   ·have e1:(ln k.Kids !=4)=false:=by simp[ln,h4]
    simp only[e1,Ae];obtain⟨r,q1,q2⟩:=AC (body:=λs:Int=>EU a (i:Int) k s) (λ(_:Unit) j=>j) 4 (λj _=>∀(m:Nat) n,m<j->k.Kids[m]?=some n->Td a i k n) (λr=>r= .inr (.inr<|.inr false)\/r= .inl ()/\∀n∈k.Kids,Td a i k n)
     (λ_ j hj b=>by
      obtain⟨n,hn⟩:∃n,k.Kids[j]?=some n:=⟨_,Ab<|by omega⟩;simp only[EU];rw[cT,Aq,hn];simp only[Aa]
      have good:Td a i k n->(∃s':Unit,(cond false (some<|.inr<|.inr<|.inr<|.inr false) (some<|.inl<|ad (j:Int) 1):Option (Int⊕Unit⊕Int⊕Unit⊕Bool))=some (.inl ((j+1:Nat):Int))/\∀(m:Nat) n,m<j+1->k.Kids[m]?=some n->Td a i k n):=λc=>by
       refine⟨(),by rw[Ae,ad1],λm n' hm d=>?_⟩
       grind
      cases hl:k.Leaf with
      |true=>
       simp only[Ao,Ak,Ae];by_cases h0:n<0
       ·grind
       rw[Ai h0,Ae];exact .inl<|good<|by grind [Td]
      |false=>
       by_cases h1:n= -1
       ·have:(n != -1)=false:=by simp[h1]
        rw[this];exact .inl<|good (by unfold Td;grind)
       have:(n != -1)=true:=by simp[h1]
       rw[this];rw[BY,Y4];simp only[Aa];by_cases h2:0<=n/\n<=(i:Int)-1
       ·rw[Ac h2];rw[L5 h2.1<|by omega];simp only[Aa]
        cases e:(a.Knots[n.toNat]'(by omega)).Leaf with
        |true=>
         refine .inl<|good ?_
         grind [L5,Td]
        |false=>grind
       grind)
     (λ_ b=>⟨_,by rfl,.inr ⟨rfl,λn hn=>by
      obtain⟨m,hm,rfl⟩:=Au hn
      simp_all;grind⟩⟩) (s:=()) (λm n hm=>by omega)
    have q1':Ah (λs:Int=>EU a (i:Int) k s) 0=some r:=q1;rw[q1']
    rcases q2 with rfl|⟨rfl,q2⟩
    ·grind
    rw[ad1];refine .inl ⟨(),rfl,λj k' hj f=>?_⟩
    grind
   grind [ln])
  (λ_ hs=>⟨_,by simp[CU,Eo],.inr ⟨rfl,λi k hk=>hs i k (Ad.1 hk).1 hk⟩⟩) (s:=()) (λj k hj=>by omega)
 have h1':Ah (λs:Int=>Eo a s) 0=some r:=h1;rw[h1']
 rcases h2 with rfl|⟨rfl,h2⟩
 ·simp
 exact⟨_,rfl,λ_=>h2⟩
theorem tC (a:Arena) (ha:Ls a) (root:Int) (s:Nat) (hs:s<16):∃v,QS a root (s:Int)=some v/\WU a root (s:Int)=some v:=by
 have f:a.Knots.length<=1048576:=ha;obtain⟨ok,h1,h2⟩:=wT a ha;unfold QS WU;rw[Xs,h1,dN];simp only[Aa,Y4];rw[Ac (by omega:(0:Int)<=(s:Int)/\(s:Int)<=15)];simp only[Ak,Ae,Aa];have d:∃b,Gm a root=some b/\HG a root=some (b||root== -1)/\(b=true->0<=root/\∃k,gi a.Knots root=some k/\k.Leaf=false):=by
  unfold Gm HG;rw[dN,BY (by rw[Bb];omega) (by rw[Bb];omega),Bb,Y4]
  grind [L5]
 obtain⟨b,r1,r2,r3⟩:=d;rw[r1,r2];simp only[Aa]
 cases ok with
 |false=>simp
 |true=>
  simp only[Ak,Ae]
  cases b with
  |false=>simp_all [O2];grind
  |true=>
   obtain⟨hr,k,hk,hl⟩:=r3 rfl;simp only[Bool.true_or,Ak,Ae,Aa,O2,V9,hk];rw[cF];obtain⟨g1,g2⟩:=Ct hk;obtain⟨k4,kk⟩:=h2 rfl root.toNat k g2;have eq4:qu (s:Int) 4=((s/4:Nat):Int):=by grind [Pa,qu]
   have em:Int.tmod (s:Int) 4=((s %4:Nat):Int):=rfl;rw[eq4,em,L5 (by omega)<|by omega];simp only[Aa,Cj];have e:k.Kids[s/4]'(by omega)∈k.Kids:=Aw _;have c:=kk _ e;unfold Td at c;rw[B6 (by rw[hl];simp)]at c
   rcases c with c|⟨c1,c2,k',c3,c4⟩
   ·simp_all
   rw[cF,c3];simp only[Aa];obtain⟨g3,g4⟩:=Ct c3;obtain⟨k4',_⟩:=h2 rfl _ k' g4;rw[L5 (by omega)<|by omega];simp
theorem Lw (a:Arena) (ha:Ls a) (root:Int):∃l,HS a root=some l/\PB a root=some l/\l.length=16:=by
 unfold HS PB;obtain⟨l,h1,h2,h3⟩:=La (body:=λs:List Int×Int=>LV a root s.1 s.2) (body':=λs:List Int×Int=>RJ a root s.1 s.2) (λ(o:List Int) i=>(o,i)) (λ(o:List Int) i=>(o,i)) 16 (λi o=>o.length=i) (λo=>o.length=16)
  (λo i hi ho=>by
   obtain⟨v,g1,g2⟩:=tC a ha root i hi
   grind [AZ,ad1,LV,RJ])
  (λo ho=>⟨o,by rfl,by rfl,ho⟩) (s:=[]) rfl
 grind
theorem VW (s:Store) (id:Int) (hs:s.Vols.length<=1048576):∃v:Int,CR s id=some v/\JN s id=some v/\(v<0\/0<=v/\v<s.Vols.length):=by
 have e:JN s id=CR s id:=rfl;rw[e];unfold CR;obtain⟨r,h1,h2⟩:=AC (body:=λq:Int=>Hs s id q) (λ(_:Unit) i=>i) s.Vols.length (λ_ _=>True) (λr=>r= .inl ()\/∃v:Int,r= .inr v/\0<=v/\v<s.Vols.length)
  (λ_ i hi _=>by
   have hg:s.Vols[i]?=some s.Vols[i]:=Ab hi;simp only[Hs,Ds hi,Aq,hg,Aa]
   cases s.Vols[i].Id==id with
   |true=>grind
   |false=>
    rw[ad1]
    simp)
  (λ_ _=>⟨_,by simp[CU,Hs],.inl rfl⟩) (s:=()) trivial
 have h1':Ah (λq:Int=>Hs s id q) 0=some r:=h1;rw[h1']
 rcases h2 with rfl|⟨v,rfl,h2⟩
 ·simp
 grind
theorem wS (s:Store) (hv:s.Vols.length<=1048576) (ha:Ls s.Arena) (id:Int) (k:Nat) (hk:k<16):∃v,LT s id (k:Int)=some v/\Us s id (k:Int)=some v:=by
 unfold LT Us;obtain⟨v,h1,h2,h3⟩:=VW s id hv;rw[h1,h2];simp only[Aa]
 rcases h3 with h3|⟨h3,h4⟩
 ·grind
 simp_all [Ai,L5,tC]
def Tv:Al:=Al.mk 0 0<|Page.mk 0 0 0 0 0<|bs []
def Jm (c:Int) (y:Al):Bool:=y.Page.Kind==1&&y.Page.Tx==c
def Lp (r:List Al) (o:Option Nat):Al:=match o with
 |some j=>r[j]?.getD Tv
 |none=>Tv
def Sg (c:Int) (r:List Al) (n:Nat) (o:Option Nat):Prop:=match o with
 |none=>∀(k:Nat) y,k<n->r[k]?=some y->Jm c y=false
 |some j=>j<n/\(∃y,r[j]?=some y/\Jm c y=true)/\∀(k:Nat) y,j<k->k<n->r[k]?=some y->Jm c y=false
theorem XK {c:Int} {r:List Al} {o o':Option Nat} (h:Sg c r r.length o) (h':Sg c r r.length o'):o=o':=by
 cases o with
 |none=>
  cases o' with
  |none=>rfl
  |some j=>
   obtain⟨h1,⟨y,h2,h3⟩,_⟩:=h';rw[h j y h1 h2]at h3;cases h3
 |some j=>
  obtain⟨h1,⟨y,h2,h3⟩,h4⟩:=h
  cases o' with
  |none=>
   rw[h' j y h1 h2]at h3;cases h3
  |some i=>
   obtain⟨k1,⟨z,k2,k3⟩,k4⟩:=h'
   grind
theorem jF (r:List Al) (hr:r.length<=1048576) (c:Int):∃o,MC r c=some (Lp r o,o.isSome)/\Sg c r r.length o:=by
 unfold MC;rw[BY (by rw[Bb];omega) (by rw[Bb];omega),Bb];obtain⟨b,h1,h2⟩:=AC (body:=λs:Int=>Ig r c s) (λ(_:Unit) i=>(r.length:Int)-1-i) r.length (λi _=>∀(k:Nat) y,r.length-i<=k->k<r.length->r[k]?=some y->Jm c y=false) (λb=>(b= .inl ()/\Sg c r r.length none)\/∃j,b= .inr (Lp r<|some j,true)/\Sg c r r.length (some j))
  (λ_ i hi hs=>by
   have e1:((r.length:Int)-1-(i:Int))=((r.length-1-i:Nat):Int):=by omega
   have a:r.length-1-i<r.length:=by omega
   have hg:r[r.length-1-i]?=some r[r.length-1-i]:=Ab a;simp only[Ig,e1];rw[cT];simp only[Aq,hg,Aa]
   have next:Jm c r[r.length-1-i]=false->∃s':Unit,(some (.inl<|sb ((r.length-1-i:Nat):Int) 1):Option (Int⊕Unit⊕(Al×Bool)))=some (.inl<|(r.length:Int)-1-((i+1:Nat):Int))/\∀(k:Nat) y,r.length-(i+1)<=k->k<r.length->r[k]?=some y->Jm c y=false:=λd=>by
    refine⟨(),by grind [BY],λk y h1 h2 h3=>?_⟩
    grind
   cases hk:r[r.length-1-i].Page.Kind==1 with
   |false=>
    exact .inl<|next (by grind [Jm])
   |true=>
    simp only[Ao,Aa]
    cases ht:r[r.length-1-i].Page.Tx==c with
    |false=>
     exact .inl<|next (by unfold Jm;grind)
    |true=>
     refine .inr ⟨_,rfl,.inr ⟨r.length-1-i,?_,a,⟨_,hg,by grind [Jm]⟩,λk y h1 h2 h3=>hs k y (by omega) h2 h3⟩⟩
     grind [Lp])
  (λ_ hs=>⟨_,by grind [Ig],.inl ⟨rfl,λk y h1 h2=>hs k y (by omega) h1 h2⟩⟩) (s:=()) (λk y h1 h2=>by omega)
 have e0:((r.length:Int)-1-0)=(r.length:Int)-1:=by omega
 rw[e0]at h1;rw[h1]
 rcases h2 with⟨rfl,h2⟩|⟨j,rfl,h2⟩
 ·exact⟨none,rfl,h2⟩
 grind
theorem ADl {r:List Al} {x:Al} (h:srt Bu r) (a:j<i) (hx:r[j]?=some x) (hy:r[i]?=some y):x.Page.Seq<=y.Page.Seq:=by
 unfold srt at h;obtain⟨h1,h2⟩:=Ad.1 hx;obtain⟨h3,h4⟩:=Ad.1 hy;rw[<-h2,<-h4];exact Cr.1 h j i h1 h3 a
theorem XV (f:Flash) (r:List Al) (d:FQ f=some r) (hr:r.length<=1048576) (g:srt Bu r) (c:Int):∃o,Ti f c=some (Lp r o,o.isSome)/\Sg c r r.length o:=by
 unfold Ti;rw[d];simp only[Aa];obtain⟨b,h1,o,rfl,h2⟩:=AC (body:=λs:Bool×Int×Int×Int×Int×Int×Int×Int×Int×ByteArray=>Kx c r s.1 s.2.1 s.2.2.1 s.2.2.2.1 s.2.2.2.2.1 s.2.2.2.2.2.1 s.2.2.2.2.2.2.1 s.2.2.2.2.2.2.2.1 s.2.2.2.2.2.2.2.2.1 s.2.2.2.2.2.2.2.2.2)
  (λ(o:Option Nat) i=>(o.isSome,i,(Lp r o).Block,(Lp r o).Leaf,(Lp r o).Page.Kind,(Lp r o).Page.Seq,(Lp r o).Page.Tx,(Lp r o).Page.Part,(Lp r o).Page.Count,(Lp r o).Page.Text)) r.length (λi o=>Sg c r i o)
  (λb=>∃o,b=(o.isSome,(Lp r o).Block,(Lp r o).Leaf,(Lp r o).Page.Kind,(Lp r o).Page.Seq,(Lp r o).Page.Tx,(Lp r o).Page.Part,(Lp r o).Page.Count,(Lp r o).Page.Text)/\Sg c r r.length o)
  (λo i hi ho=>by
   have hg:r[i]?=some r[i]:=Ab hi;refine .inl ?_;simp only[Kx,Ds hi,Aq,hg,Aa]
   have keep:Jm c r[i]=false->Sg c r (i+1) o:=λm=>by
    cases o with
    |none=>
     intro k y h1 h2;by_cases e:k=i
     ·grind
     exact ho k y (by omega) h2
    |some j=>
     obtain⟨h1,h2,h3⟩:=ho;refine⟨by omega,h2,λk y h4 h5 h6=>?_⟩
     grind
   cases hk:r[i].Page.Kind==1 with
   |false=>
    rw[ad1];exact⟨o,rfl,keep (by unfold Jm;rw[hk];rfl)⟩
   |true=>
    cases ht:r[i].Page.Tx==c with
    |false=>
     rw[ad1];exact⟨o,rfl,keep (by unfold Jm;grind)⟩
    |true=>
     have a:Jm c r[i]=true:=by unfold Jm;rw[hk,ht];rfl
     have l:Sg c r (i+1) (some i):=⟨by omega,⟨_,hg,a⟩,λk y h1 h2=>by omega⟩;have n:Lp r (some i)=r[i]:=by simp only[Lp,hg,D4]
     cases o with
     |none=>
      rw[ad1]
      grind
     |some j=>
      obtain⟨h1,⟨y,h2,h3⟩,_⟩:=ho;have h:Lp r (some j)=y:=by simp only[Lp,h2,D4]
      have p:=ADl g h1 h2 hg;simp only[Option.isSome_some,Ak,Ae,Aa,h];rw[Ac (by omega:r[i].Page.Seq>=y.Page.Seq)];rw[ad1]
      grind)
  (λo ho=>⟨_,by simp only[Kx,CU],o,rfl,ho⟩) (s:=none) (λk y h1=>by omega)
 have h1':Ah (λs:Bool×Int×Int×Int×Int×Int×Int×Int×Int×ByteArray=>Kx c r s.1 s.2.1 s.2.2.1 s.2.2.2.1 s.2.2.2.2.1 s.2.2.2.2.2.1 s.2.2.2.2.2.2.1 s.2.2.2.2.2.2.2.1 s.2.2.2.2.2.2.2.2.1 s.2.2.2.2.2.2.2.2.2) (false,0,0,0,0,0,0,0,0,bs [])=_:=h1;rw[h1'];exact⟨o,rfl,h2⟩
theorem qM (hT:∀b∈f.Blocks,∀x∈b.Leaves,(L x.Text).length<=1048576) (h:Te f y):(L y.Page.Text).length<=90:=by
 obtain⟨b,x,h1,h2,_,h3⟩:=h;obtain⟨_,g1⟩:=Ct h1;obtain⟨_,g2⟩:=Ct h2;obtain⟨p,ok,k1,_,_,k2⟩:=IG x.Text (by grind);rw[h3]at k1
 injection k1 with k1
 injection k1 with k1 k3
 have hp:=k2 k3.symm;obtain⟨v,q1,_,q2⟩:=UE p
 grind [Bv]
structure gL (f:Flash) (r:List Al):Prop where
 s:E9 f=some r
 i:FQ f=some r
 len:r.length<=1048576
 page:∀y∈r,Te f y
 text:∀y∈r,(L y.Page.Text).length<=90
 srt:srt Bu r
theorem ZP (f:Flash) (hz:L8 f<=1048576):∃r,gL f r:=by
 obtain⟨hf,hT⟩:=AD9 f hz;have hn:nl f.Blocks<=1048576:=JE (AF9 f) hz;obtain⟨r,h1,h2,h3,h4,h5⟩:=eC f hf hT hn;exact⟨r,h1,h2,by omega,h4,λy hy=>qM hT<|h4 y hy,h5⟩
theorem Sb {r:List Al} (h:gL f r) (c:Int):∃u ok,Ki r c=some (u,ok)/\K4 f c=some (u,ok):=by
 obtain⟨o,h1,h2⟩:=jF r h.len c;obtain⟨o',h3,h4⟩:=XV f r h.i h.len h.srt c;obtain rfl:=XK h2 h4;unfold Ki K4;rw[h1,h3]
 cases o with
 |none=>simp
 |some j=>
  obtain⟨_,⟨y,k1,_⟩,_⟩:=h2;have a:Lp r (some j)=y:=by grind [Lp]
  obtain⟨u,ok,p1,p2,_⟩:=Ve y.Page.Text (by have:=h.text y<|Aj k1;omega)
  grind
end Go.TI
