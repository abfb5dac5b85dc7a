/- A drawn device whose volumes are dropped has room again. No condition; no program is in sight. -/
import Derived.Test.YtacibgiakaoomaaGreatRAD
set_option linter.unusedVariables false
set_option linter.unusedSimpArgs false
namespace Go.TI
open Go
def u32 (s:Int):Prop:=0<=s/\s<4294967296
theorem qL (s:Int) (hs:u32 s):∃v,Ai (λs:Int×Int=>Iq s.1 s.2) (s,0)=some v/\Ai (λs:Int×Int=>Ix s.1 s.2) (s,0)=some v/\u32 v:=
 HQ (body:=λs:Int×Int=>Iq s.1 s.2) (body':=λs:Int×Int=>Ix s.1 s.2) (λ(s:Int) i=>(s,i)) 8 (λ_ s=>u32 s) u32
  (λs i hi hs=>by grind [an1,ADp,ad1,ABW,Iq,Ix,u32])
  (λs hs=>by grind [Iq,Ix]) (s:=s) hs
theorem qK (s:Int) (t:ByteArray) (hs:u32 s) (ht:(L t).length<=9223372036854775806):∃v,RX s t=some v/\Sk s t=some v/\u32 v:=by
 obtain⟨v,h1,h2,h3⟩:=HQ (body:=λs:Int×Int=>JU t s.1 s.2) (body':=λs:Int×Int=>Kn t s.1 s.2) (λ(s:Int) i=>(s,i)) (L t).length (λ_ s=>u32 s) u32
  (λs i hi hs=>by
   obtain⟨v,h1,h2,h3⟩:=qL (xr s<|IntKind.u32.wrap ((L t)[i]).toNat)<|ABW _ _
   grind [E8,ad1,JU,Kn])
  (λs hs=>by grind [Bo,JU,Kn]) (s:=s) hs
 unfold RX Sk
 grind
theorem m8 (t:ByteArray) (ht:(L t).length<=9223372036854775806):∃v,NI t=some v/\X5 t=some v/\u32 v:=by
 obtain⟨v,h1,h2,h3⟩:=qK 4294967295 t ⟨by omega,by omega⟩ ht;unfold NI X5
 grind
def four (v:Int):ByteArray:=EZ [IntKind.u8.wrap<|Int.fdiv v<|2^(min (24:Int).toNat IntKind.u32.bits),IntKind.u8.wrap<|Int.fdiv v<|2^(min (16:Int).toNat IntKind.u32.bits),IntKind.u8.wrap<|Int.fdiv v<|2^(min (8:Int).toNat IntKind.u32.bits),IntKind.u8.wrap v]
theorem Zl (v:Int):(L (four v)).length=4:=by rfl
theorem eO (t:ByteArray):HZ t=JW t:=by
 unfold HZ JW;by_cases h:(GA t)>20000
 ·grind
 rw[Bo]at h;obtain⟨v,h1,h2,_⟩:=m8 t (by omega);rw[h1,h2];rfl
theorem S3 (t:ByteArray):(20000<(L t).length->JW t=some (bs [],false))/\((L t).length<=20000->∃v,NI t=some v/\JW t=some (t++four v,true)):=by grind [Bo,m8,G0,Zl,JW,KO,four]
theorem mZ (t:ByteArray) (ht:(L t).length<=9223372036854775806):∃u ok,KP t=some (u,ok)/\PF t=some (u,ok)/\(ok=true->(L u).length<=20000/\∃v,NI u=some v/\t=u++four v)/\(ok=false->u=bs []):=by
 unfold KP PF;have e4:sb (GA t) 4=((L t).length:Int)-4:=by rw[Bo,BL]
 rw[e4];by_cases h4:(L t).length<4
 ·simp_all [Bo];grind
 rw[Ah (by omega:¬((L t).length:Int)-4<0),Ah (by rw[Bo];omega:¬GA t<4)];have en:((L t).length:Int)-4=(((L t).length-4:Nat):Int):=by omega
 rw[en,Bo];have b:sub t 0 (((L t).length-4:Nat):Int)=some (t.extract 0<|(L t).length-4):=Gf t (i:=0) (by omega) (by omega);have a:sub t (((L t).length-4:Nat):Int) ((L t).length:Int)=some (t.extract ((L t).length-4) (L t).length):=Gf t (by omega) (by omega);rw[b,a];simp only[Aa];have hu:(L<|t.extract 0<|(L t).length-4).length=(L t).length-4:=by rw[K1];simp
 obtain⟨k1,k2⟩:=S3<|t.extract 0<|(L t).length-4;rw[eO];by_cases hb:20000<(L t).length-4
 ·grind
 obtain⟨v,h1,h2⟩:=k2 (by omega);rw[Ah (by omega:¬(((L t).length-4:Nat):Int)>20000),h1,h2];have h3:KO v=some (four v):=rfl;simp only[Ad,Aa,h3,An];have c:seq (t.extract ((L t).length-4) (L t).length) (four v)=seq (t.extract 0 ((L t).length-4)++four v) t:=by
  rw[Qu,Qu,GN,K1,K1,Bool.eq_iff_iff,AZ,AZ];have e1:List.take ((L t).length-((L t).length-4)) (List.drop ((L t).length-4)<|L t)=(L t).drop ((L t).length-4):=AQ (by simp);have e2:List.take ((L t).length-4-0) (List.drop 0<|L t)=(L t).take ((L t).length-4):=by simp
  rw[e1,e2];constructor
  ·grind [Cs]
  grind
 grind [KJ]
theorem It (n:Nat) (h:n<=1099511627776):∃s,Ha (n:Int)=some s/\L s=BV n:=by
 unfold Ha;obtain⟨m,o,h1,h2,h3,h4⟩:=eC (body:=λs:Int×List Int=>NH s.1 s.2) (λ_ _=>rfl) n [] (by simpa using h);rw[h1,Aa];have:IntKind.u8.wrap (m:Int)=m:=by rw[IntKind.wrap_u8];omega
 rw[this,Bw (by grind),Aa]
 grind [N2]
def AB3 (t:ByteArray) (at_:Int) (r:Int×Int×Bool):Prop:=(r.2.2=false/\r.1=0/\r.2.1=0)\/(r.2.2=true/\∃(a b n:Nat),at_=a/\r.2.1=b/\r.1=n/\a<b/\b<=(L t).length/\n<=1000000000/\BV n=((L t).drop a).take (b-a))
theorem XU (l:List UInt8) (a k:Nat) (h:a+k<l.length):(l.drop a).take (k+1)=(l.drop a).take k++ [l[a+k]]:=by grind [Af]
theorem f0 (k:Nat) (h:k<5):(128:Nat)^k<=268435456:=by
 have:k<=4:=by omega
 calc 128^k<=128^4:=Nat.pow_le_pow_right (by omega) this
  _=268435456:=by decide
theorem Xn:∀ds:List UInt8,F8 ds<128^ds.length
 |[]=>by simp[F8]
 |d::ds=>by
  have:=Xn ds
  grind [F8]
theorem AAU (x k:Nat) (hx:x<128) (hk:k<5):shl .i64 (x:Int) (ml 7 (k:Int))=some ((x*128^k:Nat):Int):=by
 have h7:ml 7 (k:Int)=((7*k:Nat):Int):=by grind [OI]
 unfold shl;rw[h7,Bi<|by omega];have e:(2:Int)^(min ((7*k:Nat):Int).toNat IntKind.i64.bits)=((128^k:Nat):Int):=by
  have hb:IntKind.i64.bits=64:=rfl;have h128:(128:Nat)^k=2^(7*k):=by rw[Nat.pow_mul]
  grind
 rw[e];have hp:=f0 k hk;have hm:x*128^k<=128*268435456:=bM (by omega) hp
 grind [O0]
theorem rD (x:Nat):Int.tmod (x:Int) 128=((x %128:Nat):Int):=rfl
theorem Ii (t:ByteArray) (at_:Int) (ht:(L t).length<=4611686018427387904) (v:oI at_):∃r,J0 t at_=some r/\JF t at_=some r/\AB3 t at_ r:=by
 have fails:∀(at_:Int),(at_<0\/((L t).length:Int)<=at_)->oI at_->JF t at_=some (0,0,false):=by grind [Ax,Bo,BL,JF,GX]
 by_cases w:0<=at_/\at_<(L t).length
 ·obtain⟨a,rfl⟩:=BW w.1;have y:∀(B1:Int×Int×Int->Option ((Int×Int×Int)⊕Unit⊕(Int×Int×Bool))) (B2:Int×Int->Option ((Int×Int)⊕Unit⊕(Int×Int×Bool))),(∀n sc i,B1 (n,sc,i)=Dq t (a:Int) n sc i)->(∀n k,B2 (n,k)=GX t (a:Int) n k)->∀(m k:Nat),k+m=5->a+k<=(L t).length->(∀d∈((L t).drop a).take k,128<=d.toNat)->
    ∃r,(Ai B1 (((F8 (((L t).drop a).take k):Nat):Int),((128^k:Nat):Int),((a+k:Nat):Int))=some r/\Ai B2 (((F8 (((L t).drop a).take k):Nat):Int),(k:Int))=some r)/\(r= .inl ()\/∃q,r= .inr q/\AB3 t (a:Int) q):=by
   intro B1 B2 z h0 m
   induction m with
   |zero=>grind [Ax,BZ,Dq,GX]
   |succ m ih=>
    intro k hk h9 hd;rw[Ax,Ax B2];simp only[z,h0,Dq,GX];have j:k<5:=by omega
    rw[BZ (b:=5) (by omega) (by omega),Ac (by omega:((a+k:Nat):Int)<(a:Int)+5),Ac (by omega:(k:Int)<5),Ac (by omega:(a:Int)>=0),Bo,BL];by_cases l:a+k<(L t).length
    ·rw[Ac (by omega:((a+k:Nat):Int)<((L t).length:Int)),Ac (by omega:(a:Int)<((L t).length:Int)-k)];have eak:ad (a:Int) (k:Int)=((a+k:Nat):Int):=by rw[BZ];omega
     simp only[Al,Aa,E8 t l,eak];have hx:=jE<|(L t)[a+k];have f:=XU (L t) a k l;have o:(((L t).drop a).take k).length=k:=by simp;omega
     have g:=NA (((L t).drop a).take k) [(L t)[a+k]];rw[<-f,o]at g;have h4:=Xn<|((L t).drop a).take k;rw[o]at h4;have hp:=f0 k j;generalize a0:(L t)[a+k]=x at hx f g;simp only[F8,Nat.mul_zero,qQ]at g;have hw:IntKind.i64.wrap (x.toNat:Int)=x.toNat:=O0 (by omega) (by omega);have h7:x.toNat %128*128^k<=127*268435456:=bM (by omega) hp;have emul:ml ((x.toNat %128:Nat):Int) ((128^k:Nat):Int)=((x.toNat %128*128^k:Nat):Int):=by grind [OI]
     have enew:ad (((F8 (((L t).drop a).take k):Nat)):Int) ((x.toNat %128*128^k:Nat):Int)=((F8 (((L t).drop a).take<|k+1):Nat):Int):=by grind [BZ]
     rw[hw,rD,AAU _ k (by omega) j];simp only[Aa,emul,enew];by_cases h:x.toNat<128
     ·rw[Ac (by omega:(x.toNat:Int)<128),Ah (by omega:¬(x.toNat:Int)>=128)];have ek1:ad ((a+k:Nat):Int) 1=((a+k+1:Nat):Int):=ad1 (by omega);have c:=eB (((L t).drop a).take k) x hd h;rw[<-f]at c;have h5:(((L t).drop a).take k≠ [])↔0<k:=by grind
      rw[h5]at c;have p:sub t (a:Int) ((a+k+1:Nat):Int)=some (t.extract a<|a+k+1):=Gf t (by omega) (by omega);rw[ek1,p];by_cases h8:F8 (((L t).drop a).take<|k+1)>1000000000
      ·rw[Ac (by omega:((F8 (((L t).drop a).take<|k+1):Nat):Int)>1000000000)];refine⟨.inr (0,0,false),⟨rfl,?_⟩,.inr ⟨_,rfl,.inl ⟨rfl,rfl,rfl⟩⟩⟩
       grind
      rw[Ah (by omega:¬((F8 (((L t).drop a).take<|k+1):Nat):Int)>1000000000)];obtain⟨s,h6,a1⟩:=It (F8<|((L t).drop a).take<|k+1) (by omega);simp only[Ad,Aa,h6];have u:seq s (t.extract a<|a+k+1)=decide (¬(x.toNat=0/\0<k)):=by grind [Qu,K1]
      rw[u];by_cases hz:x.toNat=0/\0<k
      ·rw[Ah λe=>e hz];refine⟨.inr (0,0,false),⟨rfl,?_⟩,.inr ⟨_,rfl,.inl ⟨rfl,rfl,rfl⟩⟩⟩
       grind
      rw[Ac hz];refine⟨.inr (((F8 (((L t).drop a).take<|k+1):Nat):Int),((a+k+1:Nat):Int),true),⟨rfl,?_⟩,.inr ⟨_,rfl,.inr ⟨rfl,a,a+k+1,_,rfl,rfl,rfl,by omega,by omega,by omega,?_⟩⟩⟩
      ·grind
      grind
     rw[Ah (by omega:¬(x.toNat:Int)<128),Ac (by omega:(x.toNat:Int)>=128)];have e1:ml ((128^k:Nat):Int) 128=((128^(k+1):Nat):Int):=by grind [OI]
     have e2:ad ((a+k:Nat):Int) 1=((a+(k+1):Nat):Int):=ad1 (by omega);have e3:ad (k:Int) 1=((k+1:Nat):Int):=ad1 (by omega);rw[e1,e2,e3];exact ih (k+1) (by omega) (by omega)<|by grind
    grind
  obtain⟨r,⟨h1,h2⟩,h3⟩:=y (λs=>Dq t (a:Int) s.1 s.2.1 s.2.2) (λs=>GX t (a:Int) s.1 s.2) (λ_ _ _=>rfl) (λ_ _=>rfl) 5 0 rfl (by omega) (by simp);unfold J0 JF;have hw:BB (a:Int) 0 (GA t)=some true:=by grind [Bo,BB]
  rw[hw];simp only[bN,F8,Nat.pow_zero,qQ]at h1 h2;rw[show((0:Nat):Int)=0 from rfl,show((1:Nat):Int)=1 from rfl]at h1;rw[show((0:Nat):Int)=0 from rfl]at h2;rw[h1,h2]
  rcases h3 with rfl|⟨q,rfl,h3⟩
  ·exact⟨_,rfl,rfl,.inl ⟨rfl,rfl,rfl⟩⟩
  grind
 have hf:=fails at_ (by omega) v;refine⟨(0,0,false),?_,hf,.inl ⟨rfl,rfl,rfl⟩⟩;unfold J0
 grind [Bo,Ax,BB,Dq]
theorem Zt:Gd=BB:=rfl
variable {r n x:Int} {R:List Int} {i j k:Nat} {s:Store} {α γ:Type} {v:Vol} {p:Nat->Bool} {y:Ak} {f:Flash} {l:List α}
theorem C0 {i:Int} {x:α} (h:gi l i=some x):0<=i/\l[i.toNat]?=some x:=by grind [gi]
theorem Qe:MN=Fv:=by
 have h2:MA=Ec:=by
  funext x y;unfold MA Ec
  cases decide (y<ln x.Leaves)with
  |false=>rfl
  |true=>
   cases gi x.Leaves y with
   |none=>rfl
   |some z=>rfl
 funext f;unfold MN Fv;have:MB f=Ed f:=by
  funext i;unfold MB Ed;rw[h2];rfl
 rw[this];rfl
def Jo (f:Flash):Prop:=f.Blocks.length<=1048576/\∀b∈f.Blocks,b.Leaves.length<=1048576
theorem Qx (x a b:Int):BB x a b=some (decide (a<=x)&&decide (x<=b)):=by
 unfold BB
 grind
theorem ABk (x:Leaf):∃v,MH x=some v:=by
 unfold MH;cases x.Is==0
 ·cases x.Is==1
  ·cases x.Is==2<;>exact⟨_,rfl⟩
  simp[Qx]
 exact⟨_,rfl⟩
theorem TF (f:Flash) (h:Jo f):∃v,Fv f=some v/\(v=true->f.Blocks.length<=10/\∀b∈f.Blocks,b.Leaves.length=4):=by
 have a:=AA (body:=λs:Int=>Ed f s) (λ(_:Unit) i=>i) f.Blocks.length (λi _=>∀j b,j<i->f.Blocks[j]?=some b->b.Leaves.length=4) (λr=>r= .inr false\/r= .inl ()/\∀b∈f.Blocks,b.Leaves.length=4)
  (λs i hi hs=>by
   obtain⟨x,hx⟩:∃x,f.Blocks[i]?=some x:=⟨_,Ab hi⟩;have hM:=h.1;simp only[Ed,DL hi,Ap,hx,Aa,Qx];by_cases h4:x.Leaves.length=4
   ·have e1:(ln x.Leaves !=4)=false:=by simp[ln,h4]
    simp only[e1,Ad,Aa]
    cases hw:(decide (0<=x.Wear)&&decide (x.Wear<=1000000000))with
    |false=>grind
    |true=>
     simp only[An,Ad];obtain⟨r,h5,h6⟩:=AA (body:=λs:Int=>Ec x s) (λ(_:Unit) i=>i) x.Leaves.length (λ_ _=>True) (λr=>r= .inl ()\/r= .inr (.inr<|.inr false))
      (λs k hk _=>by
       obtain⟨y,hy⟩:∃y,x.Leaves[k]?=some y:=⟨_,Ab hk⟩;obtain⟨v,hv⟩:=ABk y;simp only[Ec,DL hk,Ap,hy,Aa,hv];have fin:∀j:Bool,(∃s':Unit,(bif j then some (.inr<|.inr<|.inr<|.inr false)else some (.inl<|ad (k:Int) 1):Option (Int⊕Unit⊕Int⊕Unit⊕Bool))=some (.inl (((k+1:Nat)):Int))/\True)\/∃b,(bif j then some (.inr<|.inr<|.inr<|.inr false)else some (.inl<|ad (k:Int) 1):Option (Int⊕Unit⊕Int⊕Unit⊕Bool))=some (.inr b)/\(b= .inl ()\/b= .inr (.inr<|.inr false)):=by
        intro j
        cases j with
        |true=>grind
        |false=>exact .inl ⟨(),by rw[Ad,ad1],trivial⟩
       cases v with
       |false=>exact fin true
       |true=>
        by_cases c:0<k
        ·rw[cT,BL,K9 (by omega) (by omega),Aa];cases(x.Leaves[((k:Int)-1).toNat]'(by omega)).Is==0
         ·exact fin false
         exact fin<|y.Is !=0
        simp_all)
      (λs _=>⟨_,by grind [Ec],.inl rfl⟩) (s:=()) trivial
     rw[h5,Aa]
     rcases h6 with rfl|rfl
     ·refine .inl ⟨(),by rw[Df,ad1],?_⟩
      grind
     grind
   grind [ln])
  (λs hs=>⟨_,by simp[Dx,Ed],.inr ⟨rfl,λb hb=>by
   obtain⟨j,hj,e⟩:=Au hb
   exact hs j b hj<|by grind⟩⟩) (s:=()) (λj b hj=>absurd hj<|by omega)
 obtain⟨r,h1,h2⟩:=a;unfold Fv;rw[h1,Aa]
 rcases h2 with rfl|⟨rfl,h2⟩
 ·simp
 simp_all [Qx,Bh];grind
theorem S5 (p:Page):∃v,JZ p=some v/\R2 p=some v/\(v=true->(p.Kind=1\/p.Kind=2)/\(1<=p.Seq/\p.Seq<=1000000000)/\(1<=p.Tx/\p.Tx<=1000000000)/\(1<=p.Count/\p.Count<=9)/\(0<=p.Part/\p.Part<p.Count)/\GA p.Text<=90):=by
 unfold JZ R2;rw[Zt];simp only[Qx,Aa];by_cases h1:1<=p.Seq/\p.Seq<=1000000000
 ·by_cases h2:1<=p.Tx/\p.Tx<=1000000000
  ·by_cases h3:1<=p.Count/\p.Count<=9
   ·have e:sb p.Count 1=p.Count-1:=BL (by omega) (by omega);rw[e];by_cases h4:0<=p.Part/\p.Part<=p.Count-1
    ·by_cases h5:GA p.Text>90
     ·simp_all
     by_cases k2:p.Kind=2
     ·exact⟨true,by grind,by grind,λ_=>⟨.inr k2,h1,h2,h3,⟨h4.1,by omega⟩,by omega⟩⟩
     by_cases k1:p.Kind=1
     ·exact⟨p.Count==1,by grind,by grind,λ_=>⟨.inl k1,h1,h2,h3,⟨h4.1,by omega⟩,by omega⟩⟩
     have hk:(decide (1<=p.Kind)&&decide (p.Kind<=2))=false:=by grind
     exact⟨false,by simp[hk],by grind,by simp⟩
    refine⟨false,?_,?_,by simp⟩
    ·grind
    grind
   have e3:(decide (1<=p.Count)&&decide (p.Count<=9))=false:=by grind
   refine⟨false,?_,?_,by simp⟩
   ·grind
   grind
  have e2:(decide (1<=p.Tx)&&decide (p.Tx<=1000000000))=false:=by grind
  refine⟨false,?_,?_,by simp⟩
  ·grind
  simp[h1,e2]
 have e1:(decide (1<=p.Seq)&&decide (p.Seq<=1000000000))=false:=by grind
 refine⟨false,?_,?_,by simp⟩
 ·grind
 simp[e1]
def dH:Page:=Page.mk 0 0 0 0 0<|bs []
theorem HR (u:ByteArray) (a:Int) (hu:(L u).length<=20000) (ha:oI a):CY (E4.mk u a true)=some (0,E4.mk u a true):=by grind [Ii,CY]
theorem JC {r:Int×Int×Bool} (u:ByteArray) (a:Int) (hu:(L u).length<=20000) (h:J0 u a=some r):CY (E4.mk u a false)=some (cond r.2.2 (r.1,E4.mk u r.2.1 false) (0,E4.mk u a true)):=by
 unfold CY
 grind
theorem pT {a b:Nat} (l:List UInt8) (h:a<=b):l.drop a=(l.drop a).take (b-a)++l.drop b:=by
 have:=(Cs (b-a)<|l.drop a).symm;rw[Er,show a+(b-a)=b by omega]at this;exact this
theorem WU (p:Page) (u:ByteArray) (k:UInt8) (n1 n2 n3 n4:Nat) (hp:JZ p=some true) (hk:p.Kind=(k.toNat:Int)) (h1:p.Seq=n1) (h2:p.Tx=n2) (h3:p.Part=n3) (h4:p.Count=n4) (b1:n1<=1000000000) (b2:n2<=1000000000) (b3:n3<=1000000000) (b4:n4<=1000000000) (hu:(L u).length<=20000) (e:L u=[k]++BV n1++BV n2++BV n3++BV n4++L p.Text):DU p=JW u:=by
 obtain⟨s1,q1,r1⟩:=It n1 (by omega);obtain⟨s2,q2,r2⟩:=It n2 (by omega);obtain⟨s3,q3,r3⟩:=It n3 (by omega);obtain⟨s4,q4,r4⟩:=It n4 (by omega);have hl:=Ct List.length e;have hb:Jw p.Kind=some (EZ [IntKind.u8.wrap p.Kind]):=rfl;have a:L (EZ [IntKind.u8.wrap p.Kind])=[k]:=by grind [N2,IntKind.wrap_u8,jE,UInt8.ofNat_toNat]
 unfold DU;rw[hp];simp only[Aa,An,Ad,hb,h1,h2,h3,h4,q1,q2,q3,q4];rw[G0 _ _ (by grind),Aa,G0 _ _ (by grind [GN]),Aa,G0 _ _ (by grind [GN]),Aa,G0 _ _ (by grind [GN]),Aa,G0 _ _ (by grind [GN]),Aa];have:EZ [IntKind.u8.wrap p.Kind]++s1++s2++s3++s4++p.Text=u:=by grind [JJ,GN]
 rw[this]
 cases JW u with
 |none=>rfl
 |some v=>rfl
theorem Ij (t:ByteArray) (ht:(L t).length<=9223372036854775806):∃p ok,EP t=some (p,ok)/\PM t=some (p,ok)/\(ok=false->p=dH)/\(ok=true->JZ p=some true):=by
 obtain⟨u,uok,j,k,m,n⟩:=mZ t ht;unfold EP PM;rw[j,k];simp only[Aa];have o1:oI 1:=⟨by omega,by omega⟩
 cases uok with
 |false=>
  have:=n rfl;subst this;have hz:(L<|bs []).length<=20000:=by rw[DH];simp
  exact⟨dH,false,rfl,rfl,λ_=>rfl,by simp⟩
 |true=>
  obtain⟨e,v,hv,q⟩:=m rfl;simp only[An,Ad,Aa];by_cases he:(L u).length<1
  ·have g:seq u (bs [])=true:=by grind [Qu,DH]
   simp_all [Bo,HR,dH]
  have g:seq u (bs [])=false:=by grind [Qu,DH]
  rw[Ah (by rw[Bo];omega:¬GA u<1),g];simp only[Ad];have four_:∀(B:Int×Int×Int×Int×Int×Int->Option ((Int×Int×Int×Int×Int×Int)⊕(Int×Int×Int×Int×Int)⊕(Page×Bool))),(∀x y a b c d,B (x,y,a,b,c,d)=Ei (u,true) x y a b c d)->
    ∃(a:Int) (m1 m2 m3 m4:Int) (bad:Bool),(∃c1 c2 c3,CY (E4.mk u 1 false)=some (m1,c1)/\CY c1=some (m2,c2)/\CY c2=some (m3,c3)/\CY c3=some (m4,E4.mk u a bad))/\
     Ai B (1,0,0,0,0,0)=some (bif bad then .inr (dH,false)else .inl (a,m1,m2,m3,m4))/\(bad=false->∃(a1 a2 a3 a4 n1 n2 n3 n4:Nat),m1=n1/\m2=n2/\m3=n3/\m4=n4/\a=a4/\1<a1/\a1<a2/\a2<a3/\a3<a4/\a4<=(L u).length/\n1<=1000000000/\n2<=1000000000/\n3<=1000000000/\n4<=1000000000/\
      BV n1=((L u).drop 1).take (a1-1)/\BV n2=((L u).drop a1).take (a2-a1)/\BV n3=((L u).drop a2).take (a3-a2)/\BV n4=((L u).drop a3).take (a4-a3)):=by
   intro B hB;obtain⟨r1,p1,q1,w1⟩:=Ii u 1 (by omega) o1;have g1:=JC u 1 e p1;rw[Ax,hB];unfold Ei;rw[cT,q1,Aa]
   rcases w1 with⟨w1,w2,w3⟩|⟨w1,a0',a1,n1,z0,z1,z2,z3,z4,z5,z6⟩
   ·rw[w1]at g1⊢;exact⟨1,0,0,0,0,true,⟨_,_,_,g1,HR u 1 e o1,HR u 1 e o1,HR u 1 e o1⟩,rfl,by simp⟩
   have ea0:a0'=1:=by omega
   subst ea0;rw[w1]at g1⊢;have x1:oI r1.2.1:=⟨by omega,by omega⟩;simp only[An,Ad,Al]at g1⊢;rw[show((0:Int)==0)=true from rfl,Al,show ad 0 1=1 from ad1 (i:=0)<|by omega];simp only;obtain⟨r2,p2,q2,y1⟩:=Ii u r1.2.1 (by omega) x1;have g2:=JC u r1.2.1 e p2;rw[Ax,hB];unfold Ei;rw[cT,q2,Aa]
   rcases y1 with⟨y1,_,_⟩|⟨y1,b0,a2,n2,y2,y3,y4,y5,y6,y7,y8⟩
   ·rw[y1]at g2⊢;exact⟨r1.2.1,r1.1,0,0,0,true,⟨_,_,_,g1,g2,HR u _ e x1,HR u _ e x1⟩,rfl,by simp⟩
   have eb:b0=a1:=by omega
   subst eb;rw[y1]at g2⊢;have x2:oI r2.2.1:=⟨by omega,by omega⟩;simp only[An,Ad,Al]at g2⊢;rw[show((1:Int)==0)=false from rfl,Ad,show((1:Int)==1)=true from rfl,Al,show ad 1 1=2 from ad1 (i:=1)<|by omega];simp only;obtain⟨r3,p3,q3,k1⟩:=Ii u r2.2.1 (by omega) x2;have g3:=JC u r2.2.1 e p3;rw[Ax,hB];unfold Ei;rw[cT,q3,Aa]
   rcases k1 with⟨k1,_,_⟩|⟨k1,c0,a3,n3,k2,k3,k4,k5,k6,k7,k8⟩
   ·rw[k1]at g3⊢;exact⟨r2.2.1,r1.1,r2.1,0,0,true,⟨_,_,_,g1,g2,g3,HR u _ e x2⟩,rfl,by simp⟩
   have ec:c0=a2:=by omega
   subst ec;rw[k1]at g3⊢;have x3:oI r3.2.1:=⟨by omega,by omega⟩;simp only[An,Ad,Al]at g3⊢;rw[show((2:Int)==0)=false from rfl,Ad,show((2:Int)==1)=false from rfl,Ad,show((2:Int)==2)=true from rfl,Al,show ad 2 1=3 from ad1 (i:=2)<|by omega];simp only;obtain⟨r4,p4,q4,l1⟩:=Ii u r3.2.1 (by omega) x3;have g4:=JC u r3.2.1 e p4;rw[Ax,hB];unfold Ei;rw[cT,q4,Aa]
   rcases l1 with⟨l1,_,_⟩|⟨l1,d0,a4,n4,l2,l3,l4,l5,l6,l7,l8⟩
   ·rw[l1]at g4⊢;exact⟨r3.2.1,r1.1,r2.1,r3.1,0,true,⟨_,_,_,g1,g2,g3,g4⟩,rfl,by simp⟩
   have ed:d0=a3:=by omega
   subst ed;rw[l1]at g4⊢;simp only[An,Ad,Al]at g4⊢;rw[show((3:Int)==0)=false from rfl,Ad,show((3:Int)==1)=false from rfl,Ad,show((3:Int)==2)=false from rfl,Ad,show((3:Int)==3)=true from rfl,Al,show ad 3 1=4 from ad1 (i:=3)<|by omega];simp only;rw[Ax,hB];unfold Ei;rw[cF];exact⟨r4.2.1,r1.1,r2.1,r3.1,r4.1,false,⟨_,_,_,g1,g2,g3,g4⟩,rfl,λ_=>⟨b0,c0,d0,a4,n1,n2,n3,n4,z2,y4,k4,l4,l3,z3,y5,k5,l5,l6,z5,y7,k7,l7,z6,y8,k8,l8⟩⟩
  obtain⟨a,m1,m2,m3,m4,bad,⟨c1,c2,c3,f1,f2,f3,f4⟩,f5,f6⟩:=four_ (λs:Int×Int×Int×Int×Int×Int=>Ei (u,true) s.1 s.2.1 s.2.2.1 s.2.2.2.1 s.2.2.2.2.1 s.2.2.2.2.2) λ_ _ _ _ _ _=>rfl;rw[f5];simp only[f1,f2,f3,f4,Aa]
  cases bad with
  |true=>grind [dH]
  |false=>
   obtain⟨a1,a2,a3,a4,n1,n2,n3,n4,rfl,rfl,rfl,rfl,rfl,i1,i2,i3,i4,i5,j1,j2,j3,j4,s1,s2,s3,s4⟩:=f6 rfl;simp only[Ad,Aa,Df];have o:sx u 0=some (((L u)[0]'(by omega)).toNat:Int):=E8 u (i:=0) (by omega);have h:sub u (a4:Int) (GA u)=some (u.extract a4 (L u).length):=by grind [Bo,Gf]
   rw[o,h];simp only[Aa];have hk:=jE ((L u)[0]'(by omega));have hw:IntKind.i64.wrap (((L u)[0]'(by omega)).toNat:Int)=((L u)[0]'(by omega)).toNat:=O0 (by omega) (by omega);rw[hw];obtain⟨po,po1,po2,_⟩:=S5 (Page.mk (((L u)[0]'(by omega)).toNat:Int) n1 n2 n3 n4<|u.extract a4 (L u).length);rw[po2]
   cases po with
   |false=>
    have:DU (Page.mk (((L u)[0]'(by omega)).toNat:Int) n1 n2 n3 n4<|u.extract a4 (L u).length)=some (bs [],false):=by grind [DU]
    rw[this];simp[dH]
   |true=>
    have hT:L (u.extract a4 (L u).length)=(L u).drop a4:=by grind [K1,AQ]
    have f:L u=[(L u)[0]'(by omega)]++BV n1++BV n2++BV n3++BV n4++L (u.extract a4 (L u).length):=by
     rw[hT,s1,s2,s3,s4];have h0:L u=[(L u)[0]'(by omega)]++(L u).drop 1:=by
      have:=AE (l:=L u) (i:=0) (by omega);simpa using this
     grind [pT]
    rw[WU _ u ((L u)[0]'(by omega)) n1 n2 n3 n4 po1 rfl rfl rfl rfl rfl j1 j2 j3 j4 e f];obtain⟨v',hv',hs'⟩:=(S3 u).2 e;rw[hv]at hv'
    injection hv' with hv'
    subst hv';rw[hs',Aa];have:seq (u++four v) t=true:=by grind [KJ]
    simp only[An,Ad,Aa,this]
    grind
def XH (x:Leaf):Nat:=x.Text.size
def Mh (x:Block):Nat:=zl XH x.Leaves
def Ol (x:Flash):Nat:=zl Mh x.Blocks
theorem ABD (f:Flash) (h:Ol f<=1048576):Jo f/\∀b∈f.Blocks,∀x∈b.Leaves,(L x.Text).length<=1048576:=by
 have h1:=Vp (z:=Mh) (l:=f.Blocks);unfold Ol at h;refine⟨⟨by omega,λb hb=>?_⟩,λb hb x hx=>?_⟩
 ·grind [nS,Mh,zl]
 grind [nS,ZP,Mh,XH]
def nl (l:List Block):Nat:=(l.map λb=>b.Leaves.length).sum
theorem ADC (f:Flash):nl f.Blocks<=Ol f:=by
 unfold nl Ol zl;have:∀l:List Block,(l.map λb=>b.Leaves.length).sum<=(l.map Mh).sum:=by
  intro l
  induction l with
  |nil=>simp
  |cons b l ih=>grind [Mh,zl]
 grind
def Rq (f:Flash) (y:Ak):Prop:=∃b x,gi f.Blocks y.Block=some b/\gi b.Leaves y.Leaf=some x/\(x.Is==1)=true/\EP x.Text=some (y.Page,true)
theorem WR {b:Block} {x:Leaf} (f:Flash) (hf:Jo f) (hb:f.Blocks[i]?=some b) (hx:b.Leaves[k]?=some x):Pj f i k=some (cond (x.Is==1) (x.Text,true) (bs [],false)):=by
 have h1:=(Ae.1 hb).1;have h2:=(Ae.1 hx).1;have h3:=hf.1;have h4:=hf.2 b<|Ao hb;unfold Pj;rw[BL (by rw[Bh];omega) (by rw[Bh];omega),Qx,Bh,Ac (by omega:(0:Int)<=(i:Int)),Ac (by omega:(i:Int)<=(f.Blocks.length:Int)-1)];simp only[Aa,Bool.and_self,An,Ad,Ap,hb];rw[BL (by rw[Bh];omega) (by rw[Bh];omega),Qx,Bh,Ac (by omega:(0:Int)<=(k:Int)),Ac (by omega:(k:Int)<=(b.Leaves.length:Int)-1)]
 grind
theorem Zz (f:Flash) (hf:Jo f) (hT:∀b∈f.Blocks,∀x∈b.Leaves,(L x.Text).length<=1048576) (hn:nl f.Blocks<=1048576):
  ∃X,Ai (λs:List Ak×Int=>DZ f s.1 s.2) ([],0)=some X/\Ai (λs:Int×List Ak=>Iy f s.1 s.2) (0,[])=some X/\X.length<=nl f.Blocks/\∀y∈X,Rq f y:=by
 refine Rn (body:=λs:List Ak×Int=>DZ f s.1 s.2) (body':=λs:Int×List Ak=>Iy f s.1 s.2) (λs i=>(s,i)) (λs i=>(i,s)) f.Blocks.length (λi a=>a.length<=((f.Blocks.take i).map λb=>b.Leaves.length).sum/\∀y∈a,Rq f y) (λX=>X.length<=nl f.Blocks/\∀y∈X,Rq f y) ?_ ?_ (s:=[]) ⟨by simp,by simp⟩
 ·intro a i hi ⟨c,d⟩;have hb:f.Blocks[i]?=some f.Blocks[i]:=Ab hi;have hm:f.Blocks[i]∈f.Blocks:=Ar _;have h:=O5 (λb:Block=>b.Leaves.length) f.Blocks i hi;have j:=LA (λb:Block=>b.Leaves.length) f.Blocks<|i+1;unfold nl at hn;have l:=hf.1;refine .inl ?_;simp only[DZ,Iy,DL hi,Ap,hb,Aa];obtain⟨u,q1,q2,q3⟩:=Rn (body:=λs:List Ak×Int=>FJ f (i:Int) s.1 s.2) (body':=λs:Int×List Ak=>Kr (i:Int) f.Blocks[i] s.1 s.2) (λs i=>(s,i)) (λs i=>(i,s)) f.Blocks[i].Leaves.length (λk u=>u.length<=a.length+k/\∀y∈u,Rq f y) (λu=>u.length<=a.length+f.Blocks[i].Leaves.length/\∀y∈u,Rq f y)
   (λu k hk hu=>by
    have hx:f.Blocks[i].Leaves[k]?=some f.Blocks[i].Leaves[k]:=Ab hk
    have g:∀y:Ak,ap 72 u [y]=some (u++ [y]):=λy=>Bw<|by grind
    refine .inl ?_;obtain⟨p,ok,r1,r2,r3,r4⟩:=Ij f.Blocks[i].Leaves[k].Text (by grind);simp only[FJ,Kr,DL hk,Ap,hb,hx,Aa,WR f hf hb hx,r2,g]
    cases e:f.Blocks[i].Leaves[k].Is==1 with
    |false=>grind [Ij,DH,ad1]
    |true=>
     simp only[Al,Aa,r1]
     cases ok with
     |false=>grind [ad1]
     |true=>
      refine⟨u++ [Ak.mk i k p],by grind [ad1],by grind [ad1],by grind,λy hy=>?_⟩
      rcases Az.1 hy with hy|hy
      ·exact hu.2 y hy
      rw[B8]at hy;subst hy
      exact⟨_,_,by simp only[Ap];exact hb,by grind [Ap],e,r1⟩)
   (λu hu=>⟨u,by simp_all [Ap,Dx,FJ],by simp[Dx,Kr],hu⟩) (s:=a) ⟨by omega,d⟩
  grind [ad1]
 intro a ⟨c,d⟩;refine⟨a,by simp[Dx,DZ],by simp[Dx,Iy],?_,d⟩;rw[D1]at c;exact c
theorem hJ {l:List γ} {i j:Int} {x y:γ} (h:gi l j=some y):∃z,gi (si l i x) j=some z:=by grind [gi,si]
theorem nZ (l:List Ak) (k:Int):JX l k=(AW (MM Bl) 0 k l).map (Sum.map (λs=>(s.2,s.1)) id):=by
 unfold JX AW vR nY
 cases hk:decide (k>0)with
 |false=>rfl
 |true=>
  cases h1:gi l (sb k 1)with
  |none=>simp
  |some x=>
   cases h2:gi l k with
   |none=>simp
   |some y=>
    simp only[Aa];have e:(decide<|x.Page.Seq>y.Page.Seq)=MM Bl y x:=rfl;rw[e]
    cases MM Bl y x with
    |false=>rfl
    |true=>
     obtain⟨z,hz⟩:=hJ (i:=k) (x:=x) h1
     grind
theorem AAP {l l':List γ} {i j:Int} (h:nY l i j=some l'):l'.length=l.length:=by grind [Ag,nY,si]
theorem ABu {a j:Int} {l r:List Ak} (h:Ai (λs:Int×List Ak=>AW (MM Bl) a s.1 s.2) (j,l)=some r):r.length=l.length:=by
 refine uO (λs:Int×List Ak=>s.2.length=l.length) (λr=>r.length=l.length) ?_ ?_ (s:=(j,l)) rfl h
 ·rintro⟨j,m⟩ s' hm hb;obtain⟨c,_,hb⟩:=Ag.1 hb
  grind [Ag,AAP]
 rintro⟨j,m⟩ b hm hb;obtain⟨c,_,hb⟩:=Ag.1 hb
 grind [Ag]
theorem ZF (f:Flash) (hf:Jo f) (hT:∀b∈f.Blocks,∀x∈b.Leaves,(L x.Text).length<=1048576) (hn:nl f.Blocks<=1048576):
  ∃r,Ft f=some r/\EM f=some r/\r.length<=nl f.Blocks/\(∀y∈r,Rq f y)/\srt Bl r:=by
 obtain⟨X,h1,h2,h3,h4⟩:=Zz f hf hT hn;obtain⟨r,h5,h6,h7⟩:=cG Bl X (by omega);obtain⟨r',h8,h9,h10⟩:=Iu Bl [] X [] (by grind);have hr:r'=r:=MX Bl h9 h6 (λk=>by rw[h7 k,<-h10 k]);subst hr;refine⟨r',?_,?_,?_,?_,h6⟩
 ·unfold Ft;rw[h1,Aa];simp only[A5,AO,Jq,Ln]at h8;unfold B4 at h8;have hc:Ai (λs:List Ak×Int=>JY s.1 s.2) (X,1)=Ai (λs:Int×List Ak=>AS (MM Bl) ((0:Nat):Int) (X.length:Int) s.1 s.2) (1,X):=by
   refine lD (body:=λs:Int×List Ak=>AS (MM Bl) ((0:Nat):Int) (X.length:Int) s.1 s.2) (body':=λs:List Ak×Int=>JY s.1 s.2) (λs=>(s.2,s.1)) (λs=>s.2.length=X.length) ?_ ?_ (1,X) rfl
   ·rintro⟨j,m⟩ hm;simp only[JY,AS,Bh,hm]
    cases decide (j<(X.length:Int))with
    |false=>rfl
    |true=>
     rw[pA (body:=λs:Int×List Ak=>AW (MM Bl) ((0:Nat):Int) s.1 s.2) (body':=λs:List Ak×Int=>JX s.1 s.2) (λs=>(s.2,s.1)) (λs=>nZ s.2 s.1) (j,m)];cases Ai (λs:Int×List Ak=>AW (MM Bl) ((0:Nat):Int) s.1 s.2) (j,m)<;>rfl
   rintro⟨j,m⟩ s' hm hb;simp only[AS]at hb
   cases hc:decide (j<(X.length:Int))with
   |false=>grind
   |true=>
    rw[hc,Al]at hb;obtain⟨m',h1,hb⟩:=Ag.1 hb
    injection hb with hb
    injection hb with hb
    subst hb;exact(ABu h1).trans hm
  rw[hc];exact h8
 ·unfold EM
  grind
 ·grind [Bx.len]
 grind [Bx.mem]
theorem Np {S:Type} {body:S->Option (S⊕List α)} (a:List α->Int->S) (g:Nat->α->α) (l0:List α) (h1:∀(i:Nat) (l:List α) x,l.length=l0.length->l[i]?=some x->l0[i]?=some x->body (a l (i:Nat))=some (.inl (a (l.set i (g i x)) ((i+1:Nat):Int)))) (h2:∀l:List α,l.length=l0.length->body (a l (l0.length:Nat))=some (.inr l)):Ai body (a l0 0)=some (l0.mapIdx g):=by
 obtain⟨b,h3,h4⟩:=AA (body:=body) a l0.length (λi l=>l.length=l0.length/\∀j,l[j]?=if j<i then(l0[j]?).map (g j)else l0[j]?) (λb=>b=l0.mapIdx g)
  (λl i hi hs=>by
   obtain⟨hl,hs⟩:=hs;have c:l0[i]?=some l0[i]:=Ab hi
   grind)
  (λl hs=>⟨l,h2 l hs.1,by
   apply Cm
   grind⟩) (s:=l0) ⟨rfl,λj=>by rfl⟩
 rw[h3,h4]
abbrev Ks:=List Ba
def dk:Ba:=Ba.mk true []
def BD (K:Ks) (i:Int):Ba:=(gi K i).getD dk
def Oy (k:Ba) (j:Nat):Int:=(k.Kids[j]?).getD 0
def QA (K:Ks) (i:Nat) (leaf:Bool) (n:Int):Bool:=bif leaf then decide (0<=n)else(n== -1||(decide (0<=n/\n<=(i:Int)-1)&&(BD K n).Leaf))
def C7 (K:Ks):Bool:=K.zipIdx.all λz=>z.1.Kids.length==4&&z.1.Kids.all (QA K z.2 z.1.Leaf)
def Dh (K:Ks) (r:Int):Bool:=r== -1||(decide (0<=r/\r<(K.length:Int))&&!(BD K r).Leaf)
def Q4 (K:Ks) (root:Int) (s:Nat):Int:=if root<0 then 0 else if Oy (BD K root) (s/4)<0 then 0 else Oy (BD K<|Oy (BD K root)<|s/4)<|s %4
def Fc (K:Ks) (root:Int):List Int:=(List.range 16).map<|Q4 K root
variable {K X:Ks}
theorem OK (h:i<K.length):BD K (i:Int)=K[i]:=by grind [Ap,BD]
theorem Hz {i:Int} (h0:0<=i) (h:i<(K.length:Int)):gi K i=some (BD K i):=by grind [K9,BD]
theorem DV (x a b:Int):BB x a b=some (decide (a<=x/\x<=b)):=by
 rw[Qx];simp
theorem FZ:C7 K=true↔∀i:Nat,i<K.length->(BD K (i:Int)).Kids.length=4/\∀n∈(BD K (i:Int)).Kids,QA K i (BD K (i:Int)).Leaf n=true:=by simp_all [OK,List.mem_zipIdx_iff_getElem?,Ae,C7];grind
theorem Kb (a:Arena) (ha:a.Knots.length<=1048576):Gt a=some (C7 a.Knots):=by
 unfold Gt;have h:=YH (body:=λs:Int=>Eg a s) a.Knots (λi k=>k.Kids.length==4&&k.Kids.all (QA a.Knots i k.Leaf)) (.inr false) (.inl ()) (by omega)
  (λi k hk=>by
   have hi:=(Ae.1 hk).1;simp only[Eg,DL hi,Ap,hk,Aa];by_cases h4:k.Kids.length=4
   ·have e1:(ln k.Kids !=4)=false:=by simp[ln,h4]
    have e2:(k.Kids.length==4)=true:=by simp[h4]
    simp only[e1,Ad,e2,Bool.true_and];have q:=YH (body:=λs:Int=>EB a (i:Int) k s) k.Kids (λ_ n=>QA a.Knots i k.Leaf n) (.inr<|.inr<|.inr false) (.inl ()) (by omega)
     (λj n hn=>by
      have hj:=(Ae.1 hn).1;simp only[EB];rw[cT,Ap,hn];simp only[Aa,QA]
      cases hl:k.Leaf with
      |true=>grind [ad1]
      |false=>
       simp only[Ad,BK,Al];by_cases h1:n= -1
       ·grind [ad1]
       grind [BL,DV,Hz,ad1])
     (by grind [EB])
    rw[q];have hz:(k.Kids.zipIdx.all λz=>QA a.Knots i k.Leaf z.1)=k.Kids.all (QA a.Knots i k.Leaf):=by
     rw[show(λz:Int×Nat=>QA a.Knots i k.Leaf z.1)=(QA a.Knots i k.Leaf)∘Prod.fst from rfl,<-List.all_map];simp
    grind [ad1]
   grind [ln])
  (by simp[Dx,Eg])
 grind [C7]
theorem Mz (a:Arena) (ha:a.Knots.length<=1048576) (r:Int):Hh a r=some (Dh a.Knots r):=by grind [Bh,BL,DV,Hz,Hh,Dh]
theorem BH (h:Dh K r=true):r= -1\/(0<=r/\r<(K.length:Int)/\(BD K r).Leaf=false):=by grind [Dh]
theorem ES (hK:C7 K=true) (h0:0<=r) (h1:r<(K.length:Int)):(BD K r).Kids.length=4/\∀j,j<4->(BD K r).Kids[j]?=some (Oy (BD K r) j)/\QA K r.toNat (BD K r).Leaf (Oy (BD K r) j)=true:=by
 have:=FZ.1 hK r.toNat<|by omega
 grind [Oy]
theorem FN (hK:C7 K=true) (h0:0<=r) (h1:r<(K.length:Int)) (hl:(BD K r).Leaf=false) (hj:j<4):Oy (BD K r) j= -1\/(0<=Oy (BD K r) j/\Oy (BD K r) j<r/\(BD K (Oy (BD K r) j)).Leaf=true):=by grind [ES,QA]
theorem zI (hK:C7 K=true) (h0:0<=r) (h1:r<(K.length:Int)) (hl:(BD K r).Leaf=true) (hj:j<4):0<=Oy (BD K r) j:=by grind [ES,QA]
theorem qu4 {s:Nat} (h:s<16):qu (s:Int) 4=((s/4:Nat):Int):=by grind [O0,qu]
theorem wA {s:Nat}:Int.tmod (s:Int) 4=((s %4:Nat):Int):=by rfl
theorem Wu {s:Nat} (a:Arena) (hK:C7 a.Knots=true) (hr:Dh a.Knots r=true) (hs:s<16):Nd a r (s:Int)=some (Q4 a.Knots r s):=by
 unfold Nd Q4
 rcases BH hr with rfl|⟨h0,h1,hl⟩
 ·rfl
 rw[Ah (by omega:¬r<0),Bi (by omega),Ad,Hz h0 h1];rw[Aa,qu4 hs,Ap,((ES hK h0 h1).2 (s/4)<|by omega).1];simp only[Aa]
 rcases FN hK h0 h1 hl (show s/4<4 by omega)with e|⟨e1,e2,e3⟩
 ·rw[e];rfl
 rw[Ah (by omega),Bi (by omega),Ad,Hz e1<|by omega];rw[Aa,wA,Ap,((ES hK e1<|by omega).2 (s %4)<|by omega).1];rfl
theorem Yp {s:Nat} (a:Arena) (ha:a.Knots.length<=1048576) (hK:C7 a.Knots=true) (hr:Dh a.Knots r=true) (hs:s<16):Pm a r (s:Int)=some (Q4 a.Knots r s):=by simp_all [Kb,Mz,DV,Wu,Pm];grind
theorem Ni (a:Arena) (ha:a.Knots.length<=1048576) (hK:C7 a.Knots=true) (hr:Dh a.Knots r=true):Jb a r=some (Fc a.Knots r):=by
 unfold Jb;obtain⟨b,h1,h2⟩:=AA (body:=λs:List Int×Int=>KX a r s.1 s.2) (λ(o:List Int) i=>(o,i)) 16 (λi o=>o=(List.range i).map (Q4 a.Knots r)) (λb=>b=Fc a.Knots r)
  (λo i hi ho=>by grind [Yp,Bw,ad1,DM,KX])
  (λo ho=>⟨_,by rfl,ho⟩) (s:=[]) rfl
 grind
theorem Lk {by_:Nat} (h:l.length*by_<=140737488355328):ap by_ [] l=some l:=by grind [Bw]
def AAi (K:Ks):Prop:=K.length<=1048576/\∀k∈K,k.Kids.length<=1048576
theorem Ky (hK:C7 K=true) (h:K.length<=1048576):AAi K:=by
 refine⟨h,λk hk=>?_⟩
 grind [Au,FZ,OK]
theorem Up (a:Arena) (h:AAi a.Knots):MG a=some a:=by
 unfold MG;have h1:=UG (body:=λs:Int×List Ba=>JR a s.1 s.2) a.Knots (λk=>k)
  (λi k b hk ho=>by
   have hi:=(Ae.1 hk).1;have hm:=h.2 k<|Ao hk;have:=h.1;simp only[JR,DL hi,Ap,hk,Aa]
   rw[Lk (by omega),Aa,Bw (by simp;omega),Aa,ad1])
  (λb=>by simp[Dx,JR])
 rw[h1];simp
theorem FG (s:Store) (h:AAi s.Arena.Knots) (hv:s.Vols.length<=1048576):DF s=some s:=by
 unfold DF;rw[Lk (by omega),Up _ h];rfl
def Qv (K:Ks) (r:Int) (s:Nat) (n:Int):List Int:=(if r<0 then [0,0,0,0]else if Oy (BD K r) (s/4)<0 then [0,0,0,0]else(BD K<|Oy (BD K r)<|s/4).Kids).set (s %4) n
def TU (K:Ks) (r:Int) (s:Nat):List Int:=(if r<0 then [-1,-1,-1,-1]else(BD K r).Kids).set (s/4) (K.length:Int)
def JK (K:Ks) (r:Int) (s:Nat) (n:Int):Ks:=K++ [Ba.mk true<|Qv K r s n,Ba.mk false<|TU K r s]
theorem mk4:mk 8 (0:Int) 4=some [0,0,0,0]:=by rfl
theorem mB {k:Ba} (h:j<k.Kids.length):gi k.Kids (j:Int)=some (Oy k j):=by grind [Ap,Oy]
theorem Yl {s:Nat} (a:Arena) (ha:a.Knots.length<=1048000) (hK:C7 a.Knots=true) (hr:Dh a.Knots r=true) (hs:s<16) (hn:0<=n):
  Xt a r (s:Int) n=some (Arena.mk (JK a.Knots r s n),(a.Knots.length:Int)+1):=by
 unfold Xt;rw[Up _ (Ky hK<|by omega),Kb a (by omega),Mz a (by omega),DV,hK,hr];rw[Ac (by omega:0<=(s:Int)/\(s:Int)<=15),Ah (by omega:¬n<0)];rw[mk4];simp only[Aa];have fin:∀(lf tp:List Int),lf.length=4->tp.length=4->JK a.Knots r s n=a.Knots++ [Ba.mk true<|lf.set (s %4) n,Ba.mk false<|tp.set (s/4) (a.Knots.length:Int)]->
   ((gi lf<|Int.tmod (s:Int) 4).bind λx4=>(gi tp<|qu (s:Int) 4).bind λx5=>(ap 32 a.Knots [Ba.mk true<|si lf (Int.tmod (s:Int) 4) n,Ba.mk false<|si tp (qu (s:Int) 4)<|ln a.Knots]).bind λq4=>some (Arena.mk q4,sb (ln q4) 1))=some (Arena.mk<|JK a.Knots r s n,(a.Knots.length:Int)+1):=by
  intro lf tp h1 h2 h3;rw[qu4 hs,wA,Ap,Ap,Ab (by omega),Ab<|by omega];rw[Bw (by simp;omega),Ew,Ew,Bh,<-h3]
  grind [Bh,BL]
 rcases BH hr with rfl|⟨h0,h1,hl⟩
 ·rw[Ah (by omega:¬(-1:Int)>=0)];exact fin _ _ rfl rfl rfl
 rw[cT,Hz h0 h1];have h4:=(ES hK h0 h1).1;simp only[Aa];rw[Lk<|by omega];simp only[Aa];rw[qu4 hs,mB (by omega:s/4<(BD a.Knots r).Kids.length)];simp only[Aa];rw[<-qu4 hs]
 rcases FN hK h0 h1 hl (show s/4<4 by omega)with e|⟨e1,e2,e3⟩
 ·grind [JK,Qv,TU]
 grind [Hz,ES,Lk,JK,Qv,TU]
def N3 (K:Ks) (r:Int) (i:Nat):Bool:=decide (0<=r)&&(decide (r=(i:Int))||(BD K r).Kids.any λn=>decide<|n=(i:Int))
theorem gF (n:Nat) (f:Nat->α) (g:Nat->α->α):((List.range n).map f).mapIdx g=(List.range n).map λi=>g i (f i):=by
 apply Cm
 grind
theorem OB (n:Nat) (f:Nat->α) (i:Nat) (x:α) (g:Nat->α) (h:∀j,j<n->g j=if j=i then x else f j):((List.range n).map f).set i x=(List.range n).map g:=by
 apply Cm
 grind
theorem MK {n:Nat} {f:Nat->α} (h:i<n):((List.range n).map f)[i]?=some (f i):=by grind
theorem TY {l:List Int} {m:Nat} (h:l[m]?=some x) (p:Int->Bool):(l.take (m+1)).any p=((l.take m).any p||p x):=by grind [D5]
theorem jV (a:Arena) (ha:a.Knots.length<=1048576) (hK:C7 a.Knots=true) (hr:Dh a.Knots r=true):Uo a r=some ((List.range a.Knots.length).map (N3 a.Knots r)):=by
 unfold Uo;rw[Bh,YE (by omega)<|by omega];simp only[Aa]
 rcases BH hr with rfl|⟨h0,h1,hl⟩
 ·simp only[show decide ((-1:Int)<0)=true from rfl,Al];congr 1;rw[show(N3 a.Knots<|-1)=λ_=>false from rfl,Ms,F6]
 rw[cF];obtain⟨m,rfl⟩:∃m:Nat,r=(m:Int):=⟨r.toNat,by omega⟩;rw[Ap,List.getElem?_replicate,BE<|by omega];rw[Ew];obtain⟨h4,hk⟩:=ES hK h0 h1;obtain⟨b,q1,q2⟩:=AA (body:=λs:List Bool×Int=>LD a (m:Int) s.1 s.2) (λ(o:List Bool) i=>(o,i)) 4
  (λi o=>o=(List.range a.Knots.length).map λ(j:Nat)=>decide ((m:Int)=(j:Int))||((BD a.Knots (m:Int)).Kids.take i).any λn=>decide<|n=(j:Int))
  (λb=>b=(List.range a.Knots.length).map (N3 a.Knots (m:Int)))
  (λo i hi ho=>by
   obtain⟨e,_⟩:=hk i hi;simp only[LD];rw[cT,Hz h0 h1];simp only[Aa];rw[Ap,e];simp only[Aa]
   rcases FN hK h0 h1 hl hi with e1|⟨e1,e2,e3⟩
   ·grind [ad1,TY]
   obtain⟨c,hc⟩:∃c:Nat,Oy (BD a.Knots (m:Int)) i=(c:Int):=⟨(Oy (BD a.Knots (m:Int)) i).toNat,by omega⟩;rw[hc,cT];rw[ho,Ap,MK<|by omega];rw[Ew,ad1]
   simp_all [OB,TY];grind)
  (λo ho=>⟨_,by simp only[LD];rw[cF],by
   rw[ho];apply Ga;intro j hj;rw[AQ<|by omega]
   rfl⟩) (s:=(List.replicate a.Knots.length false).set m true) (by grind [F6,Ms,OB])
 grind
def C8 (K:Ks) (R:List Int) (i:Nat):Bool:=R.any λr=>N3 K r i
def i9 (K:Ks) (R:List Int) (i:Nat):Nat:=((List.range i).filter<|C8 K R).length
def Q7 (K:Ks) (R:List Int) (n:Int):Int:=if 0<=n then(i9 K R n.toNat:Int)else n
def XY (K:Ks) (R:List Int) (i:Nat):Ba:=Ba.mk (BD K (i:Int)).Leaf<|bif(BD K (i:Int)).Leaf then(BD K (i:Int)).Kids else(BD K (i:Int)).Kids.map<|Q7 K R
def TZ (K:Ks) (R:List Int):Ks:=((List.range K.length).filter<|C8 K R).map<|XY K R
theorem Ir (l:List α) (f:α->α):l.mapIdx (λ_ x=>f x)=l.map f:=by
 apply Cm
 grind
theorem O2 (hr:r∈R) (h0:0<=r):C8 K R r.toNat=true:=by grind [C8,N3]
theorem XP (hK:C7 K=true) (hR:∀r∈R,Dh K r=true) (hu:C8 K R i=true) (hl:(BD K (i:Int)).Leaf=false):(i:Int)∈R:=by
 unfold C8 at hu;rw[EN]at hu;obtain⟨r,hr,h⟩:=hu;unfold N3 at h;simp only[Aj,Hr,AZ,EN]at h;obtain⟨h0,h⟩:=h
 rcases h with h|⟨n,hn,h⟩
 ·grind
 rcases BH (hR r hr)with e|⟨_,h1,a⟩
 ·omega
 obtain⟨h4,hk⟩:=ES hK h0 h1;obtain⟨j,hj,b⟩:=Au hn;have e:=(hk j<|by omega).1
 grind [FN]
theorem TR (hr:r∈R) (h0:0<=r) (hn:n∈(BD K r).Kids) (h1:0<=n):C8 K R n.toNat=true:=by grind [C8,N3]
theorem AB5 (i:Nat):i9 K R i<=i:=by
 have:=GL (C8 K R)<|List.range i;rw[F6]at this;exact this
theorem aD (a:Arena) (ha:a.Knots.length<=1048576) (R:List Int) (hc:R.length<=1048576) (hR:∀r∈R,Dh a.Knots r=true):Ai (λs:Bool×Int=>Fs a R s.1 s.2) (true,0)=some true:=by
 obtain⟨b,h1,h2⟩:=AA (body:=λs:Bool×Int=>Fs a R s.1 s.2) (λ(o:Bool) i=>(o,i)) R.length (λ_ o=>o=true) (λb=>b=true)
  (λo i hi ho=>by
   have hx:=Ab hi;simp only[Fs,JB,Ac hi,Al,Aa,ho,Ap,hx];rw[Mz a ha,hR _<|Ar hi,Aa,ad1]
   grind)
  (λo ho=>⟨o,by grind [JB,Fs],ho⟩) (s:=true) rfl
 grind
theorem fH (a:Arena) (ha:a.Knots.length<=1048576) (hK:C7 a.Knots=true) (R:List Int) (hc:R.length<=1048576) (hR:∀r∈R,Dh a.Knots r=true):
  Ai (λs:List Bool×Int=>Fq a R s.1 s.2) (List.replicate a.Knots.length false,0)=some ((List.range a.Knots.length).map (C8 a.Knots R)):=by
 obtain⟨b,h1,h2⟩:=AA (body:=λs:List Bool×Int=>Fq a R s.1 s.2) (λ(o:List Bool) i=>(o,i)) R.length (λi o=>o=(List.range a.Knots.length).map λ(j:Nat)=>(R.take i).any λr=>N3 a.Knots r j) (λb=>b=(List.range a.Knots.length).map (C8 a.Knots R))
  (λo i hi ho=>by
   have hx:=Ab hi;simp only[Fq,DL hi,Aa,Ap,hx];rw[jV a ha hK<|hR _<|Ar hi];simp only[Aa];have q:=Np (body:=λs:List Bool×Int=>Hb ((List.range a.Knots.length).map<|N3 a.Knots R[i]) s.1 s.2) (λl i=>(l,i)) (λk x=>x||N3 a.Knots R[i] k) o
    (λk l x hl c d=>by grind [JB,Ap,Ew,ad1,Hb])
    (λl hl=>by grind [JB,Hb])
   rw[q,Aa,ad1,ho,gF]
   grind [D5])
  (λo ho=>⟨o,by simp[Dx,Fq],by rw[ho,AQ<|by omega];rfl⟩) (s:=List.replicate a.Knots.length false) (by grind [Ms,F6])
 grind
def TJ (K:Ks) (R:List Int) (i:Nat):List Int:=(List.range K.length).map λ(j:Nat)=>if j<i/\C8 K R j=true then(i9 K R j:Int)else 0
theorem aE (a:Arena) (ha:a.Knots.length<=1048576) (hK:C7 a.Knots=true) (R:List Int) (hR:∀r∈R,Dh a.Knots r=true):
  Ai (λs:List Int×Int×List Ba=>Fp a ((List.range a.Knots.length).map (C8 a.Knots R)) s.1 s.2.1 s.2.2) (List.replicate a.Knots.length 0,0,[])=some (TJ a.Knots R a.Knots.length,TZ a.Knots R):=by
 obtain⟨b,h1,h2⟩:=AA (body:=λs:List Int×Int×List Ba=>Fp a ((List.range a.Knots.length).map<|C8 a.Knots R) s.1 s.2.1 s.2.2) (λ(o:List Int×List Ba) i=>(o.1,i,o.2)) a.Knots.length
  (λi o=>o=(TJ a.Knots R i,((List.range i).filter<|C8 a.Knots R).map<|XY a.Knots R)) (λb=>b=(TJ a.Knots R a.Knots.length,TZ a.Knots R))
  (λo i hi ho=>by
   subst ho;simp only[Fp,DL hi];rw[Ap,MK hi];simp only[Aa]
   cases hu:C8 a.Knots R i with
   |false=>grind [ad1,DM,TJ]
   |true=>
    simp only[An,Ad];have h0:(0:Int)<=(i:Int):=by omega
    have d:(i:Int)<(a.Knots.length:Int):=by omega
    rw[Hz h0 d];obtain⟨h4,hk⟩:=ES hK h0 d;simp only[Aa];rw[Lk<|by omega];simp only[Aa];have inner:Ai (λs:Int×List Int=>Fo (TJ a.Knots R i) ((BD a.Knots (i:Int)).Leaf,(BD a.Knots (i:Int)).Kids) s.1 s.2) (0,(BD a.Knots (i:Int)).Kids)=some (XY a.Knots R i).Kids:=by
     unfold XY
     cases hl:(BD a.Knots (i:Int)).Leaf with
     |true=>rw[Ax];rfl
     |false=>
      have q:=Np (body:=λs:Int×List Int=>Fo (TJ a.Knots R i) (false,(BD a.Knots (i:Int)).Kids) s.1 s.2) (λl k=>(k,l)) (λ_ x=>Q7 a.Knots R x) (BD a.Knots (i:Int)).Kids
       (λk l x g h j=>by
        have m:k<4:=by grind
        have ex:x=Oy (BD a.Knots (i:Int)) k:=by grind
        simp only[Fo];rw[Ac (by omega:(k:Int)<4)];simp only[Al,Aa,BK];rw[Ap,h];simp only[Aa]
        rcases FN hK h0 d hl m with e|⟨e1,e2,e3⟩
        ·rw[cF,ad1];have:Q7 a.Knots R x=x:=by unfold Q7;omega
         rw[this,show l.set k x=l from by
          apply Cm
          grind]
        rw[cT];obtain⟨c,hc⟩:∃c:Nat,x=(c:Int):=⟨x.toNat,by omega⟩;have n:x∈(BD a.Knots (i:Int)).Kids:=Ao j;have f:=TR (XP hK hR hu hl) h0 n (by omega);rw[hc]at f;rw[hc,Ap];unfold TJ;rw[MK (by omega),Aa,BE ⟨by omega,f⟩,Ew,ad1]
        rfl)
       (λl g=>by grind [Fo])
      grind [Ir]
    rw[inner];simp only[Aa];have p:gi (TJ a.Knots R i) (i:Int)=some 0:=by grind [Ap,TJ]
    rw[p];simp only[Aa];have u:=AB5 (K:=a.Knots) (R:=R) i;have t:(((List.range i).filter<|C8 a.Knots R).map<|XY a.Knots R).length=i9 a.Knots R i:=by rw[By];rfl
    rw[Bw (by grind),Aa,ad1,Bh,t,Ew];refine .inl ⟨(_,_),rfl,?_⟩;congr 1
    ·grind [OB,TJ]
    rw[DM,Cb,I3 hu,List.filter_nil,Jp]
    rfl)
  (λo ho=>⟨o,by simp[Dx,Fp],ho⟩) (s:=(List.replicate a.Knots.length 0,[])) (by grind [Ms,F6,TJ])
 grind
theorem oJ (a:Arena) (ha:a.Knots.length<=1048576) (R:List Int) (hc:R.length<=1048576) (hR:∀r∈R,Dh a.Knots r=true):
  Ai (λs:List Int×Int=>Fl (TJ a.Knots R a.Knots.length,TZ a.Knots R) s.1 s.2) (R,0)=some (R.map (Q7 a.Knots R)):=by
 have q:=Np (body:=λs:List Int×Int=>Fl (TJ a.Knots R a.Knots.length,TZ a.Knots R) s.1 s.2) (λl k=>(l,k)) (λ_ x=>Q7 a.Knots R x) R
  (λk l x h b d=>by
   have i:=(Ae.1 b).1;simp only[Fl,DL i,Ap,b,Aa]
   rcases BH (hR x<|Ao d)with e|⟨e1,e2,e3⟩
   ·rw[cF,ad1];have:Q7 a.Knots R x=x:=by unfold Q7;omega
    rw[this,show l.set k x=l from by
     apply Cm
     grind]
   rw[cT];obtain⟨c,f⟩:∃c:Nat,x=(c:Int):=⟨x.toNat,by omega⟩;have g:=O2 (K:=a.Knots) (Ao d) e1;rw[f]at g;rw[f,Ap];unfold TJ;rw[MK (by omega),Aa,BE ⟨by omega,g⟩,Ew,ad1]
   rfl)
  (λl h=>by grind [Bh,Fl])
 grind [Ir]
theorem Yj (a:Arena) (ha:a.Knots.length<=1048576) (hK:C7 a.Knots=true) (R:List Int) (hc:R.length<=1048576) (hR:∀r∈R,Dh a.Knots r=true):
  JT a R=some (Arena.mk (TZ a.Knots R),R.map (Q7 a.Knots R)):=by
 unfold JT;rw[Lk (by omega),Kb a ha,hK];simp only[Aa];rw[aD a ha R hc hR];rw[Bh,YE (by omega)<|by omega];simp only[Aa];rw[fH a ha hK R hc hR];rw[YE (by omega)<|by omega];simp_all [aE,oJ]
theorem Zq (p:Nat->Bool) (hp:p i=true):∀{n:Nat},i<n->((List.range n).filter p)[((List.range i).filter p).length]?=some i
 |0,h=>by omega
 |n+1,h=>by
  rw[DM,Cb];by_cases e:i=n
  ·grind
  have h2:=Zq p hp<|show i<n by omega
  grind
theorem zZ {n:Nat} (p:Nat->Bool) (hp:p i=true) (h:i<n):((List.range i).filter p).length<((List.range n).filter p).length:=(Ae.1<|Zq p hp h).1
theorem mE (p:Nat->Bool):∀{n j:Nat},j<((List.range n).filter p).length->∃i,i<n/\p i=true/\((List.range i).filter p).length=j
 |0,j,h=>by simp at h
 |n+1,j,h=>by
  rw[DM,Cb,A9]at h;by_cases e:j<((List.range n).filter p).length
  ·obtain⟨i,h1,h2,h3⟩:=mE p e
   grind
  grind
theorem rJ:(TZ K R).length=i9 K R K.length:=by unfold TZ i9;rw[By]
theorem RN (hu:C8 K R i=true) (hi:i<K.length):BD (TZ K R) (i9 K R i:Nat)=XY K R i/\i9 K R i<(TZ K R).length:=by grind [Ap,Zq,i9,TZ,BD]
theorem wD (hj:j<(TZ K R).length):∃i,i<K.length/\C8 K R i=true/\i9 K R i=j:=by
 rw[rJ]at hj;exact mE (C8 K R) hj
theorem ADt (hu:C8 K R i=true) (h:i<j):i9 K R i<i9 K R j:=zZ _ hu h
theorem XX (i:Nat):(XY K R i).Leaf=(BD K (i:Int)).Leaf:=rfl
theorem rH (hK:C7 K=true) (hi:i<K.length):(XY K R i).Kids.length=4:=by grind [FZ,XY]
theorem rI (hl:(BD K (i:Int)).Leaf=false) (hj:j<(BD K (i:Int)).Kids.length):Oy (XY K R i) j=Q7 K R (Oy (BD K (i:Int)) j):=by
 unfold Oy XY
 grind
theorem SF (hl:(BD K (i:Int)).Leaf=true):(XY K R i).Kids=(BD K (i:Int)).Kids:=by grind [XY]
theorem Xv (h:n<0):Q7 K R n=n:=by unfold Q7;omega
theorem Sb (n:Nat):Q7 K R (n:Int)=(i9 K R n:Int):=by rfl
theorem ACr (hK:C7 K=true) (hR:∀r∈R,Dh K r=true):C7 (TZ K R)=true:=by
 rw[FZ];intro j hj;obtain⟨i,hi,hu,rfl⟩:=wD hj;rw[(RN hu hi).1];refine⟨rH hK hi,λn hn=>?_⟩;have h0:(0:Int)<=(i:Int):=by omega
 have h1:(i:Int)<(K.length:Int):=by omega
 obtain⟨h4,hk⟩:=ES hK h0 h1;rw[XX]
 cases hl:(BD K (i:Int)).Leaf with
 |true=>grind [SF,FZ,QA]
 |false=>
  obtain⟨m,hm,b⟩:=Au hn;rw[rH hK hi]at hm;have e:n=Q7 K R (Oy (BD K (i:Int)) m):=by
   rw[<-rI hl (by omega),<-b]
   grind [Oy]
  rcases FN hK h0 h1 hl hm with k1|⟨k1,k2,k3⟩
  ·rw[k1,Xv<|by omega]at e;subst e;rfl
  obtain⟨c,hc⟩:∃c:Nat,Oy (BD K (i:Int)) m=(c:Int):=⟨_,(AR k1).symm⟩;rw[hc]at e k2 k3;rw[Sb]at e;have a:=TR (XP hK hR hu hl) h0 (Ao (hk m hm).1) (by omega);rw[hc]at a;have d:c<K.length:=by omega
  have f:i9 K R c<i9 K R i:=ADt (by simpa using a)<|by omega
  grind [RN,XX,QA]
theorem xU (hR:∀r∈R,Dh K r=true) (hr:r∈R):Dh (TZ K R) (Q7 K R r)=true:=by
 rcases BH (hR r hr)with e|⟨h0,h1,hl⟩
 ·rw[e,Xv<|by omega];rfl
 obtain⟨c,rfl⟩:∃c:Nat,r=(c:Int):=⟨_,(AR h0).symm⟩
 grind [O2,C1,RN,Sb,XX,Dh]
theorem r7 (hK:C7 K=true) (hR:∀r∈R,Dh K r=true) (hr:r∈R):Fc (TZ K R) (Q7 K R r)=Fc K r:=by
 unfold Fc;apply Ga;intro s hs;rw[N8]at hs;unfold Q4
 rcases BH (hR r hr)with e|⟨h0,h1,hl⟩
 ·grind [Xv]
 obtain⟨c,rfl⟩:∃c:Nat,r=(c:Int):=⟨_,(AR h0).symm⟩;have a:=O2 (K:=K) hr h0;rw[C1]at a;obtain⟨g1,g2⟩:=RN a (by omega);obtain⟨h4,hk⟩:=ES hK h0 h1;rw[Sb,g1,rI hl<|by omega];simp only[Bi (show¬((i9 K R c:Nat):Int)<0 by omega),Bi<|show¬((c:Nat):Int)<0 by omega]
 rcases FN hK h0 h1 hl (show s/4<4 by omega)with k1|⟨k1,k2,k3⟩
 ·grind [Xv]
 obtain⟨d,hd⟩:∃d:Nat,Oy (BD K (c:Int)) (s/4)=(d:Int):=⟨_,(AR k1).symm⟩;have b:=TR hr h0 (Ao (hk (s/4)<|by omega).1) k1
 grind [Sb,RN,SF,Oy]
theorem AAQ (hK:C7 K=true) (hR:∀r∈R,Dh K r=true) (hj:j<(TZ K R).length):C8 (TZ K R) (R.map (Q7 K R)) j=true:=by
 obtain⟨i,hi,hu,rfl⟩:=wD hj;have hu':=hu;unfold C8 at hu';rw[EN]at hu';obtain⟨r,hr,h⟩:=hu';unfold N3 at h;simp only[Aj,Hr,AZ,EN]at h;obtain⟨h0,h⟩:=h;unfold C8;rw[EN];refine⟨Q7 K R r,AB.2 ⟨r,hr,rfl⟩,?_⟩;obtain⟨c,rfl⟩:∃c:Nat,r=(c:Int):=⟨_,(AR h0).symm⟩;rw[Sb];unfold N3;simp only[Aj,Hr,AZ,EN];refine⟨by omega,?_⟩
 rcases h with h|⟨n,hn,h⟩
 ·grind
 right
 rcases BH (hR _ hr)with e|⟨_,h1,hl⟩
 ·omega
 grind [O2,C1,RN,Sb,XY]
theorem Ro {i:Int} (h0:0<=i) (h:i<(K.length:Int)):BD (K++X) i=BD K i:=by
 obtain⟨c,rfl⟩:∃c:Nat,i=(c:Int):=⟨_,(AR h0).symm⟩
 grind [Ap,BD]
theorem xH (h:Dh K r=true):Dh (K++X) r=true:=by grind [Ro,Dh]
theorem rX (hK:C7 K=true) (h:Dh K r=true):Fc (K++X) r=Fc K r:=by grind [Ga,BH,Ro,FN,Fc,Q4]
theorem dU {s:Nat} (hK:C7 K=true) (hr:Dh K r=true) (hs:s<16) (n:Int):(Qv K r s n).length=4:=by grind [BH,FN,ES,Qv]
theorem jF (hK:C7 K=true) (hr:Dh K r=true) (s:Nat):(TU K r s).length=4:=by grind [BH,ES,TU]
theorem VM {s:Nat}:BD (JK K r s n) (K.length:Int)=Ba.mk true (Qv K r s n):=by grind [Ap,BD,JK]
theorem VL {s:Nat}:BD (JK K r s n) ((K.length:Int)+1)=Ba.mk false (TU K r s):=by
 unfold BD JK;rw[show(K.length:Int)+1=((K.length+1:Nat):Int)from rfl,Ap,Dt (by omega),show K.length+1-K.length=1 by omega];rfl
theorem ACB {s:Nat} (hK:C7 K=true) (hr:Dh K r=true) (hs:s<16) (hn:0<=n):C7 (JK K r s n)=true:=by
 rw[FZ];intro j hj;have a:(JK K r s n).length=K.length+2:=by unfold JK;simp
 rw[a]at hj;by_cases h:j<K.length
 ·grind [Ro,FZ,JK,QA]
 by_cases e:j=K.length
 ·subst e;rw[VM];refine⟨dU hK hr hs n,λm hm=>?_⟩;simp only[QA,Al,AZ]
  rcases Cx hm with hm|hm
  ·rcases BH hr with e|⟨h0,h1,hl⟩
   ·grind
   rw[Bi<|by omega]at hm
   rcases FN hK h0 h1 hl (show s/4<4 by omega)with k1|⟨k1,k2,k3⟩
   ·grind
   rw[Bi<|by omega]at hm;have hq:=FZ.1 hK (Oy (BD K r)<|s/4).toNat<|by omega
   grind [QA]
  omega
 have:j=K.length+1:=by omega
 subst this;rw[show((K.length+1:Nat):Int)=(K.length:Int)+1 from rfl,VL];refine⟨jF hK hr s,λm hm=>?_⟩;simp only[QA,Ad,Hr,G5,Aj,AZ]
 rcases Cx hm with hm|hm
 ·rcases BH hr with e|⟨h0,h1,hl⟩
  ·grind
  rw[Bi<|by omega]at hm;obtain⟨q,hq,rfl⟩:=Au hm;obtain⟨h4,hk⟩:=ES hK h0 h1;have e5:=(hk q<|by omega).1
  grind [FN,Ro,JK]
 grind [VM]
theorem uE {s:Nat}:Dh (JK K r s n) ((K.length:Int)+1)=true:=by grind [VL,Dh,JK]
theorem sE {s:Nat} (hK:C7 K=true) (hr:Dh K r=true) (hs:s<16):Fc (JK K r s n) ((K.length:Int)+1)=(Fc K r).set s n:=by
 unfold Fc;symm;apply OB;intro t ht;unfold Q4;rw[VL];simp only[Bi<|show¬((K.length:Int)+1)<0 by omega];have a:=jF hK hr s;have b:=dU hK hr hs n;by_cases hq:t/4=s/4
 ·have e1:Oy (Ba.mk false<|TU K r s) (t/4)=(K.length:Int):=by grind [Oy,TU]
  rw[e1,Bi (by omega),VM];have e2:Oy (Ba.mk true<|Qv K r s n) (t %4)=if t %4=s %4 then n else(if r<0 then 0 else if Oy (BD K r) (s/4)<0 then 0 else Oy (BD K<|Oy (BD K r)<|s/4)<|t %4):=by grind [Oy,Qv]
  grind
 rw[Bi<|show¬t=s by omega];have e1:Oy (Ba.mk false<|TU K r s) (t/4)=if r<0 then-1 else Oy (BD K r) (t/4):=by grind [Oy,TU]
 rw[e1]
 grind [BH,FN,Ro,JK]
def Mm (n:Nat) (p:Nat->Bool):Nat:=((List.range n).filter p).length
theorem Sz (n:Nat) (p:Nat->Bool):Mm (n+1) p=Mm n p+(if p n=true then 1 else 0):=by grind [DM,Mm]
theorem XD (p q:Nat->Bool):∀n,Mm n (λj=>p j||q j)<=Mm n p+Mm n q
 |0=>by simp[Mm]
 |n+1=>by
  have:=XD p q n
  grind [Sz]
theorem Z0 (x:Int):∀n,Mm n (λj=>decide (x=(j:Int)))<=1/\(x>=(n:Int)->Mm n (λj=>decide (x=(j:Int)))=0)
 |0=>by simp[Mm]
 |n+1=>by
  obtain⟨h1,h2⟩:=Z0 x n
  grind [Sz]
theorem AAf (l:List Int) (n:Nat):Mm n (λj=>l.any λx=>decide (x=(j:Int)))<=l.length:=by
 induction l with
 |nil=>simp[Mm]
 |cons x l ih=>
  simp only[List.any_cons,AD];have:=XD (λj=>decide<|x=(j:Int)) (λj=>l.any λx=>decide<|x=(j:Int)) n;have:=(Z0 x n).1;omega
theorem ABA {n:Nat} {q:Nat->Bool} (h:∀j,j<n->p j=true->q j=true):Mm n p<=Mm n q:=by
 induction n with
 |zero=>simp[Mm]
 |succ n ih=>grind [Sz]
theorem mL {n:Nat} (h:∀j,j<n->p j=true):Mm n p=n:=by
 induction n with
 |zero=>rfl
 |succ n ih=>grind [Sz]
theorem ABw (hK:C7 K=true) (hr:Dh K r=true) (n:Nat):Mm n (N3 K r)<=5:=by
 have h1:=XD (λj=>decide<|r=(j:Int)) (λj=>(BD K r).Kids.any λn=>decide<|n=(j:Int)) n;have h2:=(Z0 r n).1;have h3:=AAf (BD K r).Kids n
 have h4:Mm n (N3 K r)<=Mm n (λj=>decide (r=(j:Int))||(BD K r).Kids.any λn=>decide<|n=(j:Int)):=ABA λj _ h=>by grind [N3]
 rcases BH hr with e|⟨h0,hl,_⟩
 ·have:Mm n (N3 K r)=Mm n (λ_=>false):=by rw[e];rfl
  simp_all;grind
 grind [ES]
theorem XQ (hK:C7 K=true) (n:Nat):∀(R:List Int),(∀r∈R,Dh K r=true)->Mm n (C8 K R)<=5*R.length
 |[],_=>by simp[Mm,C8]
 |r::R,h=>by
  have h1:=XQ hK n R (λx hx=>h x<|by simp[hx]);have h2:=ABw hK (h r<|by simp) n;have h3:=XD (N3 K r) (C8 K R) n;have h4:Mm n (C8 K (r::R))=Mm n (λj=>N3 K r j||C8 K R j):=rfl
  grind
theorem tR (hK:C7 K=true) (hR:∀r∈R,Dh K r=true):(TZ K R).length<=5*R.length:=by
 rw[rJ];exact XQ hK _ R hR
def Bk (s:Store):List Int:=s.Vols.map Vol.Root
structure StoreR (s:Store):Prop where
 len:s.Vols.length<=3
 ar:C7 s.Arena.Knots=true
 nx:1<=s.Next/\s.Next<=1000000000
 ids:∀v∈s.Vols,1<=v.Id/\v.Id<=9
 asc:(s.Vols.map Vol.Id).Pairwise (·<·)
 root:∀r∈Bk s,Dh s.Arena.Knots r=true
 lt:∀r∈Bk s,∀x∈Fc s.Arena.Knots r,x<s.Next
 few:s.Arena.Knots.length<=1000
structure Cj (s:Store):Prop extends StoreR s where
 used:∀i,i<s.Arena.Knots.length->C8 s.Arena.Knots (Bk s) i=true
theorem Cj.small (h:Cj s):s.Arena.Knots.length<=15:=by
 have h1:=XQ h.ar s.Arena.Knots.length (Bk s) h.root;rw[mL h.used]at h1;have:(Bk s).length=s.Vols.length:=by unfold Bk;rw[By]
 have:=h.len;omega
def AT (s:Store):List (Int×List Int):=s.Vols.map λv=>(v.Id,Fc s.Arena.Knots v.Root)
def KF (s:Store):Store:=Store.mk (s.Vols.map λv=>Vol.mk v.Id<|Q7 s.Arena.Knots (Bk s) v.Root) (Arena.mk<|TZ s.Arena.Knots<|Bk s) s.Next
theorem Pv (s:Store):Bk (KF s)=(Bk s).map (Q7 s.Arena.Knots (Bk s)):=by simp[Bk,KF]
theorem rG (h:StoreR s):Cj (KF s):=by
 have b:(Bk s).length=s.Vols.length:=by unfold Bk;rw[By]
 refine⟨⟨by unfold KF;simpa using h.len,ACr h.ar h.root,h.nx,?_,?_,?_,?_,?_⟩,?_⟩
 ·intro v hv;unfold KF at hv;simp only[AB]at hv;obtain⟨w,hw,rfl⟩:=hv;exact h.ids w hw
 ·have:((KF s).Vols.map Vol.Id)=s.Vols.map Vol.Id:=by unfold KF;simp
  rw[this];exact h.asc
 ·intro r hr;rw[Pv]at hr;obtain⟨q,hq,rfl⟩:=AB.1 hr;exact xU h.root hq
 ·intro r hr;rw[Pv]at hr;obtain⟨q,hq,rfl⟩:=AB.1 hr;have:=r7 h.ar h.root hq;intro x hx;have a:x∈Fc s.Arena.Knots q:=by rw[<-this];exact hx
  exact h.lt q hq x a
 ·have:=tR h.ar h.root;have:=h.len;show(TZ s.Arena.Knots<|Bk s).length<=1000;omega
 intro i hi;rw[Pv];exact AAQ h.ar h.root hi
theorem cC (h:StoreR s):AT (KF s)=AT s:=by
 unfold AT;show(s.Vols.map λv=>Vol.mk v.Id<|Q7 s.Arena.Knots (Bk s) v.Root).map _=_;rw[IY];apply Ga;intro v hv;have:=r7 h.ar h.root<|show v.Root∈Bk s from AB.2 ⟨v,hv,rfl⟩;show(v.Id,Fc (TZ s.Arena.Knots<|Bk s)<|Q7 s.Arena.Knots (Bk s) v.Root)=_;rw[this]
theorem SG (s:Store) (hv:s.Vols.length<=1048576):Nc s=some (Bk s):=by
 unfold Nc;obtain⟨b,h1,h2⟩:=AA (body:=λq:List Int×Int=>IF s q.1 q.2) (λ(o:List Int) i=>(o,i)) s.Vols.length (λi o=>o=(s.Vols.take i).map Vol.Root) (λb=>b=Bk s)
  (λo i hi ho=>by
   have hx:=Ab hi;simp only[IF,DL hi,Ap,hx,Aa]
   grind [Bw,ad1,D5])
  (λo ho=>⟨o,by simp[Dx,IF],by rw[ho,AQ<|A3 _];rfl⟩) (s:=[]) rfl
 grind
theorem Lu (h:StoreR s):GP s=some (KF s):=by
 have hl:=h.len;have hf:=h.few;have c:(Bk s).length=s.Vols.length:=by unfold Bk;rw[By]
 unfold GP;rw[SG s<|by omega];simp only[Aa];rw[Yj _ (by omega) h.ar _ (by omega) h.root];rw[Lk<|by omega];simp only[Aa];have q:=Np (body:=λq:Int×List Vol=>IE ((Bk s).map<|Q7 s.Arena.Knots<|Bk s,TZ s.Arena.Knots<|Bk s) q.1 q.2) (λl i=>(i,l)) (λ_ v=>Vol.mk v.Id<|Q7 s.Arena.Knots (Bk s) v.Root) s.Vols
  (λi l x a b d=>by
   have hi:=(Ae.1 b).1;simp only[IE,DL hi]
   grind [Ap,Ew,ad1,Bk])
  (λl a=>by grind [Bh,IE])
 rw[Ir]at q;rw[q];rfl
theorem XV (h:Cj s):KF s=s:=by
 have d:∀i,i<=s.Arena.Knots.length->i9 s.Arena.Knots (Bk s) i=i:=λi hi=>mL λj hj=>h.used j<|by omega
 have b:∀n:Int,n<(s.Arena.Knots.length:Int)->Q7 s.Arena.Knots (Bk s) n=n:=λn hn=>by
  unfold Q7
  grind
 have a:∀r∈Bk s,Q7 s.Arena.Knots (Bk s) r=r:=λr hr=>by
  rcases BH (h.root r hr)with e|⟨h0,h1,_⟩
  ·grind
  exact b r h1
 have c:TZ s.Arena.Knots (Bk s)=s.Arena.Knots:=by
  unfold TZ;rw[Ev.2 λi hi=>h.used i<|by simpa using hi];apply Cm;intro i;rw[F7];by_cases hi:i<s.Arena.Knots.length
  ·rw[List.getElem?_range hi,Ab hi];simp only[Hq];congr 1;have h0:(0:Int)<=(i:Int):=by omega
   have h1:(i:Int)<(s.Arena.Knots.length:Int):=by omega
   unfold XY
   cases hl:(BD s.Arena.Knots (i:Int)).Leaf with
   |true=>
    simp only[Al];rw[<-hl,OK hi]
   |false=>
    simp only[Ad];have:(BD s.Arena.Knots (i:Int)).Kids.map (Q7 s.Arena.Knots<|Bk s)=(BD s.Arena.Knots (i:Int)).Kids:=by
     conv=>rhs;rw[<-TL (BD s.Arena.Knots (i:Int)).Kids]
     apply Ga;intro n hn;obtain⟨q,hq,rfl⟩:=Au hn;obtain⟨h4,hk⟩:=ES h.ar h0 h1;have e5:=(hk q<|by omega).1;rw[Ab hq]at e5
     injection e5 with e5
     rw[e5]
     rcases FN h.ar h0 h1 hl (show q<4 by omega)with k1|⟨k1,k2,k3⟩
     ·grind
     grind
    rw[this,<-hl,OK hi]
  grind
 unfold KF;rw[c];have:(s.Vols.map λv=>Vol.mk v.Id<|Q7 s.Arena.Knots (Bk s) v.Root)=s.Vols:=by
  conv=>rhs;rw[<-TL s.Vols]
  apply Ga;intro v hv;rw[a _<|AB.2 ⟨v,hv,rfl⟩];rfl
 rw[this]
theorem Z5 {s:Nat} (hs:s<16):Q4 K r s∈Fc K r:=AB.2 ⟨s,by simpa using hs,rfl⟩
theorem Rh {l:List Int} {y:Int} (h:l.Pairwise (·<·)) (a:i<j) (hx:l[i]?=some x) (hy:l[j]?=some y):x<y:=by grind [Cc]
theorem QT (h:Cj s):O9 s=some true:=by
 have hl:=h.len;have hf:=h.few;have d:(Bk s).length=s.Vols.length:=by unfold Bk;rw[By]
 unfold O9;rw[Bh,cF,Kb _ (by omega),h.ar,DV,Ac h.nx];obtain⟨b,h1,h2⟩:=AA (body:=λq:Int=>JV s q) (λ(_:Unit) i=>i) s.Vols.length (λ_ _=>True) (λb=>b= .inl ())
  (λ_ i hi _=>by
   have hx:=Ab hi;have hm:s.Vols[i]∈s.Vols:=Ar hi;have hr:s.Vols[i].Root∈Bk s:=AB.2 ⟨_,hm,rfl⟩;simp only[JV,DL hi,Ap,hx,Aa];rw[DV,Ac<|h.ids _ hm,Mz _ (by omega),h.root _ hr];simp only[Aa,An,Ad];have a:(cond (decide<|(i:Int)>0) ((gi s.Vols<|sb (i:Int) 1).bind λx2=>cond (decide<|x2.Id>=s.Vols[i].Id) (some true)<|some false) (some false):Option Bool)=some false:=by
    by_cases h0:i=0
    ·rw[cF]
    rw[cT,BL,show(i:Int)-1=((i-1:Nat):Int) by omega,Ap,Ab<|by omega];simp only[Aa];have:=Rh h.asc (show i-1<i by omega) (x:=s.Vols[i-1].Id) (y:=s.Vols[i].Id) (by grind) (by grind);rw[cF]
   rw[a];obtain⟨c,q1,q2⟩:=AA (body:=λq:Int=>M1 s s.Vols[i] q) (λ(_:Unit) i=>i) 16 (λ_ _=>True) (λb=>b= .inl ())
    (λ_ k hk _=>by
     simp only[M1];rw[cT,Wu _ h.ar (h.root _ hr) hk];simp only[Aa];have:=h.lt _ hr _<|Z5 hk;rw[cF,ad1]
     simp)
    (λ_ _=>⟨_,by rfl,rfl⟩) (s:=()) trivial
   rw[q1,q2];rw[ad1]
   simp)
  (λ_ _=>⟨_,by simp[Dx,JV],rfl⟩) (s:=()) trivial
 rw[h1,h2];simp only[Aa,Df];rw[SG s (by omega),Aa,Yj _ (by omega) h.ar _ (by omega) h.root];have:TZ s.Arena.Knots (Bk s)=s.Arena.Knots:=by
  have:=XV h
  grind [KF]
 rw[this];simp
abbrev Vs:=List<|Int×List Int
def K3 (l:Vs) (id:Int):Option (List Int):=(l.find? λp=>p.1==id).map Prod.snd
def pC (l:Vs) (id:Int) (a:List Int):Vs:=(l.filter λp=>decide<|p.1<id)++ [(id,a)]++l.filter λp=>decide<|p.1>id
def ACS (l:Vs) (id:Int):Vs:=l.filter λp=>p.1 !=id
def tV (l:Vs) (id:Int) (s:Nat) (n:Int):Vs:=l.map λp=>if p.1=id then(p.1,p.2.set s n)else p
def FM (r:Ch):Bool:=decide (0<=r.Arg/\r.Arg<=1000000000)&&(bif r.Kind==1 then r.Vol==0&&r.Chunk==0 else decide (2<=r.Kind/\r.Kind<=5)&&decide (1<=r.Vol/\r.Vol<=9)&&(r.Kind==4||r.Chunk==0)&&
 (bif r.Kind==2 then decide (r.Arg<=9)else bif r.Kind==3 then r.Arg==0 else bif r.Kind==4 then decide (r.Arg<16)&&decide (1<=r.Chunk/\r.Chunk<=1000000000)else decide (r.Arg<16)))
def SD:List Int:=List.replicate 16 0
def CQ (l:Vs) (nx:Int) (r:Ch):Option (Vs×Int):=if FM r=false then none else if r.Kind=1 then some ([],if r.Arg=0 then 1 else r.Arg) else if r.Kind=2 then
  if(0<r.Arg/\K3 l r.Arg=none)\/K3 l r.Vol≠none\/l.length=3 then none else some (pC l r.Vol (if 0<r.Arg then(K3 l r.Arg).getD SD else SD),nx) else if K3 l r.Vol=none\/r.Chunk=1000000000 then none else if r.Kind=3 then some (ACS l r.Vol,nx) else some (tV l r.Vol r.Arg.toNat r.Chunk,max nx<|r.Chunk+1)
theorem MJ (r:Ch):NM r=some (FM r):=by
 unfold NM FM;simp only[DV,Aa]
 grind
theorem Ex (s:Store) (hv:s.Vols.length<=1048576) (id:Int):(CN s id=some (-1)/\∀v∈s.Vols,v.Id≠id)\/∃k:Nat,∃v,CN s id=some (k:Int)/\s.Vols[k]?=some v/\v.Id=id/\∀j w,j<k->s.Vols[j]?=some w->w.Id≠id:=by
 unfold CN;obtain⟨b,h1,h2⟩:=AA (body:=λq:Int=>GQ s id q) (λ(_:Unit) i=>i) s.Vols.length (λi _=>∀j w,j<i->s.Vols[j]?=some w->w.Id≠id)
  (λb=>(b= .inl ()/\∀v∈s.Vols,v.Id≠id)\/∃k:Nat,∃v,b= .inr (k:Int)/\s.Vols[k]?=some v/\v.Id=id/\∀j w,j<k->s.Vols[j]?=some w->w.Id≠id)
  (λ_ i hi hs=>by
   have hx:=Ab hi;simp only[GQ,DL hi,Ap,hx,Aa]
   cases e:(s.Vols[i].Id==id)with
   |true=>grind
   |false=>
    rw[ad1];refine .inl ⟨(),rfl,λj w hj hw=>?_⟩
    grind)
  (λ_ hs=>⟨_,by simp[Dx,GQ],.inl ⟨rfl,λv hv=>by
   obtain⟨j,hj,rfl⟩:=Au hv
   simp_all⟩⟩) (s:=()) (λj w hj=>by omega)
 grind
theorem Lf {id:Int}:(∀v∈s.Vols,v.Id≠id)↔K3 (AT s) id=none:=by
 unfold K3 AT;simp
theorem ABF {w:Vol} (h:(s.Vols.map Vol.Id).Pairwise (·<·)) (hv:v∈s.Vols) (hw:w∈s.Vols) (e:v.Id=w.Id):v=w:=by
 obtain⟨i,hi,rfl⟩:=Au hv;obtain⟨j,hj,rfl⟩:=Au hw;have gi:(s.Vols.map Vol.Id)[i]?=some s.Vols[i].Id:=by grind
 have gj:(s.Vols.map Vol.Id)[j]?=some s.Vols[j].Id:=by grind
 rcases N7 i j with h1|h1|h1
 ·have:=Rh h h1 gi gj;omega
 ·subst h1;rfl
 have:=Rh h h1 gj gi;omega
theorem OP (h:(s.Vols.map Vol.Id).Pairwise (·<·)) (hv:v∈s.Vols):K3 (AT s) v.Id=some (Fc s.Arena.Knots v.Root):=by
 unfold K3;have hm:(v.Id,Fc s.Arena.Knots v.Root)∈AT s:=AB.2 ⟨v,hv,rfl⟩
 cases hf:(AT s).find? λp=>p.1==v.Id with
 |none=>grind
 |some p=>
  have h1:=List.find?_some hf;have h2:=List.mem_of_find?_eq_some hf;obtain⟨w,hw,rfl⟩:=AB.1 h2
  grind [ABF]
theorem IW (s:Store):(AT s).length=s.Vols.length:=by unfold AT;rw[By]
theorem kK (K:Ks):Fc K (-1)=SD:=by rfl
theorem qF (s:Store) (p:Int->Bool) (t:Store) (hk:t.Arena=s.Arena) (hv:t.Vols=s.Vols.filter λv=>p v.Id):AT t=(AT s).filter λq=>p q.1:=by
 unfold AT;rw[hk,hv,List.filter_map];rfl
theorem Sh {body:List Vol×Int->Option ((List Vol×Int)⊕List Vol)} (l:List Vol) (p:Vol->Bool) (o:List Vol) (hM:l.length+o.length<=1048576) (h1:∀(i:Nat) v (a:List Vol),l[i]?=some v->a.length<=1048576->body (a,(i:Int))=some (.inl (bif p v then a++ [v]else a,((i+1:Nat):Int)))) (h2:∀a,body (a,(l.length:Int))=some (.inr a)):
  Ai body (o,0)=some (o++l.filter p):=by
 obtain⟨b,h3,h4⟩:=AA (body:=body) (λ(q:List Vol) i=>(q,i)) l.length (λi q=>q=o++(l.take i).filter p) (λb=>b=o++l.filter p)
  (λq i hi hq=>by grind [D5])
  (λq hq=>⟨q,h2 q,by grind⟩) (s:=o) (by simp)
 rw[h3,h4]
theorem zQ {R':List Int} (h:∀r∈R,r∈R') (hu:C8 K R i=true):C8 K R' i=true:=by grind [C8]
theorem Yc {l:List Vol} (h:(l.map Vol.Id).Pairwise (·<·)) (v:Vol):(((l.filter λw=>decide (w.Id<v.Id))++ [v]++l.filter λw=>decide (w.Id>v.Id)).map Vol.Id).Pairwise (·<·):=by simp_all [Bc];grind
theorem cJ (l:List Vol) (id:Int):(l.filter λw=>decide (w.Id<id)).length+(l.filter λw=>decide (w.Id>id)).length<=l.length:=by
 induction l with
 |nil=>simp
 |cons v l ih=>grind
def Lx (s:Store) (r:Ch) (o:Option (Store×Bool)):Prop:=match CQ (AT s) s.Next r with
 |none=>o=some (s,false)
 |some (l,nx)=>∃t,o=some (t,true)/\Cj t/\AT t=l/\t.Next=nx
theorem vB {r:Ch} (h:Cj s) (hr:FM r=true) (hk:r.Kind=2):Lx s r (FD s r):=by
 have hl:=h.len;have d:=Ky h.ar (by have:=h.few;omega);have b:=FG s d (by omega);have hb:FM r=true:=hr;unfold FM at hr;rw[hk]at hr;simp at hr;unfold Lx CQ;rw[hb,hk];simp only[Bool.true_eq_false,pD,CC,show¬((2:Int)=1) by omega];unfold FD;have root:(K3 (AT s) r.Arg=none/\0<r.Arg/\(cond (decide<|r.Arg>0) ((CN s r.Arg).bind λv1=>cond (decide<|v1<0) ((DF s).bind λv2=>some<|.inr (v2,false))<|(gi s.Vols v1).bind λx1=>some<|.inl x1.Root) (some<|.inl<|-1):Option (Int⊕(Store×Bool)))=some (.inr (s,false)))\/
   (¬(0<r.Arg/\K3 (AT s) r.Arg=none)/\∃q,Dh s.Arena.Knots q=true/\(q= -1\/q∈Bk s)/\Fc s.Arena.Knots q=(if 0<r.Arg then(K3 (AT s) r.Arg).getD SD else SD)/\(cond (decide<|r.Arg>0) ((CN s r.Arg).bind λv1=>cond (decide<|v1<0) ((DF s).bind λv2=>some<|.inr (v2,false))<|(gi s.Vols v1).bind λx1=>some<|.inl x1.Root) (some<|.inl<|-1):Option (Int⊕(Store×Bool)))=some (.inl q)):=by
  by_cases h0:0<r.Arg
  ·rw[Ac (by omega:r.Arg>0)]
   rcases Ex s (by omega) r.Arg with⟨h1,h2⟩|⟨k,v,h1,h2,h3,_⟩
   ·grind [Lf]
   right;rw[h1];have hm:=Ao h2;have hg:=OP h.asc hm;refine⟨λhh=>(by grind),v.Root,h.root _<|AB.2 ⟨v,hm,rfl⟩,.inr<|AB.2 ⟨v,hm,rfl⟩,?_,?_⟩
   ·grind
   grind [Ap]
  right;rw[Ah (by omega:¬r.Arg>0),Bi h0];exact⟨λhh=>h0 hh.1,-1,rfl,.inl rfl,kK _,rfl⟩
 rcases root with⟨g1,g2,g3⟩|⟨g1,q,g2,g3,g4,g5⟩
 ·grind
 rw[g5];simp only[Aa,Df]
 rcases Ex s (by omega) r.Vol with⟨h1,h2⟩|⟨k,v,h1,h2,h3,_⟩
 ·rw[h1];rw[Aa,cF,Bh];have j:K3 (AT s) r.Vol=none:=Lf.1 h2;by_cases h3:s.Vols.length=3
  ·grind [IW]
  have e3:((s.Vols.length:Int)==3)=false:=by simp;omega
  rw[e3,Bi<|by grind [IW]];rw[b];have k1:=Sh (body:=λq:List Vol×Int=>GD s r q.1 q.2) s.Vols (λv=>decide<|v.Id<r.Vol) [] (by simp;omega)
   (λi v c hv ho=>by
    have hi:=(Ae.1 hv).1;simp only[GD,DL hi,Ap,hv,Aa]
    grind [ad1,Bw])
   (λc=>by simp[Dx,GD])
  rw[A5]at k1;rw[k1];simp only[Aa];have l:=cJ s.Vols r.Vol;rw[Bw (by simp;omega)];simp only[Aa];have k2:=Sh (body:=λq:List Vol×Int=>GC s r q.1 q.2) s.Vols (λv=>decide<|v.Id>r.Vol) ((s.Vols.filter λv=>decide<|v.Id<r.Vol)++ [Vol.mk r.Vol q]) (by simp;omega)
   (λi v c hv ho=>by
    have hi:=(Ae.1 hv).1;simp only[GC,DL hi,Ap,hv,Aa]
    grind [ad1,Bw])
   (λc=>by simp[Dx,GC])
  rw[k2];have f:((s.Vols.filter λv=>decide<|v.Id<r.Vol)++ [Vol.mk r.Vol q]++s.Vols.filter λv=>decide<|v.Id>r.Vol).length<=3:=by grind
  have g:∀x∈Bk s,x∈(Bk<|Store.mk ((s.Vols.filter λv=>decide<|v.Id<r.Vol)++ [Vol.mk r.Vol q]++s.Vols.filter λv=>decide<|v.Id>r.Vol) s.Arena s.Next):=by
   intro x hx;obtain⟨v,hv,rfl⟩:=AB.1 hx;refine AB.2 ⟨v,?_,rfl⟩
   grind
  have a:∀x∈(Bk<|Store.mk ((s.Vols.filter λv=>decide<|v.Id<r.Vol)++ [Vol.mk r.Vol q]++s.Vols.filter λv=>decide<|v.Id>r.Vol) s.Arena s.Next),x= -1\/x∈Bk s:=by
   intro x hx;obtain⟨v,hv,rfl⟩:=AB.1 hx;simp only[Az,AG,B8]at hv
   rcases hv with(hv|rfl)|hv
   ·exact .inr<|AB.2 ⟨v,hv.1,rfl⟩
   ·exact g3
   exact .inr<|AB.2 ⟨v,hv.1,rfl⟩
  refine⟨_,rfl,⟨⟨f,h.ar,h.nx,?_,Yc h.asc<|Vol.mk r.Vol q,?_,?_,h.few⟩,?_⟩,?_,rfl⟩
  ·intro v hv;simp only[Az,AG,B8]at hv
   rcases hv with(hv|rfl)|hv
   ·exact h.ids v hv.1
   ·grind
   exact h.ids v hv.1
  ·intro x hx
   rcases a x hx with e|e
   ·rw[e];rfl
   exact h.root x e
  ·intro x hx
   rcases a x hx with e|e
   ·intro y hy;rw[e]at hy;rw[kK]at hy;have:=EW hy;have:=h.nx
    grind
   exact h.lt x e
  ·intro i hi;exact zQ g<|h.used i hi
  rw[<-g4];unfold pC AT;simp only[Jp,CJ,List.map_nil,List.filter_map];rfl
 rw[h1];have hg:=OP h.asc<|Ao h2
 grind
theorem SQ {f:α->Int} {v:α} (h:(l.map f).Pairwise (·<·)) (hv:l[k]?=some v):l.take k++l.drop (k+1)=l.filter λw=>f w !=f v:=by
 rw[List.pairwise_map]at h;have hk:=(Ae.1 hv).1;have e:l=l.take k++v::l.drop (k+1):=by grind [AE,Cs]
 rw[e,Bc]at h;obtain⟨h1,h2,h3⟩:=h;rw[Ca]at h2
 conv=>rhs;rw[e]
 rw[Cb,I4<|by simp]
 grind [Ev]
theorem AAa (h:Cj s) (id:Int):StoreR (Store.mk (s.Vols.filter λw=>w.Id !=id) s.Arena s.Next):=by
 have hl:=h.len;refine⟨?_,h.ar,h.nx,λv hv=>h.ids v (AG.1 hv).1,?_,?_,?_,h.few⟩
 ·grind
 ·have:=h.asc
  grind
 ·intro x hx;obtain⟨w,hw,rfl⟩:=AB.1 hx;exact h.root _<|AB.2 ⟨w,(AG.1 hw).1,rfl⟩
 intro x hx;obtain⟨w,hw,rfl⟩:=AB.1 hx;exact h.lt _<|AB.2 ⟨w,(AG.1 hw).1,rfl⟩
theorem AB4 {t:Nat} (h:Cj s) (h2:s.Vols[k]?=some v) (ht:t<16) (hn:0<=n) (e:n+1<=1000000000):StoreR (Store.mk (s.Vols.set k (Vol.mk v.Id ((s.Arena.Knots.length:Int)+1))) (Arena.mk (JK s.Arena.Knots v.Root t n)) (max s.Next (n+1))):=by
 have hl:=h.len;have hm:=Ao h2;have a:=h.root _<|AB.2 ⟨v,hm,rfl⟩;have f:=h.small
 have b:∀w∈s.Vols.set k (Vol.mk v.Id<|(s.Arena.Knots.length:Int)+1),w∈s.Vols\/w=Vol.mk v.Id ((s.Arena.Knots.length:Int)+1):=λw hw=>Cx hw
 refine⟨by simpa using hl,ACB h.ar a ht hn,?_,?_,?_,?_,?_,?_⟩
 ·have:=h.nx
  grind
 ·intro w hw
  rcases b w hw with hw|rfl
  ·exact h.ids w hw
  exact h.ids v hm
 ·have:(s.Vols.set k<|Vol.mk v.Id<|(s.Arena.Knots.length:Int)+1).map Vol.Id=s.Vols.map Vol.Id:=by
   rw[List.map_set];apply Cm
   grind
  rw[this];exact h.asc
 ·intro x hx;obtain⟨w,hw,rfl⟩:=AB.1 hx
  rcases b w hw with hw|rfl
  ·exact xH<|h.root _<|AB.2 ⟨w,hw,rfl⟩
  exact uE
 ·intro x hx y hy;obtain⟨w,hw,rfl⟩:=AB.1 hx;show y<max s.Next (n+1)
  rcases b w hw with hw|rfl
  ·have d:=h.root _<|AB.2 ⟨w,hw,rfl⟩;have c:y∈Fc s.Arena.Knots w.Root:=by rw[<-rX (X:=[Ba.mk true<|Qv s.Arena.Knots v.Root t n,Ba.mk false<|TU s.Arena.Knots v.Root t]) h.ar d];exact hy
   have:=h.lt _ (AB.2 ⟨w,hw,rfl⟩) y c;omega
  have c:y∈(Fc s.Arena.Knots v.Root).set t n:=by rw[<-sE (s:=t) (n:=n) h.ar a (by omega)];exact hy
  rcases Cx c with c|rfl
  ·have:=h.lt _ (AB.2 ⟨v,hm,rfl⟩) y c;omega
  omega
 grind [JK]
theorem Zu (h:Cj s) (r:Ch):Lx s r (RY s r):=by
 have hl:=h.len;have d:=Ky h.ar (by have:=h.few;omega);have c:=FG s d (by omega);unfold RY;rw[QT h,MJ];simp only[Aa,An,Ad]
 cases hb:FM r with
 |false=>grind [Lx,CQ]
 |true=>
  have hr:=hb;unfold FM at hr
  cases k1:(r.Kind==1)with
  |true=>
   have e1:r.Kind=1:=by simpa using k1
   rw[e1]at hr;simp at hr;unfold Lx CQ;rw[hb,e1];have:(cond (r.Arg==0) (some 1) (some r.Arg):Option Int)=some (if r.Arg=0 then 1 else r.Arg):=by grind
   rw[this];refine⟨_,rfl,⟨⟨by simp,rfl,?_,by simp,by simp,by simp[Bk],by simp[Bk],by simp⟩,by simp⟩,rfl,rfl⟩
   grind
  |false=>
   have n1:r.Kind≠1:=by simpa using k1
   rw[k1]at hr
   cases k2:(r.Kind==2)with
   |true=>
    have:=vB h hb (by simpa using k2);have e:((FD s r).bind λv4=>some (v4.1,v4.2))=FD s r:=by cases FD s r<;>rfl
    grind
   |false=>
    have n2:r.Kind≠2:=by simpa using k2
    unfold Lx CQ;rw[hb];simp only[Bool.true_eq_false,pD,Bi n1,Bi n2]
    rcases Ex s (by omega) r.Vol with⟨h1,h2⟩|⟨k,v,h1,h2,h3,_⟩
    ·grind [Lf]
    rw[h1];simp only[Aa];rw[cF];simp only[Aa];have hm:=Ao h2;have f:=(Ae.1 h2).1;have hg:=OP h.asc hm
    cases hc:(r.Chunk==1000000000)with
    |true=>grind
    |false=>
     have n:r.Chunk≠1000000000:=by simpa using hc
     rw[Bi (by grind),c];simp only[Aa]
     cases k3:(r.Kind==3)with
     |true=>
      have e3:r.Kind=3:=by simpa using k3
      rw[BE e3];rw[Bh,ad1];have d1:dr s.Vols 0 (k:Int)=some (s.Vols.take k):=by grind [dr]
      have d2:dr s.Vols ((k+1:Nat):Int) (s.Vols.length:Int)=some (s.Vols.drop<|k+1):=by grind [AQ,dr]
      rw[d1,d2];simp only[Aa];rw[Lk (by simp;omega)];simp only[Aa];rw[Bw (by simp;omega),SQ h.asc h2,h3];simp only[Aa];have hR:=AAa h r.Vol;rw[Lu hR];refine⟨_,rfl,rG hR,?_,rfl⟩;rw[cC hR];exact qF s (λid=>id !=r.Vol) _ rfl rfl
     |false=>
      have n3:r.Kind≠3:=by simpa using k3
      rw[Bi n3];have ha:0<=r.Arg/\r.Arg<16/\0<=r.Chunk/\r.Chunk<=1000000000:=by grind
      obtain⟨t,ht⟩:∃t:Nat,r.Arg=(t:Int):=⟨_,(AR ha.1).symm⟩;rw[Ap,h2];simp only[Aa];have a:=h.root _<|AB.2 ⟨v,hm,rfl⟩;rw[ht,Yl _ (by have:=h.few;omega) h.ar a (by omega) ha.2.2.1];simp only[Aa];rw[Ew];have hR:=AB4 h h2 (show t<16 by omega) ha.2.2.1 (show r.Chunk+1<=1000000000 by omega);have m:AT (Store.mk (s.Vols.set k<|Vol.mk v.Id<|(s.Arena.Knots.length:Int)+1) (Arena.mk<|JK s.Arena.Knots v.Root t r.Chunk)<|max s.Next<|r.Chunk+1)=tV (AT s) r.Vol t r.Chunk:=by
       unfold AT tV;simp only[IY];apply Cm;intro j;rw[F7,F7,List.getElem?_set];by_cases e:k=j
       ·subst e;rw[BE rfl,BE f,h2];simp only[Hq,Function.comp];rw[BE h3,sE h.ar a<|by omega]
       rw[Bi e]
       cases hj:s.Vols[j]? with
       |none=>rfl
       |some w=>
        have g:=Ao hj;have i:w.Id≠r.Vol:=by
         intro e2;have gi:(s.Vols.map Vol.Id)[k]?=some v.Id:=by grind
         have gj:(s.Vols.map Vol.Id)[j]?=some w.Id:=by grind
         rcases N7 k j with q|q|q
         ·have:=Rh h.asc q gi gj;omega
         ·exact e q
         grind
        simp only[Hq,Function.comp];rw[Bi i];have:=rX (X:=[Ba.mk true<|Qv s.Arena.Knots v.Root t r.Chunk,Ba.mk false<|TU s.Arena.Knots v.Root t]) h.ar<|h.root _<|AB.2 ⟨w,g,rfl⟩
        grind [JK]
      have l:∀b:Bool,b=decide (r.Chunk>=s.Next)->(cond b ((GP<|Store.mk (s.Vols.set k<|Vol.mk v.Id<|(s.Arena.Knots.length:Int)+1) (Arena.mk<|JK s.Arena.Knots v.Root t r.Chunk)<|ad r.Chunk 1).bind λv11=>some (v11,true))<|(GP<|Store.mk (s.Vols.set k<|Vol.mk v.Id<|(s.Arena.Knots.length:Int)+1) (Arena.mk<|JK s.Arena.Knots v.Root t r.Chunk) s.Next).bind λv12=>some (v12,true))=(GP<|Store.mk (s.Vols.set k<|Vol.mk v.Id<|(s.Arena.Knots.length:Int)+1) (Arena.mk<|JK s.Arena.Knots v.Root t r.Chunk)<|max s.Next<|r.Chunk+1).bind λv=>some (v,true):=by grind [BZ]
      rw[l _ rfl,Lu hR];refine⟨_,rfl,rG hR,?_,rfl⟩
      grind [cC]
theorem zA (s:ByteArray) (f a:Int):Nf s f a=Ai (λn:Int=>FO s a f n) 0:=by
 show(Ai (λn:Int=>FO s a f n) 0).bind _=_;simp
theorem y9 (s:ByteArray) (f a:Nat) (hf:f<a) (ha:a<=(L s).length) (hs:(L s).length<=64):∃k:Nat,Ai (λn:Int=>FO s (a:Int) (f:Int) n) 0=some (k:Int)/\k<=31/\a+k<=(L s).length:=by
 obtain⟨b,h1,k,rfl,h2,h3⟩:=AA (body:=λn:Int=>FO s (a:Int) (f:Int) n) (λ(_:Unit) i=>i) 31 (λi _=>a+i<=(L s).length) (λb=>∃k:Nat,b=(k:Int)/\k<=31/\a+k<=(L s).length)
  (λ_ i hi hs=>by
   simp only[FO];rw[cT,BZ,BZ,Bo];by_cases c:a+i<(L s).length
   ·rw[cT];have e1:((f:Int)+(i:Int))=((f+i:Nat):Int):=by omega
    have e2:((a:Int)+(i:Int))=((a+i:Nat):Int):=by omega
    rw[e1,e2,E8 s (by omega),E8 s c];simp only[Aa]
    cases((((L s)[f+i]).toNat:Int)==(((L s)[a+i]).toNat:Int))with
    |true=>
     rw[ad1];exact .inl ⟨(),rfl,by omega⟩
    |false=>grind
   grind)
  (λ_ hs=>by
   simp only[FO];rw[cF]
   exact⟨_,rfl,31,rfl,by omega,hs⟩) (s:=()) (by omega)
 grind
theorem o8 (s:ByteArray) (a:Nat) (ha:a<=(L s).length) (hs:(L s).length<=64):∃z b:Nat,Sj s (a:Int)=some ((z:Int),(b:Int))/\Ai (λq:Int×Int×Int=>DY s (a:Int) q.1 q.2.1 q.2.2) (0,0,sb (a:Int) 1)=some ((z:Int),(b:Int))/\z<=31/\a+z<=(L s).length/\(z=0\/4<=z/\1<=b/\b<=a):=by
 have c:(λq:Int×Int×Int=>DY s (a:Int) q.1 q.2.1 q.2.2)=λq:Int×Int×Int=>GW s (a:Int) q.1 q.2.1 q.2.2:=by grind [zA,DY,GW]
 rw[c,BL];obtain⟨r,h1,z,b,rfl,h2,h3,h4⟩:=AA (body:=λq:Int×Int×Int=>GW s (a:Int) q.1 q.2.1 q.2.2) (λ(q:Nat×Nat) i=>((q.1:Int),(q.2:Int),(a:Int)-1-i)) a (λi q=>q.1<=31/\a+q.1<=(L s).length/\(q.1=0\/4<=q.1/\1<=q.2/\q.2<=a)) (λr=>∃z b:Nat,r=((z:Int),(b:Int))/\z<=31/\a+z<=(L s).length/\(z=0\/4<=z/\1<=b/\b<=a))
  (λq i hi hq=>by
   obtain⟨k,m1,m2,m3⟩:=y9 s (a-1-i) a (by omega) ha hs;have e1:((a:Int)-1-(i:Int))=((a-1-i:Nat):Int):=by omega
   simp only[GW,e1];rw[Ac (by omega:(((a-1-i:Nat)):Int)>=0),Al,m1,Aa,BL,BL];refine .inl ?_;have e2:(((a-1-i:Nat):Int)-1)=(a:Int)-1-((i+1:Nat):Int):=by omega
   have e3:((a:Int)-((a-1-i:Nat):Int))=((1+i:Nat):Int):=by omega
   rw[e2,e3];by_cases h4:4<=k
   ·rw[cT];by_cases h5:q.1<k
    ·rw[Ac (by omega:(k:Int)>(q.1:Int))];exact⟨(k,1+i),rfl,m2,m3,.inr ⟨h4,by omega,by omega⟩⟩
    grind
   grind)
  (λq hq=>by
   simp only[GW]
   grind) (s:=(0,0)) ⟨by omega,by omega,.inl rfl⟩
 grind [BL,Sj]
def TX (t:AL):Prop:=(t.Back=0/\t.Size=0/\1<=(L t.Text).length/\(L t.Text).length<=31)\/(1<=t.Back/\t.Back<=64/\4<=t.Size/\t.Size<=31/\L t.Text=[])
theorem EI (l:List α) (x:α):gi (l++ [x]) (l.length:Int)=some x:=by
 rw[Ap];simp
theorem Ju (l:List α) (x y:α):si (l++ [x]) (l.length:Int) y=l++ [y]:=by
 rw[Ew];simp
theorem m7 (s:ByteArray) (hs:(L s).length<=64):∃l,KQ s=some l/\PG s=some l/\l.length<=64/\∀t∈l,TX t:=by
 unfold KQ PG;obtain⟨l,h1,h2,h3,h4⟩:=Se (body:=λq:List AL×Int=>Cq s q.1 q.2) (body':=λq:List AL×Int=>L3 s q.1 q.2) (λq=>(L s).length-q.2.toNat)
  (λq=>∃a:Nat,q.2=(a:Int)/\a<=(L s).length/\q.1.length<=a/\∀t∈q.1,TX t) (λl=>l.length<=64/\∀t∈l,TX t)
  (by
   rintro⟨f,at_⟩ ⟨a,ha,h1,h2,h3⟩;simp only at ha h2 h3;subst ha;simp only[Cq,L3];rw[Bo];by_cases i:a<(L s).length
   ·rw[Ac (by omega:(a:Int)<((L s).length:Int)),Al,Al];obtain⟨z,b,m1,m2,m3,m4,m5⟩:=o8 s a h1 hs;rw[m1,m2];simp only[Aa]
    have c:∀x:AL,ap 32 f [x]=some (f++ [x]):=λx=>Bw<|by grind
    refine .inl ?_;by_cases hz:z=0
    ·subst hz;have esub:sub s (a:Int) (ad (a:Int) 1)=some (s.extract a<|a+1):=by rw[ad1];exact Gf s (by omega) (by omega)
     have elen:(L<|s.extract a<|a+1).length=1:=by grind [K1]
     rw[esub,ad1,BL (by rw[Bh];omega) (by rw[Bh];omega),Bh]
     have ecat:∀x:ByteArray,(L x).length<=31->H3 x (s.extract a<|a+1)=some (x++s.extract a (a+1)):=λx hx=>G0 _ _ (by rw[elen];omega)
     have e0:H3 (bs []) (s.extract a<|a+1)=some (s.extract a<|a+1):=by
      rw[ecat _ (by rw[DH];simp)];rfl
     have enew:TX (AL.mk 0 0<|s.extract a<|a+1):= .inl ⟨rfl,rfl,by grind,by grind⟩
     have d:∀(o:List AL) (x:AL),(∀t∈o,TX t)->TX x->∀t∈o++ [x],TX t:=λo x ho hx t ht=>by grind
     have fin:∀o:List AL,o.length<=a+1->(∀t∈o,TX t)->(∃a':Nat,((a+1:Nat):Int)=(a':Int)/\a'<=(L s).length/\o.length<=a'/\∀t∈o,TX t)/\(L s).length-(((a+1:Nat)):Int).toNat<(L s).length-((a:Int)).toNat:=λo g h=>⟨⟨a+1,rfl,by omega,g,h⟩,by omega⟩
     rcases GM f with rfl|⟨o,x,rfl⟩
     ·simp only[Jq,Int.ofNat_zero,Int.zero_sub];rw[Ac (by omega:(-1:Int)<0),Ah (by omega:¬(-1:Int)>=0)];simp only[Al,Ad,Aa,c];rw[show ad (-1) 1=(([]:List AL).length:Int)from rfl];simp only[EI,Aa,e0,Ju];exact⟨_,rfl,rfl,fin _ (by simp)<|d _ _ (by simp) enew⟩
     rw[JN]at h2 h3 c⊢;simp only[A9,Db]at h2⊢;have ek:(((o.length+1:Nat):Int)-1)=(o.length:Int):=by omega
     rw[ek,Ah (by omega:¬(o.length:Int)<0),Ac (by omega:(o.length:Int)>=0)];simp only[Al,Ad,EI,Aa];have hx:=h3 x (by simp);have e:=d (o++ [x]) _ h3 enew;have elast:ad (o.length:Int) 1=((o++ [x]).length:Int):=by rw[ad1];simp
     rcases hx with⟨x1,x2,x3,x4⟩|⟨x1,x2,x3,x4,x5⟩
     ·rw[x1];simp only[show((0:Int)==0)=true from rfl,Al,show decide ((0:Int)>0)=false from rfl,Ad];rw[Bo];by_cases h31:(L x.Text).length<31
      ·rw[Ac (by omega:((L x.Text).length:Int)<31),Ah (by omega:¬((L x.Text).length:Int)>=31)];simp only[Al,Ad,Aa,EI,ecat _ x4,Ju];simp only[x1];refine⟨_,rfl,rfl,fin _ (by simp;omega)<|d _ _ (λt ht=>h3 t<|by simp[ht])<|.inl ⟨rfl,x2,?_,?_⟩⟩
       ·grind [GN]
       grind [GN]
      rw[Ah (by omega:¬((L x.Text).length:Int)<31),Ac (by omega:((L x.Text).length:Int)>=31)];simp only[Al,Ad,Aa,c,elast,EI,e0,Ju];exact⟨_,rfl,rfl,fin _ (by simp;omega) e⟩
     have hb:(x.Back==0)=false:=by simp;omega
     rw[hb,Ac (by omega:x.Back>0)];simp only[Al,Ad,Aa,c,elast,EI,e0,Ju];exact⟨_,rfl,rfl,fin _ (by simp;omega) e⟩
    rw[Ac (by omega:(z:Int)>0),Al,Al,c];rw[BZ];refine⟨_,rfl,rfl,⟨a+z,by simp,by omega,by simp;omega,?_⟩,by simp only;omega⟩;intro t ht
    rcases Az.1 ht with ht|ht
    ·exact h3 t ht
    rw[B8]at ht;subst ht;refine .inr ⟨?_,?_,?_,?_,by rfl⟩<;>simp only<;>omega
   grind) ((L s).length) ([],0) (by simp) ⟨0,rfl,by omega,by simp,by simp⟩
 grind
theorem Ya (l m:List Int):L (EZ (l++m))=L (EZ l)++L (EZ m):=by grind [N2]
theorem QL (l:List Int):(L (EZ l)).length=l.length:=by rw[N2,By]
theorem wG (b:ByteArray):L (EZ (tW b))=L b:=by
 rw[N2,tW,IY];have:((λn:Int=>UInt8.ofNat n.toNat)∘λc:UInt8=>(c.toNat:Int))=id:=by
  funext c;simp
 rw[this,TL];rfl
theorem AAo (l:List Int) (b:ByteArray):aps l b=ap 1 l (tW b):=by simp[tW,aps,ap]
theorem fA (b:ByteArray):(tW b).length=(L b).length:=by simp[tW,L]
theorem WV (s:ByteArray):∃z ok,Ey s=some (z,ok)/\Ld s=some (z,ok)/\(ok=false->z=bs [])/\(ok=true->(L s).length<=64/\((L z)[0]?=some 122\/(L z)[0]?=some 114)):=by
 unfold Ey Ld;rw[Bo];by_cases hs:(L s).length<=64
 ·rw[Ah (by omega:¬((L s).length:Int)>64),Ad,Ad];obtain⟨l,t1,t2,t3,t4⟩:=m7 s hs;rw[t1,t2];simp only[Aa];obtain⟨z,v,h1,h2,rfl,h3,h4⟩:=dR (body:=λq:ByteArray×Int=>EF l q.1 q.2) (body':=λq:List Int×Int=>IP l q.1 q.2) (λv i=>(EZ v,i)) (λv i=>(v,i)) l.length (λi v=>v.length<=1+33*i/\(L<|EZ v)[0]?=some 122) (λz v=>z=EZ v/\v.length<=4000/\(L<|EZ v)[0]?=some 122)
   (λv i hi hv=>by
    have hg:l[i]?=some l[i]:=Ab hi;have ht:=t4 _<|Ar hi;refine .inl ?_;simp only[EF,IP,JB,Ac hi,Al,Ap,hg,Aa]
    have b:∀(a:ByteArray) (m:List Int),(L a).length<=4000->m.length<=2->H3 a (EZ m)=some (a++EZ m):=λa m h1 h2=>G0 _ _ (by rw[QL];omega)
    have h0:∀m:List Int,(L<|EZ<|v++m)[0]?=some 122:=λm=>by grind [Ya]
    rcases ht with⟨x1,x2,x3,x4⟩|⟨x1,x2,x3,x4,x5⟩
    ·rw[x1];simp only[show((0:Int)==0)=true from rfl,Al,show decide ((0:Int)>0)=false from rfl,Ad];rw[b _ _ (by rw[QL];omega) (by simp),Bw<|by grind];simp only[Aa];rw[G0 _ _ (by grind [GN,QL]),AAo,Bw (by rw[fA];grind)]
     grind [ad1,JJ,GN,Ya,wG,fA]
    have hb:(l[i].Back==0)=false:=by simp;omega
    rw[hb,Ac (by omega:l[i].Back>0)];simp only[Al,Ad];rw[b _ _ (by rw[QL];omega) (by simp),Bw<|by grind];simp only[Aa];rw[ad1<|by omega];refine⟨v++ [IntKind.u8.wrap<|ad 128 l[i].Size,IntKind.u8.wrap l[i].Back],?_,rfl,?_,h0 _⟩
    ·grind [JJ,GN,Ya]
    grind)
   (λv hv=>⟨_,_,by grind [JB,EF],by grind [JB,IP],rfl,by omega,hv.2⟩) (s:=[122]) ⟨by simp,by rw[N2];rfl⟩
  have e0:(EZ [122],(0:Int))=(bs [122],(0:Int)):=by rfl
  simp only[e0]at h1;rw[h1,h2];simp only[Aa];rw[Bo,QL,Bh,BZ (by omega)<|by omega];by_cases hc:((L s).length:Int)+1<=(v.length:Int)
  ·rw[Ac hc,Al,G0 _ _ (by rw[DH];grind)];refine⟨_,true,rfl,rfl,by simp,λ_=>⟨hs,.inr ?_⟩⟩;rfl
  simp_all [Ah]
 simp_all;grind
def QI (t:AL):Prop:=(t.Back=0/\t.Size=0/\1<=(L t.Text).length/\(L t.Text).length<=31)\/(t.Back≠0/\1<=t.Size/\t.Size<=31/\L t.Text=[])
theorem iU:OO=Gr:=by grind [Zt,Qx,AAo,OO,Gr,PO,Eb,ln,PN,D9]
theorem Qp (l:List AL) (hl:l.length<=1048576):∃p ok,Gr l=some (p,ok)/\(ok=true->∀t∈l,QI t):=by
 unfold Gr;obtain⟨r,h1,h2⟩:=AA (body:=λq:List Int×Int=>Eb l q.1 q.2) (λ(o:List Int) i=>(o,i)) l.length (λi o=>o.length<=64/\∀(j:Nat) t,j<i->l[j]?=some t->QI t) (λr=>(∃o,r= .inl o/\∀t∈l,QI t)\/r= .inr (bs [],false))
  (λo i hi ho=>by
   have hg:l[i]?=some l[i]:=Ab hi;simp only[Eb,DL hi,Ap,hg,Aa,Qx];have good:∀(o':List Int),QI l[i]->(∃s',(some (.inl o':(List Int)⊕(List Int×Int)⊕(List Int)⊕(ByteArray×Bool))).bind (Sum.elim (λj1=>cond (decide<|(ln j1)>64) (some<|.inr<|.inr (bs [],false))<|some<|.inl (j1,ad (i:Int) 1)) some)=some (.inl (s',((i+1:Nat):Int)))/\s'.length<=64/\∀(j:Nat) t,j<i+1->l[j]?=some t->QI t)\/∃b,(some (.inl o':(List Int)⊕(List Int×Int)⊕(List Int)⊕(ByteArray×Bool))).bind (Sum.elim (λj1=>cond (decide<|(ln j1)>64) (some<|.inr<|.inr (bs [],false))<|some<|.inl (j1,ad (i:Int) 1)) some)=some (.inr b)/\((∃o,b= .inl o/\∀t∈l,QI t)\/b= .inr (bs [],false)):=by grind [Bh,ad1]
   by_cases hb:l[i].Back=0
   ·rw[hb];rw[Bo];by_cases hx:(1<=(L l[i].Text).length/\(L l[i].Text).length<=31)/\l[i].Size=0
    ·obtain⟨⟨c,d⟩,a⟩:=hx;rw[Ac (by omega:(1:Int)<=((L l[i].Text).length:Int)),Ac (by omega:((L l[i].Text).length:Int)<=31),a];rw[Bw (by rw[fA];omega)];exact good _<|.inl ⟨hb,a,c,d⟩
    grind
   have hb':(l[i].Back==0)=false:=by simpa using hb
   rw[hb'];rw[Bh,Qu,DH];by_cases hx:(1<=l[i].Back/\l[i].Back<=(o.length:Int))/\(1<=l[i].Size/\l[i].Size<=31)/\L l[i].Text=[]
   ·obtain⟨⟨y1,y2⟩,⟨y3,y4⟩,y5⟩:=hx;rw[Ac y1,Ac y2,Ac y3,Ac y4,Ac y5];obtain⟨o',q1,q2⟩:=AA (body:=λq:List Int×Int=>D9 l[i] q.1 q.2) (λ(o:List Int) k=>(o,k)) l[i].Size.toNat (λk u=>u.length=o.length+k) (λ_=>True)
     (λu k hk hu=>by grind [BL,Bh,K9,Bw,ad1,D9])
     (λu hu=>⟨u,by grind [D9],trivial⟩) (s:=o) (by omega)
    rw[q1];exact good _<|.inr ⟨hb,y3,y4,y5⟩
   grind)
  (λo ho=>⟨_,by simp[Dx,Eb],.inl ⟨o,rfl,λt ht=>by
   obtain⟨j,hj,rfl⟩:=Au ht
   simp_all⟩⟩) (s:=[]) ⟨by simp,λj t hj=>by omega⟩
 grind
theorem Xk (c:UInt8):IntKind.i64.wrap (c.toNat:Int)=(c.toNat:Int):=O0 (by omega) (by have:=c.toNat_lt;omega)
theorem b9 (rem:ByteArray) (a:List AL) (h:0<(L rem).length) (ho:a.length<=1048576) (hr:(L rem).length<=1048576):
  Dp rem a=some (if 128<=(L rem)[0].toNat/\2<=(L rem).length then .inl (rem.extract 2 (L rem).length,a++ [AL.mk (((L rem)[1]?.getD 0).toNat:Int) (((L rem)[0].toNat:Int)-128) (bs [])])
   else if(L rem)[0].toNat<128/\(L rem)[0].toNat<(L rem).length then .inl (rem.extract (1+(L rem)[0].toNat) (L rem).length,a++ [AL.mk 0 0 (rem.extract 1 (1+(L rem)[0].toNat))])
   else .inr (.inr ([],false))):=by
 have d:=(L rem)[0].toNat_lt;have b:seq rem (bs [])=false:=by grind [Qu,DH]
 have c:∀x:AL,ap 32 a [x]=some (a++ [x]):=λx=>Bw<|by grind
 unfold Dp;rw[b];have s0:sx rem 0=some ((L rem)[0].toNat:Int):=E8 rem (i:=0) h;simp only[BK,Al,s0,Aa,Xk,Bo,c];have c0:ad 1 ((L rem)[0].toNat:Int)=((1+(L rem)[0].toNat:Nat):Int):=by rw[BZ];omega
 rw[c0];by_cases h1:128<=(L rem)[0].toNat
 ·rw[Ac (by omega:((L rem)[0].toNat:Int)>=128),Ah (by omega:¬((L rem)[0].toNat:Int)<128)];simp only[Al,Ad,Aa];by_cases h2:2<=(L rem).length
  ·grind [E8,Gf,BL,Xk,L,sub]
  grind
 rw[Ah (by omega:¬((L rem)[0].toNat:Int)>=128),Ac (by omega:((L rem)[0].toNat:Int)<128),Bi λe=>h1 e.1];simp only[Al,Ad,Aa];simp_all [L,sub];grind
theorem jG (rem:ByteArray) (a:List AL) (h:(L rem).length=0):Dp rem a=some (.inr (.inl a)):=by grind [Qu,DH,Dp]
theorem bZ (t:ByteArray) (b:List AL) (a:Nat) (h:a<(L t).length) (ho:b.length<=1048576) (hr:(L t).length<=1048576):
  BG t b (a:Int)=some (if 128<(L t)[a].toNat then(if a+2<=(L t).length then .inl (b++ [AL.mk (((L t)[a+1]?.getD 0).toNat:Int) (((L t)[a].toNat:Int)-128) (bs [])],((a+2:Nat):Int))else .inr (.inr (b,false)))
   else if a+1+(L t)[a].toNat<=(L t).length then .inl (b++ [AL.mk 0 0 (t.extract (a+1) (a+1+(L t)[a].toNat))],((a+1+(L t)[a].toNat:Nat):Int))
   else .inr (.inr (b,false))):=by
 have d:=(L t)[a].toNat_lt
 have c:∀x:AL,ap 32 b [x]=some (b++ [x]):=λx=>Bw<|by grind
 have c2:ad (a:Int) 2=((a+2:Nat):Int):=by rw[BZ];omega
 have c3:ad ((a+1:Nat):Int) ((L t)[a].toNat:Int)=((a+1+(L t)[a].toNat:Nat):Int):=by rw[BZ];omega
 unfold BG;rw[Bo,cT,E8 t h];simp only[Aa,Xk,c];rw[c2,ad1,c3];by_cases h1:128<(L t)[a].toNat
 ·rw[cT,BE h1];by_cases h2:a+2<=(L t).length
  ·rw[cF,BE h2,E8 t (by omega:a+1<(L t).length),BL]
   grind [Xk]
  grind
 rw[cF,Bi h1];by_cases h2:a+1+(L t)[a].toNat<=(L t).length
 ·rw[Ah (by omega:¬((a+1+(L t)[a].toNat:Nat):Int)>((L t).length:Int)),Ad,BE h2,Gf t (by omega) h2];rfl
 grind
theorem XT (t:ByteArray) (b:List AL) (a:Nat) (h:(L t).length<=a):BG t b (a:Int)=some (.inr (.inl b)):=by grind [Bo,BG]
theorem vZ (rem:ByteArray) (a:List AL) (h:a.length+(L rem).length<=1048576):∃r,Ai (λq:ByteArray×List AL=>Dp q.1 q.2) (rem,a)=some r/\((∃l,r= .inl l/\l.length<=1048576/\∀t∈a,t∈l)\/r= .inr ([],false)):=by
 obtain⟨r,h1,_,h2⟩:=Se (body:=λq:ByteArray×List AL=>Dp q.1 q.2) (body':=λq:ByteArray×List AL=>Dp q.1 q.2) (λq=>(L q.1).length) (λq=>q.2.length+(L q.1).length<=1048576/\∀t∈a,t∈q.2) (λr=>(∃l,r= .inl l/\l.length<=1048576/\∀t∈a,t∈l)\/r= .inr ([],false))
  (by grind [jG,b9,K1]) _ (rem,a) (A3 _) ⟨h,λt ht=>ht⟩
 grind
theorem vY (t:ByteArray) (b:List AL) (a:Nat) (ha:a<=(L t).length) (h:b.length<=a) (hr:(L t).length<=1048576):∃r,Ai (λq:List AL×Int=>BG t q.1 q.2) (b,(a:Int))=some r/\((∃l,r= .inl l/\l.length<=1048576/\∀x∈b,x∈l)\/∃l,r= .inr (l,false)/\l.length<=1048576):=by
 obtain⟨r,h1,_,h2⟩:=Se (body:=λq:List AL×Int=>BG t q.1 q.2) (body':=λq:List AL×Int=>BG t q.1 q.2) (λq=>(L t).length-q.2.toNat) (λq=>∃a:Nat,q.2=(a:Int)/\a<=(L t).length/\q.1.length<=a/\∀x∈b,x∈q.1) (λr=>(∃l,r= .inl l/\l.length<=1048576/\∀x∈b,x∈l)\/∃l,r= .inr (l,false)/\l.length<=1048576)
  (by
   rintro⟨o,at_⟩ ⟨a,ha,hl,hb,ho⟩;simp only at ha hb ho;subst ha;simp only
   rcases EU a (L t).length with h0|h0
   ·rw[bZ t o a h0 (by omega) hr];split
    ·split
     ·simp_all;grind
     grind
    split
    ·simp_all;grind
    grind
   grind [XT]) _ (b,(a:Int)) (A3 _) ⟨a,rfl,ha,h,λt ht=>ht⟩
 grind
theorem vX (t:ByteArray) (hr:(L t).length<=1048576):∀(n a:Nat) (rem:ByteArray) (b:List AL),(L t).length-a<=n->a<=(L t).length->L rem=(L t).drop a->b.length<=a->
  ∃ri rs,Ai (λq:ByteArray×List AL=>Dp q.1 q.2) (rem,b)=some ri/\Ai (λq:List AL×Int=>BG t q.1 q.2) (b,(a:Int))=some rs/\
   ((∃l,ri= .inl l/\rs= .inl l/\l.length<=1048576)\/((ri= .inr ([],false)\/∃l,ri= .inl l/\l.length<=1048576/\∃x∈l,¬QI x)/\((∃l,rs= .inr (l,false)/\l.length<=1048576)\/∃l,rs= .inl l/\l.length<=1048576/\∃x∈l,¬QI x))):=by
 intro n
 induction n with
 |zero=>grind [Ax,jG,XT]
 |succ n ih=>
  intro a rem b h1 h2 h3 h4
  rcases EU a (L t).length with h0|h0
  ·have j:(L rem).length=(L t).length-a:=by rw[h3];simp
   have e:0<(L rem).length:=by omega
   have g:(L rem)[0]=(L t)[a]:=by grind
   have h:(L rem)[1]?.getD 0=(L t)[a+1]?.getD 0:=by grind
   have c:=b9 rem b e (by omega) (by omega);have f:=bZ t b a h0 (by omega) hr
   have d:∀k,L (rem.extract k (L rem).length)=(L t).drop (a+k):=λk=>by grind [K1,Er,AQ]
   rw[g,h]at c
   rcases N7 (L t)[a].toNat 128 with hc|hc|hc
   ·rw[Bi<|by omega]at c;by_cases hk:a+1+(L t)[a].toNat<=(L t).length
    ·obtain⟨ri,rs,q1,q2,q3⟩:=ih (a+1+(L t)[a].toNat) (rem.extract (1+(L t)[a].toNat) (L rem).length) (b++ [AL.mk 0 0<|t.extract (a+1)<|a+1+(L t)[a].toNat]) (by omega) hk (by grind) (by grind);have etx:rem.extract 1 (1+(L t)[a].toNat)=t.extract (a+1) (a+1+(L t)[a].toNat):=by grind [JJ,K1,Er]
     refine⟨ri,rs,?_,?_,q3⟩
     ·rw[Ax]
      grind
     grind [Ax]
    grind [Ax]
   ·
    have hI:∃ri,Ai (λq:ByteArray×List AL=>Dp q.1 q.2) (rem,b)=some ri/\(ri= .inr ([],false)\/∃l,ri= .inl l/\l.length<=1048576/\∃x∈l,¬QI x):=by
     by_cases hk:2<=(L rem).length
     ·obtain⟨r,q1,q2⟩:=vZ (rem.extract 2 (L rem).length) (b++ [AL.mk (((L t)[a+1]?.getD 0).toNat:Int) (((L t)[a].toNat:Int)-128)<|bs []]) (by grind);refine⟨r,by rw[Ax];grind,?_⟩
      rcases q2 with⟨l,rfl,q3,q4⟩|rfl
      ·refine .inr ⟨l,rfl,q3,_,q4 _<|BJ _<|B8.2 rfl,?_⟩;intro hk
       rcases hk with⟨_,_,k3,_⟩|⟨_,k2,_⟩
       ·grind [DH]
       grind
      exact .inl rfl
     grind [Ax]
    have hS:∃rs,Ai (λq:List AL×Int=>BG t q.1 q.2) (b,(a:Int))=some rs/\((∃l,rs= .inr (l,false)/\l.length<=1048576)\/∃l,rs= .inl l/\l.length<=1048576/\∃x∈l,¬QI x):=by
     by_cases hk:a+1+(L t)[a].toNat<=(L t).length
     ·obtain⟨r,q1,q2⟩:=vY t (b++ [AL.mk 0 0<|t.extract (a+1)<|a+1+(L t)[a].toNat]) (a+1+(L t)[a].toNat) hk (by grind) hr;refine⟨r,by rw[Ax];grind,?_⟩
      rcases q2 with⟨l,rfl,q3,q4⟩|⟨l,rfl,q3⟩
      ·refine .inr ⟨l,rfl,q3,_,q4 _<|BJ _<|B8.2 rfl,?_⟩;intro i
       rcases i with⟨_,_,_,k4⟩|⟨k1,_⟩
       ·simp only[K1,I2,OX]at k4;omega
       exact k1 rfl
      grind
     grind [Ax]
    obtain⟨ri,q1,q2⟩:=hI;obtain⟨rs,q3,q4⟩:=hS;exact⟨ri,rs,q1,q3,.inr ⟨q2,q4⟩⟩
   by_cases hk:a+2<=(L t).length
   ·obtain⟨ri,rs,q1,q2,q3⟩:=ih (a+2) (rem.extract 2 (L rem).length) (b++ [AL.mk (((L t)[a+1]?.getD 0).toNat:Int) (((L t)[a].toNat:Int)-128)<|bs []]) (by omega) hk (d 2) (by grind);exact⟨ri,rs,by rw[Ax];grind,by rw[Ax];grind,q3⟩
   grind [Ax]
  grind [Ax,XT]
theorem yF (t:ByteArray) (hr:(L t).length<=1048576):∃li oi ls os pi ki ps ks,P7 t=some (li,oi)/\LE t=some (ls,os)/\OO li=some (pi,ki)/\Gr ls=some (ps,ks)/\((oi=os/\pi=ps/\ki=ks)\/((oi=false\/ki=false)/\(os=false\/ks=false))):=by
 obtain⟨ri,rs,q1,q2,q3⟩:=vX t hr ((L t).length) 0 t [] (by omega) (by omega) (by simp) (by simp);have e0:(([]:List AL),((0:Nat):Int))=([],0):=rfl;simp only[e0]at q2;unfold P7 LE;rw[q1,q2,iU];have none:∀l:List AL,l.length<=1048576->(∃x∈l,¬QI x)->∃p,Gr l=some (p,false):=by
  rintro l hl ⟨x,hx,hn⟩;obtain⟨p,ok,h1,h2⟩:=Qp l hl
  cases ok with
  |false=>exact⟨p,h1⟩
  |true=>grind
 rcases q3 with⟨l,rfl,rfl,hl⟩|⟨hi,hs⟩
 ·obtain⟨p,ok,h1,_⟩:=Qp l hl;exact⟨l,true,l,true,p,ok,p,ok,rfl,rfl,h1,h1,.inl ⟨rfl,rfl,rfl⟩⟩
 have hI:∃li oi pi ki,(some ri).bind (Sum.elim (λv1=>some (v1,true)) some)=some (li,oi)/\Gr li=some (pi,ki)/\(oi=false\/ki=false):=by
  rcases hi with rfl|⟨l,rfl,hl,hb⟩
  ·obtain⟨p,ok,h1,_⟩:=Qp [] (by simp)
   grind
  obtain⟨p,h1⟩:=none l hl hb;simp_all
 have hS:∃li oi pi ki,(some rs).bind (Sum.elim (λv1=>some (v1,true)) some)=some (li,oi)/\Gr li=some (pi,ki)/\(oi=false\/ki=false):=by grind [Qp]
 obtain⟨li,oi,pi,ki,a1,a2,a3⟩:=hI;obtain⟨ls,os,ps,ks,b1,b2,b3⟩:=hS;exact⟨li,oi,ls,os,pi,ki,ps,ks,a1,b1,a2,b2,.inr ⟨a3,b3⟩⟩
theorem SX (t:ByteArray) (hr:(L t).length<=1048576):∃u ok,FH t=some (u,ok)/\M7 t=some (u,ok)/\(ok=false->u=bs [])/\(ok=true->(L u).length<=64):=by
 unfold FH M7;rw[Bo,Qu,DH];by_cases h0:L t=[]
 ·simp_all
 have a:0<(L t).length:=by grind
 have e1:(((L t).length:Int)==0)=false:=by simp;exact h0
 rw[e1,Ah h0,Ad,Ad];have s1:sub t 1 ((L t).length:Int)=some (t.extract 1 (L t).length):=Gf t (i:=1) (by omega)<|A3 _;have s0:sx t 0=some ((L t)[0].toNat:Int):=E8 t (i:=0) a;rw[s1,s0];simp only[Aa];generalize hx:t.extract 1 (L t).length=x;have b:(L x).length<=1048576:=by grind [K1]
 obtain⟨li,oi,ls,os,pi,ki,ps,ks,a1,a2,a3,a4,a5⟩:=yF x b;rw[a1,a2];simp only[Aa];rw[a3,a4];simp only[Aa];have back:∀j:ByteArray,∃u ok,((Ey j).bind λv3=>(cond (!v3.2) (some true) (some<|!(seq v3.1 t)):Option Bool).bind λj2=>cond j2 (some (bs [],false)) (some (j,true)):Option (ByteArray×Bool))=some (u,ok)/\
   ((Ld j).bind λv3=>(cond (!v3.2) (some true) (some<|!(seq v3.1 t)):Option Bool).bind λj2=>cond j2 (some (bs [],false)) (some (j,true)):Option (ByteArray×Bool))=some (u,ok)/\(ok=false->u=bs [])/\(ok=true->(L u).length<=64/\((L t)[0].toNat=122\/(L t)[0].toNat=114)):=by
  intro j;obtain⟨z,ok,p1,p2,p3,p4⟩:=WV j;rw[p1,p2];simp only[Aa]
  cases ok with
  |false=>simp
  |true=>
   simp only[An,Ad,Aa]
   cases hz:seq z t with
   |false=>simp
   |true=>
    have c:z=t:=by grind [KJ]
    obtain⟨p5,p6⟩:=p4 rfl;refine⟨_,true,rfl,rfl,by simp,λ_=>⟨p5,?_⟩⟩;rw[c,Ab a]at p6
    rcases p6 with p6|p6
    ·simp_all
    simp_all
 by_cases h122:(L t)[0].toNat=122
 ·have c1:((((L t)[0].toNat:Nat):Int)==122)=true:=by simp[h122]
  have c2:((((L t)[0].toNat:Nat):Int) !=114)=true:=by simp[h122]
  rw[c1,c2];simp only[Al]
  rcases a5 with⟨rfl,rfl,rfl⟩|⟨hi,hs⟩
  ·cases oi with
   |false=>simp
   |true=>
    cases ki with
    |false=>simp
    |true=>simp_all
  grind
 have c1:((((L t)[0].toNat:Nat):Int)==122)=false:=by simp;omega
 rw[c1];simp only[Ad,Aa,Df];by_cases h114:(L t)[0].toNat=114
 ·simp_all
 have c2:((((L t)[0].toNat:Nat):Int) !=114)=true:=by simp;omega
 rw[c2];simp only[Al];have nope:∀(j u:ByteArray) (ok:Bool),(ok=true->(L u).length<=64/\((L t)[0].toNat=122\/(L t)[0].toNat=114))->ok=false:=by grind
 obtain⟨u,ok,b1,b2,b3,b4⟩:=back x;have k1:=nope x u ok b4;subst k1;have k2:=b3 rfl;subst k2;refine⟨bs [],false,b1,?_,by simp,by simp⟩
 cases oi with
 |false=>rfl
 |true=>
  cases ki with
  |false=>rfl
  |true=>
   simp only[An,Ad,Aa,Df];obtain⟨u,ok,d1,d2,d3,d4⟩:=back pi
   grind
def Wj (x:Ba):Nat:=x.Kids.length
def XI (x:Arena):Nat:=zl Wj x.Knots
def Mg (x:Store):Nat:=x.Vols.length+XI x.Arena
def Pa (x:Av):Nat:=Ol x.Flash+Mg x.Store
def QB (x:Leaf):Nat:=bif x.Is==0 then 1 else 0
theorem AAl (l:List Leaf):(l.map QB).sum<=l.length:=by
 induction l with
 |nil=>simp
 |cons x l ih=>grind [QB]
theorem Wd (b:Block) (h:b.Leaves.length<=1048576):HW b=some ((b.Leaves.map QB).sum:Int):=by
 unfold HW;obtain⟨v,h1,rfl⟩:=AA (body:=λs:Int×Int=>GK b s.1 s.2) (λ(s:Int) i=>(s,i)) b.Leaves.length (λk s=>s=(((b.Leaves.take k).map QB).sum:Nat)) (λv=>v=((b.Leaves.map QB).sum:Nat))
  (λs k hk hs=>by
   have hx:b.Leaves[k]?=some b.Leaves[k]:=Ab hk;have e:=O5 QB b.Leaves k hk;have e2:=LA QB b.Leaves<|k+1;have e3:=AAl b.Leaves;refine .inl ?_;simp only[GK,DL hk,Ap,hx,Aa]
   grind [BZ,QB])
  (λs hs=>⟨s,by simp[Dx,GK],by grind⟩) (s:=0) (by simp)
 rw[h1];rfl
theorem S4 (f:Flash) (hf:Jo f) (hn:nl f.Blocks<=1048576):∃v:Int,E7 f=some v/\LV f=some v/\0<=v/\v<=nl f.Blocks:=by
 unfold E7 LV;obtain⟨v,h1,h2,h3⟩:=Rn (body:=λs:Int×Int=>GF f s.1 s.2) (body':=λs:Int×Int=>LU f s.1 s.2) (λ(s:Int) i=>(s,i)) (λ(s:Int) i=>(s,i)) f.Blocks.length (λi n=>0<=n/\n<=(((f.Blocks.take i).map λb=>b.Leaves.length).sum:Nat)) (λv=>0<=v/\v<=nl f.Blocks)
  (λn i hi hs=>by
   have hb:f.Blocks[i]?=some f.Blocks[i]:=Ab hi;have hm:f.Blocks[i]∈f.Blocks:=Ar _;have d:=O5 (λb:Block=>b.Leaves.length) f.Blocks i hi;have g:=LA (λb:Block=>b.Leaves.length) f.Blocks<|i+1;unfold nl at hn;have h:=hf.1;have c:=hf.2 _ hm;have j:=AAl f.Blocks[i].Leaves;refine .inl ?_;simp only[GF,LU,DL hi,Ap,hb,Aa,Wd _ c];obtain⟨u,q1,rfl⟩:=AA (body:=λs:Int×Int=>GE f (i:Int) s.1 s.2) (λ(s:Int) i=>(s,i)) f.Blocks[i].Leaves.length (λk s=>s=n+(bif f.Blocks[i].Bad then 0 else((f.Blocks[i].Leaves.take k).map QB).sum:Nat)) (λv=>v=n+(bif f.Blocks[i].Bad then 0 else(f.Blocks[i].Leaves.map QB).sum:Nat))
    (λs k hk hs=>by
     have hx:f.Blocks[i].Leaves[k]?=some f.Blocks[i].Leaves[k]:=Ab hk;have e:=O5 QB f.Blocks[i].Leaves k hk;have e2:=LA QB f.Blocks[i].Leaves<|k+1;refine .inl ?_;simp only[GE,Ap,hb,Aa,DL hk,hx]
     cases a:f.Blocks[i].Bad with
     |true=>
      rw[a]at hs;simp only[An,Ad,Al]at hs⊢;rw[ad1]
      grind
     |false=>
      rw[a]at hs;simp only[BK,Ad,Al]at hs⊢;have e4:QB f.Blocks[i].Leaves[k]=bif f.Blocks[i].Leaves[k].Is==0 then 1 else 0:=rfl
      cases hb:f.Blocks[i].Leaves[k].Is==0 with
      |true=>
       rw[hb]at e4;simp only[Al]at e4⊢;rw[ad1,BZ]
       grind
      |false=>
       rw[hb]at e4;simp only[Ad]at e4⊢;rw[ad1]
       grind)
    (λs hs=>⟨s,by simp_all [Ap,Dx,GE],by grind⟩) (s:=n) (by grind)
   rw[q1];simp only[Aa]
   cases f.Blocks[i].Bad with
   |true=>
    simp only[Al,An,Ad];rw[ad1]
    grind
   |false=>
    simp only[Al,BK,Ad];rw[ad1,BZ]
    grind)
  (λn hs=>by
   rw[D1]at hs
   exact⟨n,by simp[Dx,GF],by simp[Dx,LU],hs⟩) (s:=0) (by simp)
 grind
def Qk (a:Arena):Prop:=a.Knots.length<=1048576
theorem W6 (x a b:Int):BB x a b=some (decide (a<=x/\x<=b)):=by
 rw[Qx];simp
theorem Vo (a:Arena):Iz a=Gt a:=by
 unfold Iz Gt
 grind [Zt,Qa,Eg,gi,PZ,EB]
def Rp (a:Arena) (i:Nat) (k:Ba) (n:Int):Prop:=if k.Leaf=true then 0<=n else n= -1\/(0<=n/\n<i/\∃k',gi a.Knots n=some k'/\k'.Leaf=true)
theorem qY (a:Arena) (ha:Qk a):∃v,Gt a=some v/\(v=true->∀(i:Nat) k,a.Knots[i]?=some k->k.Kids.length=4/\∀n∈k.Kids,Rp a i k n):=by
 unfold Qk at ha;unfold Gt;obtain⟨r,h1,h2⟩:=AA (body:=λs:Int=>Eg a s) (λ(_:Unit) i=>i) a.Knots.length (λi _=>∀(j:Nat) k,j<i->a.Knots[j]?=some k->k.Kids.length=4/\∀n∈k.Kids,Rp a j k n) (λr=>r= .inr false\/r= .inl ()/\∀(i:Nat) k,a.Knots[i]?=some k->k.Kids.length=4/\∀n∈k.Kids,Rp a i k n)
  (λ_ i hi hs=>by
   obtain⟨k,hk⟩:∃k,a.Knots[i]?=some k:=⟨_,Ab hi⟩;simp only[Eg,DL hi,Ap,hk,Aa];by_cases h4:k.Kids.length=4
   ·have e1:(ln k.Kids !=4)=false:=by simp[ln,h4]
    simp only[e1,Ad];obtain⟨r,q1,q2⟩:=AA (body:=λs:Int=>EB a (i:Int) k s) (λ(_:Unit) j=>j) 4 (λj _=>∀(m:Nat) n,m<j->k.Kids[m]?=some n->Rp a i k n) (λr=>r= .inr (.inr<|.inr false)\/r= .inl ()/\∀n∈k.Kids,Rp a i k n)
     (λ_ j hj b=>by
      obtain⟨n,hn⟩:∃n,k.Kids[j]?=some n:=⟨_,Ab<|by omega⟩;simp only[EB];rw[cT,Ap,hn];simp only[Aa]
      have good:Rp a i k n->(∃s':Unit,(cond false (some<|.inr<|.inr<|.inr<|.inr false) (some<|.inl<|ad (j:Int) 1):Option (Int⊕Unit⊕Int⊕Unit⊕Bool))=some (.inl ((j+1:Nat):Int))/\∀(m:Nat) n,m<j+1->k.Kids[m]?=some n->Rp a i k n):=λc=>by
       refine⟨(),by rw[Ad,ad1],λm n' hm d=>?_⟩
       grind
      cases hl:k.Leaf with
      |true=>
       simp only[Al,An,Ad];by_cases h0:n<0
       ·grind
       rw[Ah h0,Ad];exact .inl<|good<|by grind [Rp]
      |false=>
       by_cases h1:n= -1
       ·have:(n != -1)=false:=by simp[h1]
        rw[this];exact .inl<|good (by unfold Rp;grind)
       have:(n != -1)=true:=by simp[h1]
       rw[this];rw[BL,W6];simp only[Aa];by_cases h2:0<=n/\n<=(i:Int)-1
       ·rw[Ac h2];rw[K9 h2.1<|by omega];simp only[Aa]
        cases e:(a.Knots[n.toNat]'(by omega)).Leaf with
        |true=>
         refine .inl<|good ?_
         grind [K9,Rp]
        |false=>grind
       grind)
     (λ_ b=>⟨_,by rfl,.inr ⟨rfl,λn hn=>by
      obtain⟨m,hm,rfl⟩:=Au hn
      simp_all;grind⟩⟩) (s:=()) (λm n hm=>by omega)
    have q1':Ai (λs:Int=>EB a (i:Int) k s) 0=some r:=q1;rw[q1']
    rcases q2 with rfl|⟨rfl,q2⟩
    ·grind
    rw[ad1];refine .inl ⟨(),rfl,λj k' hj f=>?_⟩
    grind
   grind [ln])
  (λ_ hs=>⟨_,by simp[Dx,Eg],.inr ⟨rfl,λi k hk=>hs i k (Ae.1 hk).1 hk⟩⟩) (s:=()) (λj k hj=>by omega)
 have h1':Ai (λs:Int=>Eg a s) 0=some r:=h1;rw[h1']
 rcases h2 with rfl|⟨rfl,h2⟩
 ·simp
 exact⟨_,rfl,λ_=>h2⟩
theorem nG (a:Arena) (ha:Qk a) (root:Int) (s:Nat) (hs:s<16):∃v,Pm a root (s:Int)=some v/\UT a root (s:Int)=some v:=by
 have f:a.Knots.length<=1048576:=ha;obtain⟨ok,h1,h2⟩:=qY a ha;unfold Pm UT;rw[Vo,h1,Zt];simp only[Aa,W6];rw[Ac (by omega:(0:Int)<=(s:Int)/\(s:Int)<=15)];simp only[An,Ad,Aa];have d:∃b,Gw a root=some b/\Hh a root=some (b||root== -1)/\(b=true->0<=root/\∃k,gi a.Knots root=some k/\k.Leaf=false):=by
  unfold Gw Hh;rw[Zt,BL (by rw[Bh];omega) (by rw[Bh];omega),Bh,W6]
  grind [K9]
 obtain⟨b,r1,r2,r3⟩:=d;rw[r1,r2];simp only[Aa]
 cases ok with
 |false=>simp
 |true=>
  simp only[An,Ad]
  cases b with
  |false=>simp_all [Nd];grind
  |true=>
   obtain⟨hr,k,hk,hl⟩:=r3 rfl;simp only[Bool.true_or,An,Ad,Aa,Nd,Ty,hk];rw[cF];obtain⟨g1,g2⟩:=C0 hk;obtain⟨k4,kk⟩:=h2 rfl root.toNat k g2;have eq4:qu (s:Int) 4=((s/4:Nat):Int):=by grind [O0,qu]
   have em:Int.tmod (s:Int) 4=((s %4:Nat):Int):=rfl;rw[eq4,em,K9 (by omega)<|by omega];simp only[Aa,C1];have e:k.Kids[s/4]'(by omega)∈k.Kids:=Ar _;have c:=kk _ e;unfold Rp at c;rw[Bi (by rw[hl];simp)]at c
   rcases c with c|⟨c1,c2,k',c3,c4⟩
   ·simp_all
   rw[cF,c3];simp only[Aa];obtain⟨g3,g4⟩:=C0 c3;obtain⟨k4',_⟩:=h2 rfl _ k' g4;rw[K9 (by omega)<|by omega];simp
theorem RK (a:Arena) (ha:Qk a) (root:Int):∃l,Jb a root=some l/\Oc a root=some l/\l.length=16:=by
 unfold Jb Oc;obtain⟨l,h1,h2,h3⟩:=Rn (body:=λs:List Int×Int=>KX a root s.1 s.2) (body':=λs:List Int×Int=>Qb a root s.1 s.2) (λ(o:List Int) i=>(o,i)) (λ(o:List Int) i=>(o,i)) 16 (λi o=>o.length=i) (λo=>o.length=16)
  (λo i hi ho=>by
   obtain⟨v,g1,g2⟩:=nG a ha root i hi
   grind [Bw,ad1,KX,Qb])
  (λo ho=>⟨o,by rfl,by rfl,ho⟩) (s:=[]) rfl
 grind
theorem TP (s:Store) (id:Int) (hs:s.Vols.length<=1048576):∃v:Int,CN s id=some v/\Jd s id=some v/\(v<0\/0<=v/\v<s.Vols.length):=by
 have e:Jd s id=CN s id:=rfl;rw[e];unfold CN;obtain⟨r,h1,h2⟩:=AA (body:=λq:Int=>GQ s id q) (λ(_:Unit) i=>i) s.Vols.length (λ_ _=>True) (λr=>r= .inl ()\/∃v:Int,r= .inr v/\0<=v/\v<s.Vols.length)
  (λ_ i hi _=>by
   have hg:s.Vols[i]?=some s.Vols[i]:=Ab hi;simp only[GQ,DL hi,Ap,hg,Aa]
   cases s.Vols[i].Id==id with
   |true=>grind
   |false=>
    rw[ad1]
    simp)
  (λ_ _=>⟨_,by simp[Dx,GQ],.inl rfl⟩) (s:=()) trivial
 have h1':Ai (λq:Int=>GQ s id q) 0=some r:=h1;rw[h1']
 rcases h2 with rfl|⟨v,rfl,h2⟩
 ·simp
 grind
theorem qX (s:Store) (hv:s.Vols.length<=1048576) (ha:Qk s.Arena) (id:Int) (k:Nat) (hk:k<16):∃v,KU s id (k:Int)=some v/\Sq s id (k:Int)=some v:=by
 unfold KU Sq;obtain⟨v,h1,h2,h3⟩:=TP s id hv;rw[h1,h2];simp only[Aa]
 rcases h3 with h3|⟨h3,h4⟩
 ·grind
 simp_all [Ah,K9,nG]
def R9:Ak:=Ak.mk 0 0<|Page.mk 0 0 0 0 0<|bs []
def IA (c:Int) (y:Ak):Bool:=y.Page.Kind==1&&y.Page.Tx==c
def Kw (r:List Ak) (o:Option Nat):Ak:=match o with
 |some j=>r[j]?.getD R9
 |none=>R9
def Qw (c:Int) (r:List Ak) (n:Nat) (o:Option Nat):Prop:=match o with
 |none=>∀(k:Nat) y,k<n->r[k]?=some y->IA c y=false
 |some j=>j<n/\(∃y,r[j]?=some y/\IA c y=true)/\∀(k:Nat) y,j<k->k<n->r[k]?=some y->IA c y=false
theorem VK {c:Int} {r:List Ak} {o o':Option Nat} (h:Qw c r r.length o) (h':Qw c r r.length o'):o=o':=by
 cases o with
 |none=>
  cases o' with
  |none=>rfl
  |some j=>
   obtain⟨h1,⟨y,h2,h3⟩,_⟩:=h';rw[h j y h1 h2]at h3;cases h3
 |some j=>
  obtain⟨h1,⟨y,h2,h3⟩,h4⟩:=h
  cases o' with
  |none=>
   rw[h' j y h1 h2]at h3;cases h3
  |some i=>
   obtain⟨k1,⟨z,k2,k3⟩,k4⟩:=h'
   grind
theorem dM (r:List Ak) (hr:r.length<=1048576) (c:Int):∃o,LB r c=some (Kw r o,o.isSome)/\Qw c r r.length o:=by
 unfold LB;rw[BL (by rw[Bh];omega) (by rw[Bh];omega),Bh];obtain⟨b,h1,h2⟩:=AA (body:=λs:Int=>H8 r c s) (λ(_:Unit) i=>(r.length:Int)-1-i) r.length (λi _=>∀(k:Nat) y,r.length-i<=k->k<r.length->r[k]?=some y->IA c y=false) (λb=>(b= .inl ()/\Qw c r r.length none)\/∃j,b= .inr (Kw r<|some j,true)/\Qw c r r.length (some j))
  (λ_ i hi hs=>by
   have e1:((r.length:Int)-1-(i:Int))=((r.length-1-i:Nat):Int):=by omega
   have a:r.length-1-i<r.length:=by omega
   have hg:r[r.length-1-i]?=some r[r.length-1-i]:=Ab a;simp only[H8,e1];rw[cT];simp only[Ap,hg,Aa]
   have next:IA c r[r.length-1-i]=false->∃s':Unit,(some (.inl<|sb ((r.length-1-i:Nat):Int) 1):Option (Int⊕Unit⊕(Ak×Bool)))=some (.inl<|(r.length:Int)-1-((i+1:Nat):Int))/\∀(k:Nat) y,r.length-(i+1)<=k->k<r.length->r[k]?=some y->IA c y=false:=λd=>by
    refine⟨(),by grind [BL],λk y h1 h2 h3=>?_⟩
    grind
   cases hk:r[r.length-1-i].Page.Kind==1 with
   |false=>
    exact .inl<|next (by grind [IA])
   |true=>
    simp only[Al,Aa]
    cases ht:r[r.length-1-i].Page.Tx==c with
    |false=>
     exact .inl<|next (by unfold IA;grind)
    |true=>
     refine .inr ⟨_,rfl,.inr ⟨r.length-1-i,?_,a,⟨_,hg,by grind [IA]⟩,λk y h1 h2 h3=>hs k y (by omega) h2 h3⟩⟩
     grind [Kw])
  (λ_ hs=>⟨_,by grind [H8],.inl ⟨rfl,λk y h1 h2=>hs k y (by omega) h1 h2⟩⟩) (s:=()) (λk y h1 h2=>by omega)
 have e0:((r.length:Int)-1-0)=(r.length:Int)-1:=by omega
 rw[e0]at h1;rw[h1]
 rcases h2 with⟨rfl,h2⟩|⟨j,rfl,h2⟩
 ·exact⟨none,rfl,h2⟩
 grind
theorem AAS {r:List Ak} {x:Ak} (h:srt Bl r) (a:j<i) (hx:r[j]?=some x) (hy:r[i]?=some y):x.Page.Seq<=y.Page.Seq:=by
 unfold srt at h;obtain⟨h1,h2⟩:=Ae.1 hx;obtain⟨h3,h4⟩:=Ae.1 hy;rw[<-h2,<-h4];exact Cc.1 h j i h1 h3 a
theorem VV (f:Flash) (r:List Ak) (d:EM f=some r) (hr:r.length<=1048576) (g:srt Bl r) (c:Int):∃o,Rv f c=some (Kw r o,o.isSome)/\Qw c r r.length o:=by
 unfold Rv;rw[d];simp only[Aa];obtain⟨b,h1,o,rfl,h2⟩:=AA (body:=λs:Bool×Int×Int×Int×Int×Int×Int×Int×Int×ByteArray=>JD c r s.1 s.2.1 s.2.2.1 s.2.2.2.1 s.2.2.2.2.1 s.2.2.2.2.2.1 s.2.2.2.2.2.2.1 s.2.2.2.2.2.2.2.1 s.2.2.2.2.2.2.2.2.1 s.2.2.2.2.2.2.2.2.2)
  (λ(o:Option Nat) i=>(o.isSome,i,(Kw r o).Block,(Kw r o).Leaf,(Kw r o).Page.Kind,(Kw r o).Page.Seq,(Kw r o).Page.Tx,(Kw r o).Page.Part,(Kw r o).Page.Count,(Kw r o).Page.Text)) r.length (λi o=>Qw c r i o)
  (λb=>∃o,b=(o.isSome,(Kw r o).Block,(Kw r o).Leaf,(Kw r o).Page.Kind,(Kw r o).Page.Seq,(Kw r o).Page.Tx,(Kw r o).Page.Part,(Kw r o).Page.Count,(Kw r o).Page.Text)/\Qw c r r.length o)
  (λo i hi ho=>by
   have hg:r[i]?=some r[i]:=Ab hi;refine .inl ?_;simp only[JD,DL hi,Ap,hg,Aa]
   have keep:IA c r[i]=false->Qw c r (i+1) o:=λm=>by
    cases o with
    |none=>
     intro k y h1 h2;by_cases e:k=i
     ·grind
     exact ho k y (by omega) h2
    |some j=>
     obtain⟨h1,h2,h3⟩:=ho;refine⟨by omega,h2,λk y h4 h5 h6=>?_⟩
     grind
   cases hk:r[i].Page.Kind==1 with
   |false=>
    rw[ad1];exact⟨o,rfl,keep (by unfold IA;rw[hk];rfl)⟩
   |true=>
    cases ht:r[i].Page.Tx==c with
    |false=>
     rw[ad1];exact⟨o,rfl,keep (by unfold IA;grind)⟩
    |true=>
     have a:IA c r[i]=true:=by unfold IA;rw[hk,ht];rfl
     have l:Qw c r (i+1) (some i):=⟨by omega,⟨_,hg,a⟩,λk y h1 h2=>by omega⟩;have n:Kw r (some i)=r[i]:=by simp only[Kw,hg,CX]
     cases o with
     |none=>
      rw[ad1]
      grind
     |some j=>
      obtain⟨h1,⟨y,h2,h3⟩,_⟩:=ho;have h:Kw r (some j)=y:=by simp only[Kw,h2,CX]
      have p:=AAS g h1 h2 hg;simp only[Option.isSome_some,An,Ad,Aa,h];rw[Ac (by omega:r[i].Page.Seq>=y.Page.Seq)];rw[ad1]
      grind)
  (λo ho=>⟨_,by simp only[JD,Dx],o,rfl,ho⟩) (s:=none) (λk y h1=>by omega)
 have h1':Ai (λs:Bool×Int×Int×Int×Int×Int×Int×Int×Int×ByteArray=>JD c r s.1 s.2.1 s.2.2.1 s.2.2.2.1 s.2.2.2.2.1 s.2.2.2.2.2.1 s.2.2.2.2.2.2.1 s.2.2.2.2.2.2.2.1 s.2.2.2.2.2.2.2.2.1 s.2.2.2.2.2.2.2.2.2) (false,0,0,0,0,0,0,0,0,bs [])=_:=h1;rw[h1'];exact⟨o,rfl,h2⟩
theorem kT (hT:∀b∈f.Blocks,∀x∈b.Leaves,(L x.Text).length<=1048576) (h:Rq f y):(L y.Page.Text).length<=90:=by
 obtain⟨b,x,h1,h2,_,h3⟩:=h;obtain⟨_,g1⟩:=C0 h1;obtain⟨_,g2⟩:=C0 h2;obtain⟨p,ok,k1,_,_,k2⟩:=Ij x.Text (by grind);rw[h3]at k1
 injection k1 with k1
 injection k1 with k1 k3
 have hp:=k2 k3.symm;obtain⟨v,q1,_,q2⟩:=S5 p
 grind [Bo]
structure bL (f:Flash) (r:List Ak):Prop where
 s:Ft f=some r
 i:EM f=some r
 len:r.length<=1048576
 page:∀y∈r,Rq f y
 text:∀y∈r,(L y.Page.Text).length<=90
 srt:srt Bl r
theorem tI (f:Flash) (hz:Ol f<=1048576):∃r,bL f r:=by
 obtain⟨hf,hT⟩:=ABD f hz;have hn:nl f.Blocks<=1048576:=IX (ADC f) hz;obtain⟨r,h1,h2,h3,h4,h5⟩:=ZF f hf hT hn;exact⟨r,h1,h2,by omega,h4,λy hy=>kT hT<|h4 y hy,h5⟩
theorem Vn {r:List Ak} (h:bL f r) (c:Int):∃u ok,KL r c=some (u,ok)/\LZ f c=some (u,ok):=by
 obtain⟨o,h1,h2⟩:=dM r h.len c;obtain⟨o',h3,h4⟩:=VV f r h.i h.len h.srt c;obtain rfl:=VK h2 h4;unfold KL LZ;rw[h1,h3]
 cases o with
 |none=>simp
 |some j=>
  obtain⟨_,⟨y,k1,_⟩,_⟩:=h2;have a:Kw r (some j)=y:=by grind [Kw]
  obtain⟨u,ok,p1,p2,_⟩:=SX y.Page.Text (by have:=h.text y<|Ao k1;omega)
  grind
end Go.TI
