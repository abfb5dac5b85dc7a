/- Drawn lives are as the document tells. No condition; no program is in sight. -/
import Derived.Test.YtkekljphpcfbmaaGreatTPD
set_option linter.unusedVariables false
set_option linter.unusedSimpArgs false
namespace Go.TI
open Go
def u32 (s:Int):Prop:=0<=s/\s<4294967296
theorem vL (s:Int) (hs:u32 s):∃v,Ah (λs:Int×Int=>IA s.1 s.2) (s,0)=some v/\Ah (λs:Int×Int=>IK s.1 s.2) (s,0)=some v/\u32 v:=
 GE (body:=λs:Int×Int=>IA s.1 s.2) (body':=λs:Int×Int=>IK s.1 s.2) (λ(s:Int) i=>(s,i)) 8 (λ_ s=>u32 s) u32
  (λs i hi hs=>by grind [an1,AFL,ad1,AEk,IA,IK,u32])
  (λs hs=>by grind [IA,IK]) (s:=s) hs
theorem vK (s:Int) (t:ByteArray) (hs:u32 s) (ht:(L t).length<=9223372036854775806):∃v,Ty s t=some v/\TH s t=some v/\u32 v:=by
 obtain⟨v,h1,h2,h3⟩:=GE (body:=λs:Int×Int=>Kv t s.1 s.2) (body':=λs:Int×Int=>KI t s.1 s.2) (λ(s:Int) i=>(s,i)) (L t).length (λ_ s=>u32 s) u32
  (λs i hi hs=>by
   obtain⟨v,h1,h2,h3⟩:=vL (xr s<|IntKind.u32.wrap ((L t)[i]).toNat)<|AEk _ _
   grind [EI,ad1,Kv,KI])
  (λs hs=>by grind [Bu,Kv,KI]) (s:=s) hs
 unfold Ty TH
 grind
theorem rZ (t:ByteArray) (ht:(L t).length<=9223372036854775806):∃v,OP t=some v/\Ze t=some v/\u32 v:=by
 obtain⟨v,h1,h2,h3⟩:=vK 4294967295 t ⟨by omega,by omega⟩ ht;unfold OP Ze
 grind
def four (v:Int):ByteArray:=Fu [IntKind.u8.wrap<|Int.fdiv v<|2^(min (24:Int).toNat IntKind.u32.bits),IntKind.u8.wrap<|Int.fdiv v<|2^(min (16:Int).toNat IntKind.u32.bits),IntKind.u8.wrap<|Int.fdiv v<|2^(min (8:Int).toNat IntKind.u32.bits),IntKind.u8.wrap v]
theorem cD (v:Int):(L (four v)).length=4:=by rfl
theorem jU (t:ByteArray):Ir t=Kx t:=by
 unfold Ir Kx;by_cases h:(Gz t)>20000
 ·grind
 rw[Bu]at h;obtain⟨v,h1,h2,_⟩:=rZ t (by omega);rw[h1,h2];rfl
theorem Ug (t:ByteArray):(20000<(L t).length->Kx t=some (bs [],false))/\((L t).length<=20000->∃v,OP t=some v/\Kx t=some (t++four v,true)):=by grind [Bu,rZ,GL,cD,Kx,Lq,four]
theorem rW (t:ByteArray) (ht:(L t).length<=9223372036854775806):∃u ok,Ls t=some (u,ok)/\QY t=some (u,ok)/\(ok=true->(L u).length<=20000/\∃v,OP u=some v/\t=u++four v)/\(ok=false->u=bs []):=by
 unfold Ls QY;have e4:sb (Gz t) 4=((L t).length:Int)-4:=by rw[Bu,BV]
 rw[e4];by_cases h4:(L t).length<4
 ·simp_all [Bu];grind
 rw[Ai (by omega:¬((L t).length:Int)-4<0),Ai (by rw[Bu];omega:¬Gz t<4)];have en:((L t).length:Int)-4=(((L t).length-4:Nat):Int):=by omega
 rw[en,Bu];have b:sub t 0 (((L t).length-4:Nat):Int)=some (t.extract 0<|(L t).length-4):=FM t (i:=0) (by omega) (by omega);have a:sub t (((L t).length-4:Nat):Int) ((L t).length:Int)=some (t.extract ((L t).length-4) (L t).length):=FM t (by omega) (by omega);rw[b,a];simp only[Aa];have hu:(L<|t.extract 0<|(L t).length-4).length=(L t).length-4:=by rw[Kg];simp
 obtain⟨k1,k2⟩:=Ug<|t.extract 0<|(L t).length-4;rw[jU];by_cases hb:20000<(L t).length-4
 ·grind
 obtain⟨v,h1,h2⟩:=k2 (by omega);rw[Ai (by omega:¬(((L t).length-4:Nat):Int)>20000),h1,h2];have h3:Lq v=some (four v):=rfl;simp only[Ad,Aa,h3,An];have c:seq (t.extract ((L t).length-4) (L t).length) (four v)=seq (t.extract 0 ((L t).length-4)++four v) t:=by
  rw[RC,RC,Ha,Kg,Kg,Bool.eq_iff_iff,Bm,Bm];have e1:List.take ((L t).length-((L t).length-4)) (List.drop ((L t).length-4)<|L t)=(L t).drop ((L t).length-4):=AP (by simp);have e2:List.take ((L t).length-4-0) (List.drop 0<|L t)=(L t).take ((L t).length-4):=by simp
  rw[e1,e2];constructor
  ·grind [BE]
  grind
 grind [IV]
theorem IG (n:Nat) (h:n<=1099511627776):∃s,Hm (n:Int)=some s/\L s=Ce n:=by
 unfold Hm;obtain⟨m,o,h1,h2,h3,h4⟩:=jF (body:=λs:Int×List Int=>ON s.1 s.2) (λ_ _=>rfl) n [] (by simpa using h);rw[h1,Aa];have:IntKind.u8.wrap (m:Int)=m:=by rw[IntKind.wrap_u8];omega
 rw[this,AY (by grind),Aa]
 grind [O4]
def AEq (t:ByteArray) (at_:Int) (r:Int×Int×Bool):Prop:=(r.2.2=false/\r.1=0/\r.2.1=0)\/(r.2.2=true/\∃(a b n:Nat),at_=a/\r.2.1=b/\r.1=n/\a<b/\b<=(L t).length/\n<=1000000000/\Ce n=((L t).drop a).take (b-a))
theorem Z7 (l:List UInt8) (a k:Nat) (h:a+k<l.length):(l.drop a).take (k+1)=(l.drop a).take k++ [l[a+k]]:=by grind [Ag]
theorem lN (k:Nat) (h:k<5):(128:Nat)^k<=268435456:=by
 have:k<=4:=by omega
 calc 128^k<=128^4:=Nat.pow_le_pow_right (by omega) this
  _=268435456:=by decide
theorem YO:∀ds:List UInt8,FL ds<128^ds.length
 |[]=>by simp[FL]
 |d::ds=>by
  have:=YO ds
  grind [FL]
theorem ADd (x k:Nat) (hx:x<128) (hk:k<5):shl .i64 (x:Int) (ml 7 (k:Int))=some ((x*128^k:Nat):Int):=by
 have h7:ml 7 (k:Int)=((7*k:Nat):Int):=by grind [PP]
 unfold shl;rw[h7,B9<|by omega];have e:(2:Int)^(min ((7*k:Nat):Int).toNat IntKind.i64.bits)=((128^k:Nat):Int):=by
  have hb:IntKind.i64.bits=64:=rfl;have h128:(128:Nat)^k=2^(7*k):=by rw[Nat.pow_mul]
  grind
 rw[e];have hp:=lN k hk;have hm:x*128^k<=128*268435456:=fV (by omega) hp
 grind [O8]
theorem wD (x:Nat):Int.tmod (x:Int) 128=((x %128:Nat):Int):=rfl
theorem I2 (t:ByteArray) (at_:Int) (ht:(L t).length<=4611686018427387904) (v:oI at_):∃r,JQ t at_=some r/\JZ t at_=some r/\AEq t at_ r:=by
 have fails:∀(at_:Int),(at_<0\/((L t).length:Int)<=at_)->oI at_->JZ t at_=some (0,0,false):=by grind [Aw,Bu,BV,JZ,Hi]
 by_cases w:0<=at_/\at_<(L t).length
 ·obtain⟨a,rfl⟩:=Cg w.1;have y:∀(B1:Int×Int×Int->Option ((Int×Int×Int)⊕Unit⊕(Int×Int×Bool))) (B2:Int×Int->Option ((Int×Int)⊕Unit⊕(Int×Int×Bool))),(∀n sc i,B1 (n,sc,i)=Dn t (a:Int) n sc i)->(∀n k,B2 (n,k)=Hi t (a:Int) n k)->∀(m k:Nat),k+m=5->a+k<=(L t).length->(∀d∈((L t).drop a).take k,128<=d.toNat)->
    ∃r,(Ah B1 (((FL (((L t).drop a).take k):Nat):Int),((128^k:Nat):Int),((a+k:Nat):Int))=some r/\Ah B2 (((FL (((L t).drop a).take k):Nat):Int),(k:Int))=some r)/\(r= .inl ()\/∃q,r= .inr q/\AEq t (a:Int) q):=by
   intro B1 B2 z h0 m
   induction m with
   |zero=>grind [Aw,Ch,Dn,Hi]
   |succ m ih=>
    intro k hk h9 hd;rw[Aw,Aw B2];simp only[z,h0,Dn,Hi];have j:k<5:=by omega
    rw[Ch (b:=5) (by omega) (by omega),Ac (by omega:((a+k:Nat):Int)<(a:Int)+5),Ac (by omega:(k:Int)<5),Ac (by omega:(a:Int)>=0),Bu,BV];by_cases l:a+k<(L t).length
    ·rw[Ac (by omega:((a+k:Nat):Int)<((L t).length:Int)),Ac (by omega:(a:Int)<((L t).length:Int)-k)];have eak:ad (a:Int) (k:Int)=((a+k:Nat):Int):=by rw[Ch];omega
     simp only[Ap,Aa,EI t l,eak];have hx:=oB<|(L t)[a+k];have f:=Z7 (L t) a k l;have o:(((L t).drop a).take k).length=k:=by simp;omega
     have g:=OG (((L t).drop a).take k) [(L t)[a+k]];rw[<-f,o]at g;have h4:=YO<|((L t).drop a).take k;rw[o]at h4;have hp:=lN k j;generalize a0:(L t)[a+k]=x at hx f g;simp only[FL,Nat.mul_zero,vR]at g;have hw:IntKind.i64.wrap (x.toNat:Int)=x.toNat:=O8 (by omega) (by omega);have h7:x.toNat %128*128^k<=127*268435456:=fV (by omega) hp;have emul:ml ((x.toNat %128:Nat):Int) ((128^k:Nat):Int)=((x.toNat %128*128^k:Nat):Int):=by grind [PP]
     have enew:ad (((FL (((L t).drop a).take k):Nat)):Int) ((x.toNat %128*128^k:Nat):Int)=((FL (((L t).drop a).take<|k+1):Nat):Int):=by grind [Ch]
     rw[hw,wD,ADd _ k (by omega) j];simp only[Aa,emul,enew];by_cases h:x.toNat<128
     ·rw[Ac (by omega:(x.toNat:Int)<128),Ai (by omega:¬(x.toNat:Int)>=128)];have ek1:ad ((a+k:Nat):Int) 1=((a+k+1:Nat):Int):=ad1 (by omega);have c:=jE (((L t).drop a).take k) x hd h;rw[<-f]at c;have h5:(((L t).drop a).take k≠ [])↔0<k:=by grind
      rw[h5]at c;have p:sub t (a:Int) ((a+k+1:Nat):Int)=some (t.extract a<|a+k+1):=FM t (by omega) (by omega);rw[ek1,p];by_cases h8:FL (((L t).drop a).take<|k+1)>1000000000
      ·rw[Ac (by omega:((FL (((L t).drop a).take<|k+1):Nat):Int)>1000000000)];refine⟨.inr (0,0,false),⟨rfl,?_⟩,.inr ⟨_,rfl,.inl ⟨rfl,rfl,rfl⟩⟩⟩
       grind
      rw[Ai (by omega:¬((FL (((L t).drop a).take<|k+1):Nat):Int)>1000000000)];obtain⟨s,h6,a1⟩:=IG (FL<|((L t).drop a).take<|k+1) (by omega);simp only[Ad,Aa,h6];have u:seq s (t.extract a<|a+k+1)=decide (¬(x.toNat=0/\0<k)):=by grind [RC,Kg]
      rw[u];by_cases hz:x.toNat=0/\0<k
      ·rw[Ai λe=>e hz];refine⟨.inr (0,0,false),⟨rfl,?_⟩,.inr ⟨_,rfl,.inl ⟨rfl,rfl,rfl⟩⟩⟩
       grind
      rw[Ac hz];refine⟨.inr (((FL (((L t).drop a).take<|k+1):Nat):Int),((a+k+1:Nat):Int),true),⟨rfl,?_⟩,.inr ⟨_,rfl,.inr ⟨rfl,a,a+k+1,_,rfl,rfl,rfl,by omega,by omega,by omega,?_⟩⟩⟩
      ·grind
      grind
     rw[Ai (by omega:¬(x.toNat:Int)<128),Ac (by omega:(x.toNat:Int)>=128)];have e1:ml ((128^k:Nat):Int) 128=((128^(k+1):Nat):Int):=by grind [PP]
     have e2:ad ((a+k:Nat):Int) 1=((a+(k+1):Nat):Int):=ad1 (by omega);have e3:ad (k:Int) 1=((k+1:Nat):Int):=ad1 (by omega);rw[e1,e2,e3];exact ih (k+1) (by omega) (by omega)<|by grind
    grind
  obtain⟨r,⟨h1,h2⟩,h3⟩:=y (λs=>Dn t (a:Int) s.1 s.2.1 s.2.2) (λs=>Hi t (a:Int) s.1 s.2) (λ_ _ _=>rfl) (λ_ _=>rfl) 5 0 rfl (by omega) (by simp);unfold JQ JZ;have hw:BB (a:Int) 0 (Gz t)=some true:=by grind [Bu,BB]
  rw[hw];simp only[List.take_zero,FL,Nat.pow_zero,vR]at h1 h2;rw[show((0:Nat):Int)=0 from rfl,show((1:Nat):Int)=1 from rfl]at h1;rw[show((0:Nat):Int)=0 from rfl]at h2;rw[h1,h2]
  rcases h3 with rfl|⟨q,rfl,h3⟩
  ·exact⟨_,rfl,rfl,.inl ⟨rfl,rfl,rfl⟩⟩
  grind
 have hf:=fails at_ (by omega) v;refine⟨(0,0,false),?_,hf,.inl ⟨rfl,rfl,rfl⟩⟩;unfold JQ
 grind [Bu,Aw,BB,Dn]
theorem cM:Gl=BB:=rfl
variable {r n x:Int} {R:List Int} {i j k:Nat} {s:Store} {α γ:Type} {v:Vol} {p:Nat->Bool} {y:Al} {f:Flash} {l:List α}
theorem Cm {i:Int} {x:α} (h:gi l i=some x):0<=i/\l[i.toNat]?=some x:=by grind [gi]
theorem Rw:ND=FB:=by
 have h2:Ny=Eg:=by
  funext x y;unfold Ny Eg
  cases decide (y<ln x.Leaves)with
  |false=>rfl
  |true=>
   cases gi x.Leaves y with
   |none=>rfl
   |some z=>rfl
 funext f;unfold ND FB;have:Nz f=Eh f:=by
  funext i;unfold Nz Eh;rw[h2];rfl
 rw[this];rfl
def JF (f:Flash):Prop:=f.Blocks.length<=1048576/\∀b∈f.Blocks,b.Leaves.length<=1048576
theorem RF (x a b:Int):BB x a b=some (decide (a<=x)&&decide (x<=b)):=by
 unfold BB
 grind
theorem ADG (x:Leaf):∃v,N5 x=some v:=by
 unfold N5;cases x.Is==0
 ·cases x.Is==1
  ·cases x.Is==2<;>exact⟨_,rfl⟩
  simp[RF]
 exact⟨_,rfl⟩
theorem Vv (f:Flash) (h:JF f):∃v,FB f=some v/\(v=true->f.Blocks.length<=10/\∀b∈f.Blocks,b.Leaves.length=4):=by
 have a:=A9 (body:=λs:Int=>Eh f s) (λ(_:Unit) i=>i) f.Blocks.length (λi _=>∀j b,j<i->f.Blocks[j]?=some b->b.Leaves.length=4) (λr=>r= .inr false\/r= .inl ()/\∀b∈f.Blocks,b.Leaves.length=4)
  (λs i hi hs=>by
   obtain⟨x,hx⟩:∃x,f.Blocks[i]?=some x:=⟨_,Ab hi⟩;have hM:=h.1;simp only[Eh,Do hi,Aq,hx,Aa,RF];by_cases h4:x.Leaves.length=4
   ·have e1:(ln x.Leaves !=4)=false:=by simp[ln,h4]
    simp only[e1,Ad,Aa]
    cases hw:(decide (0<=x.Wear)&&decide (x.Wear<=1000000000))with
    |false=>grind
    |true=>
     simp only[An,Ad];obtain⟨r,h5,h6⟩:=A9 (body:=λs:Int=>Eg x s) (λ(_:Unit) i=>i) x.Leaves.length (λ_ _=>True) (λr=>r= .inl ()\/r= .inr (.inr<|.inr false))
      (λs k hk _=>by
       obtain⟨y,hy⟩:∃y,x.Leaves[k]?=some y:=⟨_,Ab hk⟩;obtain⟨v,hv⟩:=ADG y;simp only[Eg,Do hk,Aq,hy,Aa,hv];have fin:∀j:Bool,(∃s':Unit,(bif j then some (.inr<|.inr<|.inr<|.inr false)else some (.inl<|ad (k:Int) 1):Option (Int⊕Unit⊕Int⊕Unit⊕Bool))=some (.inl (((k+1:Nat)):Int))/\True)\/∃b,(bif j then some (.inr<|.inr<|.inr<|.inr false)else some (.inl<|ad (k:Int) 1):Option (Int⊕Unit⊕Int⊕Unit⊕Bool))=some (.inr b)/\(b= .inl ()\/b= .inr (.inr<|.inr false)):=by
        intro j
        cases j with
        |true=>grind
        |false=>exact .inl ⟨(),by rw[Ad,ad1],trivial⟩
       cases v with
       |false=>exact fin true
       |true=>
        by_cases c:0<k
        ·rw[cT,BV,Le (by omega) (by omega),Aa];cases(x.Leaves[((k:Int)-1).toNat]'(by omega)).Is==0
         ·exact fin false
         exact fin<|y.Is !=0
        simp_all)
      (λs _=>⟨_,by grind [Eg],.inl rfl⟩) (s:=()) trivial
     rw[h5,Aa]
     rcases h6 with rfl|rfl
     ·refine .inl ⟨(),by rw[DM,ad1],?_⟩
      grind
     grind
   grind [ln])
  (λs hs=>⟨_,by simp[CQ,Eh],.inr ⟨rfl,λb hb=>by
   obtain⟨j,hj,e⟩:=Ay hb
   exact hs j b hj<|by grind⟩⟩) (s:=()) (λj b hj=>absurd hj<|by omega)
 obtain⟨r,h1,h2⟩:=a;unfold FB;rw[h1,Aa]
 rcases h2 with rfl|⟨rfl,h2⟩
 ·simp
 simp_all [RF,Bc];grind
theorem Ui (p:Page):∃v,K2 p=some v/\SN p=some v/\(v=true->(p.Kind=1\/p.Kind=2)/\(1<=p.Seq/\p.Seq<=1000000000)/\(1<=p.Tx/\p.Tx<=1000000000)/\(1<=p.Count/\p.Count<=9)/\(0<=p.Part/\p.Part<p.Count)/\Gz p.Text<=90):=by
 unfold K2 SN;rw[cM];simp only[RF,Aa];by_cases h1:1<=p.Seq/\p.Seq<=1000000000
 ·by_cases h2:1<=p.Tx/\p.Tx<=1000000000
  ·by_cases h3:1<=p.Count/\p.Count<=9
   ·have e:sb p.Count 1=p.Count-1:=BV (by omega) (by omega);rw[e];by_cases h4:0<=p.Part/\p.Part<=p.Count-1
    ·by_cases h5:Gz p.Text>90
     ·simp_all
     by_cases k2:p.Kind=2
     ·exact⟨true,by grind,by grind,λ_=>⟨.inr k2,h1,h2,h3,⟨h4.1,by omega⟩,by omega⟩⟩
     by_cases k1:p.Kind=1
     ·exact⟨p.Count==1,by grind,by grind,λ_=>⟨.inl k1,h1,h2,h3,⟨h4.1,by omega⟩,by omega⟩⟩
     have hk:(decide (1<=p.Kind)&&decide (p.Kind<=2))=false:=by grind
     exact⟨false,by simp[hk],by grind,by simp⟩
    refine⟨false,?_,?_,by simp⟩
    ·grind
    grind
   have e3:(decide (1<=p.Count)&&decide (p.Count<=9))=false:=by grind
   refine⟨false,?_,?_,by simp⟩
   ·grind
   grind
  have e2:(decide (1<=p.Tx)&&decide (p.Tx<=1000000000))=false:=by grind
  refine⟨false,?_,?_,by simp⟩
  ·grind
  simp[h1,e2]
 have e1:(decide (1<=p.Seq)&&decide (p.Seq<=1000000000))=false:=by grind
 refine⟨false,?_,?_,by simp⟩
 ·grind
 simp[e1]
def iJ:Page:=Page.mk 0 0 0 0 0<|bs []
theorem Ih (u:ByteArray) (a:Int) (hu:(L u).length<=20000) (ha:oI a):CW (EC.mk u a true)=some (0,EC.mk u a true):=by grind [I2,CW]
theorem JX {r:Int×Int×Bool} (u:ByteArray) (a:Int) (hu:(L u).length<=20000) (h:JQ u a=some r):CW (EC.mk u a false)=some (cond r.2.2 (r.1,EC.mk u r.2.1 false) (0,EC.mk u a true)):=by
 unfold CW
 grind
theorem uV {a b:Nat} (l:List UInt8) (h:a<=b):l.drop a=(l.drop a).take (b-a)++l.drop b:=by
 have:=(BE (b-a)<|l.drop a).symm;rw[Ey,show a+(b-a)=b by omega]at this;exact this
theorem Y3 (p:Page) (u:ByteArray) (k:UInt8) (n1 n2 n3 n4:Nat) (hp:K2 p=some true) (hk:p.Kind=(k.toNat:Int)) (h1:p.Seq=n1) (h2:p.Tx=n2) (h3:p.Part=n3) (h4:p.Count=n4) (b1:n1<=1000000000) (b2:n2<=1000000000) (b3:n3<=1000000000) (b4:n4<=1000000000) (hu:(L u).length<=20000) (e:L u=[k]++Ce n1++Ce n2++Ce n3++Ce n4++L p.Text):DW p=Kx u:=by
 obtain⟨s1,q1,r1⟩:=IG n1 (by omega);obtain⟨s2,q2,r2⟩:=IG n2 (by omega);obtain⟨s3,q3,r3⟩:=IG n3 (by omega);obtain⟨s4,q4,r4⟩:=IG n4 (by omega);have hl:=Co List.length e;have hb:JO p.Kind=some (Fu [IntKind.u8.wrap p.Kind]):=rfl;have a:L (Fu [IntKind.u8.wrap p.Kind])=[k]:=by grind [O4,IntKind.wrap_u8,oB,UInt8.ofNat_toNat]
 unfold DW;rw[hp];simp only[Aa,An,Ad,hb,h1,h2,h3,h4,q1,q2,q3,q4];rw[GL _ _ (by grind),Aa,GL _ _ (by grind [Ha]),Aa,GL _ _ (by grind [Ha]),Aa,GL _ _ (by grind [Ha]),Aa,GL _ _ (by grind [Ha]),Aa];have:Fu [IntKind.u8.wrap p.Kind]++s1++s2++s3++s4++p.Text=u:=by grind [Jy,Ha]
 rw[this]
 cases Kx u with
 |none=>rfl
 |some v=>rfl
theorem I3 (t:ByteArray) (ht:(L t).length<=9223372036854775806):∃p ok,Fi t=some (p,ok)/\Re t=some (p,ok)/\(ok=false->p=iJ)/\(ok=true->K2 p=some true):=by
 obtain⟨u,uok,j,k,m,n⟩:=rW t ht;unfold Fi Re;rw[j,k];simp only[Aa];have o1:oI 1:=⟨by omega,by omega⟩
 cases uok with
 |false=>
  have:=n rfl;subst this;have hz:(L<|bs []).length<=20000:=by rw[DO];simp
  exact⟨iJ,false,rfl,rfl,λ_=>rfl,by simp⟩
 |true=>
  obtain⟨e,v,hv,q⟩:=m rfl;simp only[An,Ad,Aa];by_cases he:(L u).length<1
  ·have g:seq u (bs [])=true:=by grind [RC,DO]
   simp_all [Bu,Ih,iJ]
  have g:seq u (bs [])=false:=by grind [RC,DO]
  rw[Ai (by rw[Bu];omega:¬Gz u<1),g];simp only[Ad];have four_:∀(B:Int×Int×Int×Int×Int×Int->Option ((Int×Int×Int×Int×Int×Int)⊕(Int×Int×Int×Int×Int)⊕(Page×Bool))),(∀x y a b c d,B (x,y,a,b,c,d)=En (u,true) x y a b c d)->
    ∃(a:Int) (m1 m2 m3 m4:Int) (bad:Bool),(∃c1 c2 c3,CW (EC.mk u 1 false)=some (m1,c1)/\CW c1=some (m2,c2)/\CW c2=some (m3,c3)/\CW c3=some (m4,EC.mk u a bad))/\
     Ah B (1,0,0,0,0,0)=some (bif bad then .inr (iJ,false)else .inl (a,m1,m2,m3,m4))/\(bad=false->∃(a1 a2 a3 a4 n1 n2 n3 n4:Nat),m1=n1/\m2=n2/\m3=n3/\m4=n4/\a=a4/\1<a1/\a1<a2/\a2<a3/\a3<a4/\a4<=(L u).length/\n1<=1000000000/\n2<=1000000000/\n3<=1000000000/\n4<=1000000000/\
      Ce n1=((L u).drop 1).take (a1-1)/\Ce n2=((L u).drop a1).take (a2-a1)/\Ce n3=((L u).drop a2).take (a3-a2)/\Ce n4=((L u).drop a3).take (a4-a3)):=by
   intro B hB;obtain⟨r1,p1,q1,w1⟩:=I2 u 1 (by omega) o1;have g1:=JX u 1 e p1;rw[Aw,hB];unfold En;rw[cT,q1,Aa]
   rcases w1 with⟨w1,w2,w3⟩|⟨w1,a0',a1,n1,z0,z1,z2,z3,z4,z5,z6⟩
   ·rw[w1]at g1⊢;exact⟨1,0,0,0,0,true,⟨_,_,_,g1,Ih u 1 e o1,Ih u 1 e o1,Ih u 1 e o1⟩,rfl,by simp⟩
   have ea0:a0'=1:=by omega
   subst ea0;rw[w1]at g1⊢;have x1:oI r1.2.1:=⟨by omega,by omega⟩;simp only[An,Ad,Ap]at g1⊢;rw[show((0:Int)==0)=true from rfl,Ap,show ad 0 1=1 from ad1 (i:=0)<|by omega];simp only;obtain⟨r2,p2,q2,y1⟩:=I2 u r1.2.1 (by omega) x1;have g2:=JX u r1.2.1 e p2;rw[Aw,hB];unfold En;rw[cT,q2,Aa]
   rcases y1 with⟨y1,_,_⟩|⟨y1,b0,a2,n2,y2,y3,y4,y5,y6,y7,y8⟩
   ·rw[y1]at g2⊢;exact⟨r1.2.1,r1.1,0,0,0,true,⟨_,_,_,g1,g2,Ih u _ e x1,Ih u _ e x1⟩,rfl,by simp⟩
   have eb:b0=a1:=by omega
   subst eb;rw[y1]at g2⊢;have x2:oI r2.2.1:=⟨by omega,by omega⟩;simp only[An,Ad,Ap]at g2⊢;rw[show((1:Int)==0)=false from rfl,Ad,show((1:Int)==1)=true from rfl,Ap,show ad 1 1=2 from ad1 (i:=1)<|by omega];simp only;obtain⟨r3,p3,q3,k1⟩:=I2 u r2.2.1 (by omega) x2;have g3:=JX u r2.2.1 e p3;rw[Aw,hB];unfold En;rw[cT,q3,Aa]
   rcases k1 with⟨k1,_,_⟩|⟨k1,c0,a3,n3,k2,k3,k4,k5,k6,k7,k8⟩
   ·rw[k1]at g3⊢;exact⟨r2.2.1,r1.1,r2.1,0,0,true,⟨_,_,_,g1,g2,g3,Ih u _ e x2⟩,rfl,by simp⟩
   have ec:c0=a2:=by omega
   subst ec;rw[k1]at g3⊢;have x3:oI r3.2.1:=⟨by omega,by omega⟩;simp only[An,Ad,Ap]at g3⊢;rw[show((2:Int)==0)=false from rfl,Ad,show((2:Int)==1)=false from rfl,Ad,show((2:Int)==2)=true from rfl,Ap,show ad 2 1=3 from ad1 (i:=2)<|by omega];simp only;obtain⟨r4,p4,q4,l1⟩:=I2 u r3.2.1 (by omega) x3;have g4:=JX u r3.2.1 e p4;rw[Aw,hB];unfold En;rw[cT,q4,Aa]
   rcases l1 with⟨l1,_,_⟩|⟨l1,d0,a4,n4,l2,l3,l4,l5,l6,l7,l8⟩
   ·rw[l1]at g4⊢;exact⟨r3.2.1,r1.1,r2.1,r3.1,0,true,⟨_,_,_,g1,g2,g3,g4⟩,rfl,by simp⟩
   have ed:d0=a3:=by omega
   subst ed;rw[l1]at g4⊢;simp only[An,Ad,Ap]at g4⊢;rw[show((3:Int)==0)=false from rfl,Ad,show((3:Int)==1)=false from rfl,Ad,show((3:Int)==2)=false from rfl,Ad,show((3:Int)==3)=true from rfl,Ap,show ad 3 1=4 from ad1 (i:=3)<|by omega];simp only;rw[Aw,hB];unfold En;rw[cF];exact⟨r4.2.1,r1.1,r2.1,r3.1,r4.1,false,⟨_,_,_,g1,g2,g3,g4⟩,rfl,λ_=>⟨b0,c0,d0,a4,n1,n2,n3,n4,z2,y4,k4,l4,l3,z3,y5,k5,l5,l6,z5,y7,k7,l7,z6,y8,k8,l8⟩⟩
  obtain⟨a,m1,m2,m3,m4,bad,⟨c1,c2,c3,f1,f2,f3,f4⟩,f5,f6⟩:=four_ (λs:Int×Int×Int×Int×Int×Int=>En (u,true) s.1 s.2.1 s.2.2.1 s.2.2.2.1 s.2.2.2.2.1 s.2.2.2.2.2) λ_ _ _ _ _ _=>rfl;rw[f5];simp only[f1,f2,f3,f4,Aa]
  cases bad with
  |true=>grind [iJ]
  |false=>
   obtain⟨a1,a2,a3,a4,n1,n2,n3,n4,rfl,rfl,rfl,rfl,rfl,i1,i2,i3,i4,i5,j1,j2,j3,j4,s1,s2,s3,s4⟩:=f6 rfl;simp only[Ad,Aa,DM];have o:sx u 0=some (((L u)[0]'(by omega)).toNat:Int):=EI u (i:=0) (by omega);have h:sub u (a4:Int) (Gz u)=some (u.extract a4 (L u).length):=by grind [Bu,FM]
   rw[o,h];simp only[Aa];have hk:=oB ((L u)[0]'(by omega));have hw:IntKind.i64.wrap (((L u)[0]'(by omega)).toNat:Int)=((L u)[0]'(by omega)).toNat:=O8 (by omega) (by omega);rw[hw];obtain⟨po,po1,po2,_⟩:=Ui (Page.mk (((L u)[0]'(by omega)).toNat:Int) n1 n2 n3 n4<|u.extract a4 (L u).length);rw[po2]
   cases po with
   |false=>
    have:DW (Page.mk (((L u)[0]'(by omega)).toNat:Int) n1 n2 n3 n4<|u.extract a4 (L u).length)=some (bs [],false):=by grind [DW]
    rw[this];simp[iJ]
   |true=>
    have hT:L (u.extract a4 (L u).length)=(L u).drop a4:=by grind [Kg,AP]
    have f:L u=[(L u)[0]'(by omega)]++Ce n1++Ce n2++Ce n3++Ce n4++L (u.extract a4 (L u).length):=by
     rw[hT,s1,s2,s3,s4];have h0:L u=[(L u)[0]'(by omega)]++(L u).drop 1:=by
      have:=AB (l:=L u) (i:=0) (by omega);simpa using this
     grind [uV]
    rw[Y3 _ u ((L u)[0]'(by omega)) n1 n2 n3 n4 po1 rfl rfl rfl rfl rfl j1 j2 j3 j4 e f];obtain⟨v',hv',hs'⟩:=(Ug u).2 e;rw[hv]at hv'
    injection hv' with hv'
    subst hv';rw[hs',Aa];have:seq (u++four v) t=true:=by grind [IV]
    simp only[An,Ad,Aa,this]
    grind
def Zs (x:Leaf):Nat:=x.Text.size
def MO (x:Block):Nat:=zl Zs x.Leaves
def Pt (x:Flash):Nat:=zl MO x.Blocks
theorem AD0 (f:Flash) (h:Pt f<=1048576):JF f/\∀b∈f.Blocks,∀x∈b.Leaves,(L x.Text).length<=1048576:=by
 have h1:=UG (z:=MO) (l:=f.Blocks);unfold Pt at h;refine⟨⟨by omega,λb hb=>?_⟩,λb hb x hx=>?_⟩
 ·grind [sU,MO,zl]
 grind [sU,dS,MO,Zs]
def nl (l:List Block):Nat:=(l.map λb=>b.Leaves.length).sum
theorem AFW (f:Flash):nl f.Blocks<=Pt f:=by
 unfold nl Pt zl;have:∀l:List Block,(l.map λb=>b.Leaves.length).sum<=(l.map MO).sum:=by
  intro l
  induction l with
  |nil=>simp
  |cons b l ih=>grind [MO,zl]
 grind
def SC (f:Flash) (y:Al):Prop:=∃b x,gi f.Blocks y.Block=some b/\gi b.Leaves y.Leaf=some x/\(x.Is==1)=true/\Fi x.Text=some (y.Page,true)
theorem Y0 {b:Block} {x:Leaf} (f:Flash) (hf:JF f) (hb:f.Blocks[i]?=some b) (hx:b.Leaves[k]?=some x):Q5 f i k=some (cond (x.Is==1) (x.Text,true) (bs [],false)):=by
 have h1:=(Ae.1 hb).1;have h2:=(Ae.1 hx).1;have h3:=hf.1;have h4:=hf.2 b<|Ao hb;unfold Q5;rw[BV (by rw[Bc];omega) (by rw[Bc];omega),RF,Bc,Ac (by omega:(0:Int)<=(i:Int)),Ac (by omega:(i:Int)<=(f.Blocks.length:Int)-1)];simp only[Aa,Bool.and_self,An,Ad,Aq,hb];rw[BV (by rw[Bc];omega) (by rw[Bc];omega),RF,Bc,Ac (by omega:(0:Int)<=(k:Int)),Ac (by omega:(k:Int)<=(b.Leaves.length:Int)-1)]
 grind
theorem cR (f:Flash) (hf:JF f) (hT:∀b∈f.Blocks,∀x∈b.Leaves,(L x.Text).length<=1048576) (hn:nl f.Blocks<=1048576):
  ∃X,Ah (λs:List Al×Int=>Ed f s.1 s.2) ([],0)=some X/\Ah (λs:Int×List Al=>IL f s.1 s.2) (0,[])=some X/\X.length<=nl f.Blocks/\∀y∈X,SC f y:=by
 refine K9 (body:=λs:List Al×Int=>Ed f s.1 s.2) (body':=λs:Int×List Al=>IL f s.1 s.2) (λs i=>(s,i)) (λs i=>(i,s)) f.Blocks.length (λi a=>a.length<=((f.Blocks.take i).map λb=>b.Leaves.length).sum/\∀y∈a,SC f y) (λX=>X.length<=nl f.Blocks/\∀y∈X,SC f y) ?_ ?_ (s:=[]) ⟨by simp,by simp⟩
 ·intro a i hi ⟨c,d⟩;have hb:f.Blocks[i]?=some f.Blocks[i]:=Ab hi;have hm:f.Blocks[i]∈f.Blocks:=Av _;have h:=Sd (λb:Block=>b.Leaves.length) f.Blocks i hi;have j:=OH (λb:Block=>b.Leaves.length) f.Blocks<|i+1;unfold nl at hn;have l:=hf.1;refine .inl ?_;simp only[Ed,IL,Do hi,Aq,hb,Aa];obtain⟨u,q1,q2,q3⟩:=K9 (body:=λs:List Al×Int=>FX f (i:Int) s.1 s.2) (body':=λs:Int×List Al=>KM (i:Int) f.Blocks[i] s.1 s.2) (λs i=>(s,i)) (λs i=>(i,s)) f.Blocks[i].Leaves.length (λk u=>u.length<=a.length+k/\∀y∈u,SC f y) (λu=>u.length<=a.length+f.Blocks[i].Leaves.length/\∀y∈u,SC f y)
   (λu k hk hu=>by
    have hx:f.Blocks[i].Leaves[k]?=some f.Blocks[i].Leaves[k]:=Ab hk
    have g:∀y:Al,ap 72 u [y]=some (u++ [y]):=λy=>AY<|by grind
    refine .inl ?_;obtain⟨p,ok,r1,r2,r3,r4⟩:=I3 f.Blocks[i].Leaves[k].Text (by grind);simp only[FX,KM,Do hk,Aq,hb,hx,Aa,Y0 f hf hb hx,r2,g]
    cases e:f.Blocks[i].Leaves[k].Is==1 with
    |false=>grind [I3,DO,ad1]
    |true=>
     simp only[Ap,Aa,r1]
     cases ok with
     |false=>grind [ad1]
     |true=>
      refine⟨u++ [Al.mk i k p],by grind [ad1],by grind [ad1],by grind,λy hy=>?_⟩
      rcases A6.1 hy with hy|hy
      ·exact hu.2 y hy
      rw[Ck]at hy;subst hy
      exact⟨_,_,by simp only[Aq];exact hb,by grind [Aq],e,r1⟩)
   (λu hu=>⟨u,by simp_all [Aq,CQ,FX],by simp[CQ,KM],hu⟩) (s:=a) ⟨by omega,d⟩
  grind [ad1]
 intro a ⟨c,d⟩;refine⟨a,by simp[CQ,Ed],by simp[CQ,IL],?_,d⟩;rw[IS]at c;exact c
theorem mZ {l:List γ} {i j:Int} {x y:γ} (h:gi l j=some y):∃z,gi (si l i x) j=some z:=by grind [gi,si]
theorem s6 (l:List Al) (k:Int):Ky l k=(AZ (NC Br) 0 k l).map (Sum.map (λs=>(s.2,s.1)) id):=by
 unfold Ky AZ gi2 s5
 cases hk:decide (k>0)with
 |false=>rfl
 |true=>
  cases h1:gi l (sb k 1)with
  |none=>simp
  |some x=>
   cases h2:gi l k with
   |none=>simp
   |some y=>
    simp only[Aa];have e:(decide<|x.Page.Seq>y.Page.Seq)=NC Br y x:=rfl;rw[e]
    cases NC Br y x with
    |false=>rfl
    |true=>
     obtain⟨z,hz⟩:=mZ (i:=k) (x:=x) h1
     grind
theorem AC8 {l l':List γ} {i j:Int} (h:s5 l i j=some l'):l'.length=l.length:=by grind [Af,s5,si]
theorem ADP {a j:Int} {l r:List Al} (h:Ah (λs:Int×List Al=>AZ (NC Br) a s.1 s.2) (j,l)=some r):r.length=l.length:=by
 refine z8 (λs:Int×List Al=>s.2.length=l.length) (λr=>r.length=l.length) ?_ ?_ (s:=(j,l)) rfl h
 ·rintro⟨j,m⟩ s' hm hb;obtain⟨c,_,hb⟩:=Af.1 hb
  grind [Af,AC8]
 rintro⟨j,m⟩ b hm hb;obtain⟨c,_,hb⟩:=Af.1 hb
 grind [Af]
theorem dH (f:Flash) (hf:JF f) (hT:∀b∈f.Blocks,∀x∈b.Leaves,(L x.Text).length<=1048576) (hn:nl f.Blocks<=1048576):
  ∃r,E6 f=some r/\FH f=some r/\r.length<=nl f.Blocks/\(∀y∈r,SC f y)/\srt Br r:=by
 obtain⟨X,h1,h2,h3,h4⟩:=cR f hf hT hn;obtain⟨r,h5,h6,h7⟩:=gM Br X (by omega);obtain⟨r',h8,h9,h10⟩:=IH Br [] X [] (by grind);have hr:r'=r:=NN Br h9 h6 (λk=>by rw[h7 k,<-h10 k]);subst hr;refine⟨r',?_,?_,?_,?_,h6⟩
 ·unfold E6;rw[h1,Aa];simp only[Ax,AU,Nf,LI]at h8;unfold BF at h8;have hc:Ah (λs:List Al×Int=>Kz s.1 s.2) (X,1)=Ah (λs:Int×List Al=>AW (NC Br) ((0:Nat):Int) (X.length:Int) s.1 s.2) (1,X):=by
   refine pZ (body:=λs:Int×List Al=>AW (NC Br) ((0:Nat):Int) (X.length:Int) s.1 s.2) (body':=λs:List Al×Int=>Kz s.1 s.2) (λs=>(s.2,s.1)) (λs=>s.2.length=X.length) ?_ ?_ (1,X) rfl
   ·rintro⟨j,m⟩ hm;simp only[Kz,AW,Bc,hm]
    cases decide (j<(X.length:Int))with
    |false=>rfl
    |true=>
     rw[uB (body:=λs:Int×List Al=>AZ (NC Br) ((0:Nat):Int) s.1 s.2) (body':=λs:List Al×Int=>Ky s.1 s.2) (λs=>(s.2,s.1)) (λs=>s6 s.2 s.1) (j,m)];cases Ah (λs:Int×List Al=>AZ (NC Br) ((0:Nat):Int) s.1 s.2) (j,m)<;>rfl
   rintro⟨j,m⟩ s' hm hb;simp only[AW]at hb
   cases hc:decide (j<(X.length:Int))with
   |false=>grind
   |true=>
    rw[hc,Ap]at hb;obtain⟨m',h1,hb⟩:=Af.1 hb
    injection hb with hb
    injection hb with hb
    subst hb;exact(ADP h1).trans hm
  rw[hc];exact h8
 ·unfold FH
  grind
 ·grind [BC.len]
 grind [BC.mem]
theorem Om {S:Type} {body:S->Option (S⊕List α)} (a:List α->Int->S) (g:Nat->α->α) (l0:List α) (h1:∀(i:Nat) (l:List α) x,l.length=l0.length->l[i]?=some x->l0[i]?=some x->body (a l (i:Nat))=some (.inl (a (l.set i (g i x)) ((i+1:Nat):Int)))) (h2:∀l:List α,l.length=l0.length->body (a l (l0.length:Nat))=some (.inr l)):Ah body (a l0 0)=some (l0.mapIdx g):=by
 obtain⟨b,h3,h4⟩:=A9 (body:=body) a l0.length (λi l=>l.length=l0.length/\∀j,l[j]?=if j<i then(l0[j]?).map (g j)else l0[j]?) (λb=>b=l0.mapIdx g)
  (λl i hi hs=>by
   obtain⟨hl,hs⟩:=hs;have c:l0[i]?=some l0[i]:=Ab hi
   grind)
  (λl hs=>⟨l,h2 l hs.1,by
   apply B8
   grind⟩) (s:=l0) ⟨rfl,λj=>by rfl⟩
 rw[h3,h4]
abbrev Ks:=List Bf
def dk:Bf:=Bf.mk true []
def BK (K:Ks) (i:Int):Bf:=(gi K i).getD dk
def P7 (k:Bf) (j:Nat):Int:=(k.Kids[j]?).getD 0
def RQ (K:Ks) (i:Nat) (leaf:Bool) (n:Int):Bool:=bif leaf then decide (0<=n)else(n== -1||(decide (0<=n/\n<=(i:Int)-1)&&(BK K n).Leaf))
def C5 (K:Ks):Bool:=K.zipIdx.all λz=>z.1.Kids.length==4&&z.1.Kids.all (RQ K z.2 z.1.Leaf)
def Dc (K:Ks) (r:Int):Bool:=r== -1||(decide (0<=r/\r<(K.length:Int))&&!(BK K r).Leaf)
def RJ (K:Ks) (root:Int) (s:Nat):Int:=if root<0 then 0 else if P7 (BK K root) (s/4)<0 then 0 else P7 (BK K<|P7 (BK K root)<|s/4)<|s %4
def Et (K:Ks) (root:Int):List Int:=(List.range 16).map<|RJ K root
variable {K X:Ks}
theorem PR (h:i<K.length):BK K (i:Int)=K[i]:=by grind [Aq,BK]
theorem HD {i:Int} (h0:0<=i) (h:i<(K.length:Int)):gi K i=some (BK K i):=by grind [Le,BK]
theorem Dj (x a b:Int):BB x a b=some (decide (a<=x/\x<=b)):=by
 rw[RF];simp
theorem Gn:C5 K=true↔∀i:Nat,i<K.length->(BK K (i:Int)).Kids.length=4/\∀n∈(BK K (i:Int)).Kids,RQ K i (BK K (i:Int)).Leaf n=true:=by simp_all [PR,List.mem_zipIdx_iff_getElem?,Ae,C5];grind
theorem K5 (a:Arena) (ha:a.Knots.length<=1048576):G9 a=some (C5 a.Knots):=by
 unfold G9;have h:=bC (body:=λs:Int=>El a s) a.Knots (λi k=>k.Kids.length==4&&k.Kids.all (RQ a.Knots i k.Leaf)) (.inr false) (.inl ()) (by omega)
  (λi k hk=>by
   have hi:=(Ae.1 hk).1;simp only[El,Do hi,Aq,hk,Aa];by_cases h4:k.Kids.length=4
   ·have e1:(ln k.Kids !=4)=false:=by simp[ln,h4]
    have e2:(k.Kids.length==4)=true:=by simp[h4]
    simp only[e1,Ad,e2,Bool.true_and];have q:=bC (body:=λs:Int=>EO a (i:Int) k s) k.Kids (λ_ n=>RQ a.Knots i k.Leaf n) (.inr<|.inr<|.inr false) (.inl ()) (by omega)
     (λj n hn=>by
      have hj:=(Ae.1 hn).1;simp only[EO];rw[cT,Aq,hn];simp only[Aa,RQ]
      cases hl:k.Leaf with
      |true=>grind [ad1]
      |false=>
       simp only[Ad,CC,Ap];by_cases h1:n= -1
       ·grind [ad1]
       grind [BV,Dj,HD,ad1])
     (by grind [EO])
    rw[q];have hz:(k.Kids.zipIdx.all λz=>RQ a.Knots i k.Leaf z.1)=k.Kids.all (RQ a.Knots i k.Leaf):=by
     rw[show(λz:Int×Nat=>RQ a.Knots i k.Leaf z.1)=(RQ a.Knots i k.Leaf)∘Prod.fst from rfl,<-List.all_map];simp
    grind [ad1]
   grind [ln])
  (by simp[CQ,El])
 grind [C5]
theorem Nl (a:Arena) (ha:a.Knots.length<=1048576) (r:Int):Hu a r=some (Dc a.Knots r):=by grind [Bc,BV,Dj,HD,Hu,Dc]
theorem BN (h:Dc K r=true):r= -1\/(0<=r/\r<(K.length:Int)/\(BK K r).Leaf=false):=by grind [Dc]
theorem Fo (hK:C5 K=true) (h0:0<=r) (h1:r<(K.length:Int)):(BK K r).Kids.length=4/\∀j,j<4->(BK K r).Kids[j]?=some (P7 (BK K r) j)/\RQ K r.toNat (BK K r).Leaf (P7 (BK K r) j)=true:=by
 have:=Gn.1 hK r.toNat<|by omega
 grind [P7]
theorem FZ (hK:C5 K=true) (h0:0<=r) (h1:r<(K.length:Int)) (hl:(BK K r).Leaf=false) (hj:j<4):P7 (BK K r) j= -1\/(0<=P7 (BK K r) j/\P7 (BK K r) j<r/\(BK K (P7 (BK K r) j)).Leaf=true):=by grind [Fo,RQ]
theorem AB2 (hK:C5 K=true) (h0:0<=r) (h1:r<(K.length:Int)) (hl:(BK K r).Leaf=true) (hj:j<4):0<=P7 (BK K r) j:=by grind [Fo,RQ]
theorem qu4 {s:Nat} (h:s<16):qu (s:Int) 4=((s/4:Nat):Int):=by grind [O8,qu]
theorem AAR {s:Nat}:Int.tmod (s:Int) 4=((s %4:Nat):Int):=by rfl
theorem XO {s:Nat} (a:Arena) (hK:C5 a.Knots=true) (hr:Dc a.Knots r=true) (hs:s<16):NX a r (s:Int)=some (RJ a.Knots r s):=by
 unfold NX RJ
 rcases BN hr with rfl|⟨h0,h1,hl⟩
 ·rfl
 rw[Ai (by omega:¬r<0),B9 (by omega),Ad,HD h0 h1];rw[Aa,qu4 hs,Aq,((Fo hK h0 h1).2 (s/4)<|by omega).1];simp only[Aa]
 rcases FZ hK h0 h1 hl (show s/4<4 by omega)with e|⟨e1,e2,e3⟩
 ·rw[e];rfl
 rw[Ai (by omega),B9 (by omega),Ad,HD e1<|by omega];rw[Aa,AAR,Aq,((Fo hK e1<|by omega).2 (s %4)<|by omega).1];rfl
theorem aA {s:Nat} (a:Arena) (ha:a.Knots.length<=1048576) (hK:C5 a.Knots=true) (hr:Dc a.Knots r=true) (hs:s<16):Q6 a r (s:Int)=some (RJ a.Knots r s):=by simp_all [K5,Nl,Dj,XO,Q6];grind
theorem Oe (a:Arena) (ha:a.Knots.length<=1048576) (hK:C5 a.Knots=true) (hr:Dc a.Knots r=true):H9 a r=some (Et a.Knots r):=by
 unfold H9;obtain⟨b,h1,h2⟩:=A9 (body:=λs:List Int×Int=>L5 a r s.1 s.2) (λ(o:List Int) i=>(o,i)) 16 (λi o=>o=(List.range i).map (RJ a.Knots r)) (λb=>b=Et a.Knots r)
  (λo i hi ho=>by grind [aA,AY,ad1,DN,L5])
  (λo ho=>⟨_,by rfl,ho⟩) (s:=[]) rfl
 grind
theorem LH {by_:Nat} (h:l.length*by_<=140737488355328):ap by_ [] l=some l:=by grind [AY]
def ACy (K:Ks):Prop:=K.length<=1048576/\∀k∈K,k.Kids.length<=1048576
theorem KS (hK:C5 K=true) (h:K.length<=1048576):ACy K:=by
 refine⟨h,λk hk=>?_⟩
 grind [Ay,Gn,PR]
theorem VS (a:Arena) (h:ACy a.Knots):N4 a=some a:=by
 unfold N4;have h1:=S9 (body:=λs:Int×List Bf=>Kr a s.1 s.2) a.Knots (λk=>k)
  (λi k b hk ho=>by
   have hi:=(Ae.1 hk).1;have hm:=h.2 k<|Ao hk;have:=h.1;simp only[Kr,Do hi,Aq,hk,Aa]
   rw[LH (by omega),Aa,AY (by simp;omega),Aa,ad1])
  (λb=>by simp[CQ,Kr])
 rw[h1];simp
theorem FT (s:Store) (h:ACy s.Arena.Knots) (hv:s.Vols.length<=1048576):DE s=some s:=by
 unfold DE;rw[LH (by omega),VS _ h];rfl
def RD (K:Ks) (r:Int) (s:Nat) (n:Int):List Int:=(if r<0 then [0,0,0,0]else if P7 (BK K r) (s/4)<0 then [0,0,0,0]else(BK K<|P7 (BK K r)<|s/4).Kids).set (s %4) n
def VC (K:Ks) (r:Int) (s:Nat):List Int:=(if r<0 then [-1,-1,-1,-1]else(BK K r).Kids).set (s/4) (K.length:Int)
def Ki (K:Ks) (r:Int) (s:Nat) (n:Int):Ks:=K++ [Bf.mk true<|RD K r s n,Bf.mk false<|VC K r s]
theorem mk4:mk 8 (0:Int) 4=some [0,0,0,0]:=by rfl
theorem qU {k:Bf} (h:j<k.Kids.length):gi k.Kids (j:Int)=some (P7 k j):=by grind [Aq,P7]
theorem ZW {s:Nat} (a:Arena) (ha:a.Knots.length<=1048000) (hK:C5 a.Knots=true) (hr:Dc a.Knots r=true) (hs:s<16) (hn:0<=n):
  YU a r (s:Int) n=some (Arena.mk (Ki a.Knots r s n),(a.Knots.length:Int)+1):=by
 unfold YU;rw[VS _ (KS hK<|by omega),K5 a (by omega),Nl a (by omega),Dj,hK,hr];rw[Ac (by omega:0<=(s:Int)/\(s:Int)<=15),Ai (by omega:¬n<0)];rw[mk4];simp only[Aa];have fin:∀(lf tp:List Int),lf.length=4->tp.length=4->Ki a.Knots r s n=a.Knots++ [Bf.mk true<|lf.set (s %4) n,Bf.mk false<|tp.set (s/4) (a.Knots.length:Int)]->
   ((gi lf<|Int.tmod (s:Int) 4).bind λx4=>(gi tp<|qu (s:Int) 4).bind λx5=>(ap 32 a.Knots [Bf.mk true<|si lf (Int.tmod (s:Int) 4) n,Bf.mk false<|si tp (qu (s:Int) 4)<|ln a.Knots]).bind λq4=>some (Arena.mk q4,sb (ln q4) 1))=some (Arena.mk<|Ki a.Knots r s n,(a.Knots.length:Int)+1):=by
  intro lf tp h1 h2 h3;rw[qu4 hs,AAR,Aq,Aq,Ab (by omega),Ab<|by omega];rw[AY (by simp;omega),DL,DL,Bc,<-h3]
  grind [Bc,BV]
 rcases BN hr with rfl|⟨h0,h1,hl⟩
 ·rw[Ai (by omega:¬(-1:Int)>=0)];exact fin _ _ rfl rfl rfl
 rw[cT,HD h0 h1];have h4:=(Fo hK h0 h1).1;simp only[Aa];rw[LH<|by omega];simp only[Aa];rw[qu4 hs,qU (by omega:s/4<(BK a.Knots r).Kids.length)];simp only[Aa];rw[<-qu4 hs]
 rcases FZ hK h0 h1 hl (show s/4<4 by omega)with e|⟨e1,e2,e3⟩
 ·grind [Ki,RD,VC]
 grind [HD,Fo,LH,Ki,RD,VC]
def O9 (K:Ks) (r:Int) (i:Nat):Bool:=decide (0<=r)&&(decide (r=(i:Int))||(BK K r).Kids.any λn=>decide<|n=(i:Int))
theorem mB (n:Nat) (f:Nat->α) (g:Nat->α->α):((List.range n).map f).mapIdx g=(List.range n).map λi=>g i (f i):=by
 apply B8
 grind
theorem PH (n:Nat) (f:Nat->α) (i:Nat) (x:α) (g:Nat->α) (h:∀j,j<n->g j=if j=i then x else f j):((List.range n).map f).set i x=(List.range n).map g:=by
 apply B8
 grind
theorem NA {n:Nat} {f:Nat->α} (h:i<n):((List.range n).map f)[i]?=some (f i):=by grind
theorem VF {l:List Int} {m:Nat} (h:l[m]?=some x) (p:Int->Bool):(l.take (m+1)).any p=((l.take m).any p||p x):=by grind [D5]
theorem oV (a:Arena) (ha:a.Knots.length<=1048576) (hK:C5 a.Knots=true) (hr:Dc a.Knots r=true):VR a r=some ((List.range a.Knots.length).map (O9 a.Knots r)):=by
 unfold VR;rw[Bc,aZ (by omega)<|by omega];simp only[Aa]
 rcases BN hr with rfl|⟨h0,h1,hl⟩
 ·simp only[show decide ((-1:Int)<0)=true from rfl,Ap];congr 1;rw[show(O9 a.Knots<|-1)=λ_=>false from rfl,Nd,FJ]
 rw[cF];obtain⟨m,rfl⟩:∃m:Nat,r=(m:Int):=⟨r.toNat,by omega⟩;rw[Aq,List.getElem?_replicate,Cc<|by omega];rw[DL];obtain⟨h4,hk⟩:=Fo hK h0 h1;obtain⟨b,q1,q2⟩:=A9 (body:=λs:List Bool×Int=>Mn a (m:Int) s.1 s.2) (λ(o:List Bool) i=>(o,i)) 4
  (λi o=>o=(List.range a.Knots.length).map λ(j:Nat)=>decide ((m:Int)=(j:Int))||((BK a.Knots (m:Int)).Kids.take i).any λn=>decide<|n=(j:Int))
  (λb=>b=(List.range a.Knots.length).map (O9 a.Knots (m:Int)))
  (λo i hi ho=>by
   obtain⟨e,_⟩:=hk i hi;simp only[Mn];rw[cT,HD h0 h1];simp only[Aa];rw[Aq,e];simp only[Aa]
   rcases FZ hK h0 h1 hl hi with e1|⟨e1,e2,e3⟩
   ·grind [ad1,VF]
   obtain⟨c,hc⟩:∃c:Nat,P7 (BK a.Knots (m:Int)) i=(c:Int):=⟨(P7 (BK a.Knots (m:Int)) i).toNat,by omega⟩;rw[hc,cT];rw[ho,Aq,NA<|by omega];rw[DL,ad1]
   simp_all [PH,VF];grind)
  (λo ho=>⟨_,by simp only[Mn];rw[cF],by
   rw[ho];apply D4;intro j hj;rw[AP<|by omega]
   rfl⟩) (s:=(List.replicate a.Knots.length false).set m true) (by grind [FJ,Nd,PH])
 grind
def C6 (K:Ks) (R:List Int) (i:Nat):Bool:=R.any λr=>O9 K r i
def nZ (K:Ks) (R:List Int) (i:Nat):Nat:=((List.range i).filter<|C6 K R).length
def RO (K:Ks) (R:List Int) (n:Int):Int:=if 0<=n then(nZ K R n.toNat:Int)else n
def ZB (K:Ks) (R:List Int) (i:Nat):Bf:=Bf.mk (BK K (i:Int)).Leaf<|bif(BK K (i:Int)).Leaf then(BK K (i:Int)).Kids else(BK K (i:Int)).Kids.map<|RO K R
def VG (K:Ks) (R:List Int):Ks:=((List.range K.length).filter<|C6 K R).map<|ZB K R
theorem IF (l:List α) (f:α->α):l.mapIdx (λ_ x=>f x)=l.map f:=by
 apply B8
 grind
theorem P9 (hr:r∈R) (h0:0<=r):C6 K R r.toNat=true:=by grind [C6,O9]
theorem Zz (hK:C5 K=true) (hR:∀r∈R,Dc K r=true) (hu:C6 K R i=true) (hl:(BK K (i:Int)).Leaf=false):(i:Int)∈R:=by
 unfold C6 at hu;rw[Ff]at hu;obtain⟨r,hr,h⟩:=hu;unfold O9 at h;simp only[Aj,H4,Bm,Ff]at h;obtain⟨h0,h⟩:=h
 rcases h with h|⟨n,hn,h⟩
 ·grind
 rcases BN (hR r hr)with e|⟨_,h1,a⟩
 ·omega
 obtain⟨h4,hk⟩:=Fo hK h0 h1;obtain⟨j,hj,b⟩:=Ay hn;have e:=(hk j<|by omega).1
 grind [FZ]
theorem V8 (hr:r∈R) (h0:0<=r) (hn:n∈(BK K r).Kids) (h1:0<=n):C6 K R n.toNat=true:=by grind [C6,O9]
theorem AEs (i:Nat):nZ K R i<=i:=by
 have:=Ba (C6 K R)<|List.range i;rw[FJ]at this;exact this
theorem eK (a:Arena) (ha:a.Knots.length<=1048576) (R:List Int) (hc:R.length<=1048576) (hR:∀r∈R,Dc a.Knots r=true):Ah (λs:Bool×Int=>F8 a R s.1 s.2) (true,0)=some true:=by
 obtain⟨b,h1,h2⟩:=A9 (body:=λs:Bool×Int=>F8 a R s.1 s.2) (λ(o:Bool) i=>(o,i)) R.length (λ_ o=>o=true) (λb=>b=true)
  (λo i hi ho=>by
   have hx:=Ab hi;simp only[F8,Fl,Ac hi,Ap,Aa,ho,Aq,hx];rw[Nl a ha,hR _<|Av hi,Aa,ad1]
   grind)
  (λo ho=>⟨o,by grind [Fl,F8],ho⟩) (s:=true) rfl
 grind
theorem kT (a:Arena) (ha:a.Knots.length<=1048576) (hK:C5 a.Knots=true) (R:List Int) (hc:R.length<=1048576) (hR:∀r∈R,Dc a.Knots r=true):
  Ah (λs:List Bool×Int=>F7 a R s.1 s.2) (List.replicate a.Knots.length false,0)=some ((List.range a.Knots.length).map (C6 a.Knots R)):=by
 obtain⟨b,h1,h2⟩:=A9 (body:=λs:List Bool×Int=>F7 a R s.1 s.2) (λ(o:List Bool) i=>(o,i)) R.length (λi o=>o=(List.range a.Knots.length).map λ(j:Nat)=>(R.take i).any λr=>O9 a.Knots r j) (λb=>b=(List.range a.Knots.length).map (C6 a.Knots R))
  (λo i hi ho=>by
   have hx:=Ab hi;simp only[F7,Do hi,Aa,Aq,hx];rw[oV a ha hK<|hR _<|Av hi];simp only[Aa];have q:=Om (body:=λs:List Bool×Int=>Hn ((List.range a.Knots.length).map<|O9 a.Knots R[i]) s.1 s.2) (λl i=>(l,i)) (λk x=>x||O9 a.Knots R[i] k) o
    (λk l x hl c d=>by grind [Fl,Aq,DL,ad1,Hn])
    (λl hl=>by grind [Fl,Hn])
   rw[q,Aa,ad1,ho,mB]
   grind [D5])
  (λo ho=>⟨o,by simp[CQ,F7],by rw[ho,AP<|by omega];rfl⟩) (s:=List.replicate a.Knots.length false) (by grind [Nd,FJ])
 grind
def Vw (K:Ks) (R:List Int) (i:Nat):List Int:=(List.range K.length).map λ(j:Nat)=>if j<i/\C6 K R j=true then(nZ K R j:Int)else 0
theorem eM (a:Arena) (ha:a.Knots.length<=1048576) (hK:C5 a.Knots=true) (R:List Int) (hR:∀r∈R,Dc a.Knots r=true):
  Ah (λs:List Int×Int×List Bf=>F6 a ((List.range a.Knots.length).map (C6 a.Knots R)) s.1 s.2.1 s.2.2) (List.replicate a.Knots.length 0,0,[])=some (Vw a.Knots R a.Knots.length,VG a.Knots R):=by
 obtain⟨b,h1,h2⟩:=A9 (body:=λs:List Int×Int×List Bf=>F6 a ((List.range a.Knots.length).map<|C6 a.Knots R) s.1 s.2.1 s.2.2) (λ(o:List Int×List Bf) i=>(o.1,i,o.2)) a.Knots.length
  (λi o=>o=(Vw a.Knots R i,((List.range i).filter<|C6 a.Knots R).map<|ZB a.Knots R)) (λb=>b=(Vw a.Knots R a.Knots.length,VG a.Knots R))
  (λo i hi ho=>by
   subst ho;simp only[F6,Do hi];rw[Aq,NA hi];simp only[Aa]
   cases hu:C6 a.Knots R i with
   |false=>grind [ad1,DN,Vw]
   |true=>
    simp only[An,Ad];have h0:(0:Int)<=(i:Int):=by omega
    have d:(i:Int)<(a.Knots.length:Int):=by omega
    rw[HD h0 d];obtain⟨h4,hk⟩:=Fo hK h0 d;simp only[Aa];rw[LH<|by omega];simp only[Aa];have inner:Ah (λs:Int×List Int=>F5 (Vw a.Knots R i) ((BK a.Knots (i:Int)).Leaf,(BK a.Knots (i:Int)).Kids) s.1 s.2) (0,(BK a.Knots (i:Int)).Kids)=some (ZB a.Knots R i).Kids:=by
     unfold ZB
     cases hl:(BK a.Knots (i:Int)).Leaf with
     |true=>rw[Aw];rfl
     |false=>
      have q:=Om (body:=λs:Int×List Int=>F5 (Vw a.Knots R i) (false,(BK a.Knots (i:Int)).Kids) s.1 s.2) (λl k=>(k,l)) (λ_ x=>RO a.Knots R x) (BK a.Knots (i:Int)).Kids
       (λk l x g h j=>by
        have m:k<4:=by grind
        have ex:x=P7 (BK a.Knots (i:Int)) k:=by grind
        simp only[F5];rw[Ac (by omega:(k:Int)<4)];simp only[Ap,Aa,CC];rw[Aq,h];simp only[Aa]
        rcases FZ hK h0 d hl m with e|⟨e1,e2,e3⟩
        ·rw[cF,ad1];have:RO a.Knots R x=x:=by unfold RO;omega
         rw[this,show l.set k x=l from by
          apply B8
          grind]
        rw[cT];obtain⟨c,hc⟩:∃c:Nat,x=(c:Int):=⟨x.toNat,by omega⟩;have n:x∈(BK a.Knots (i:Int)).Kids:=Ao j;have f:=V8 (Zz hK hR hu hl) h0 n (by omega);rw[hc]at f;rw[hc,Aq];unfold Vw;rw[NA (by omega),Aa,Cc ⟨by omega,f⟩,DL,ad1]
        rfl)
       (λl g=>by grind [F5])
      grind [IF]
    rw[inner];simp only[Aa];have p:gi (Vw a.Knots R i) (i:Int)=some 0:=by grind [Aq,Vw]
    rw[p];simp only[Aa];have u:=AEs (K:=a.Knots) (R:=R) i;have t:(((List.range i).filter<|C6 a.Knots R).map<|ZB a.Knots R).length=nZ a.Knots R i:=by rw[Bw];rfl
    rw[AY (by grind),Aa,ad1,Bc,t,DL];refine .inl ⟨(_,_),rfl,?_⟩;congr 1
    ·grind [PH,Vw]
    rw[DN,Cl,NH hu,List.filter_nil,JI]
    rfl)
  (λo ho=>⟨o,by simp[CQ,F6],ho⟩) (s:=(List.replicate a.Knots.length 0,[])) (by grind [Nd,FJ,Vw])
 grind
theorem tF (a:Arena) (ha:a.Knots.length<=1048576) (R:List Int) (hc:R.length<=1048576) (hR:∀r∈R,Dc a.Knots r=true):
  Ah (λs:List Int×Int=>Fz (Vw a.Knots R a.Knots.length,VG a.Knots R) s.1 s.2) (R,0)=some (R.map (RO a.Knots R)):=by
 have q:=Om (body:=λs:List Int×Int=>Fz (Vw a.Knots R a.Knots.length,VG a.Knots R) s.1 s.2) (λl k=>(l,k)) (λ_ x=>RO a.Knots R x) R
  (λk l x h b d=>by
   have i:=(Ae.1 b).1;simp only[Fz,Do i,Aq,b,Aa]
   rcases BN (hR x<|Ao d)with e|⟨e1,e2,e3⟩
   ·rw[cF,ad1];have:RO a.Knots R x=x:=by unfold RO;omega
    rw[this,show l.set k x=l from by
     apply B8
     grind]
   rw[cT];obtain⟨c,f⟩:∃c:Nat,x=(c:Int):=⟨x.toNat,by omega⟩;have g:=P9 (K:=a.Knots) (Ao d) e1;rw[f]at g;rw[f,Aq];unfold Vw;rw[NA (by omega),Aa,Cc ⟨by omega,g⟩,DL,ad1]
   rfl)
  (λl h=>by grind [Bc,Fz])
 grind [IF]
theorem ZS (a:Arena) (ha:a.Knots.length<=1048576) (hK:C5 a.Knots=true) (R:List Int) (hc:R.length<=1048576) (hR:∀r∈R,Dc a.Knots r=true):
  Ku a R=some (Arena.mk (VG a.Knots R),R.map (RO a.Knots R)):=by
 unfold Ku;rw[LH (by omega),K5 a ha,hK];simp only[Aa];rw[eK a ha R hc hR];rw[Bc,aZ (by omega)<|by omega];simp only[Aa];rw[kT a ha hK R hc hR];rw[aZ (by omega)<|by omega];simp_all [eM,tF]
theorem cJ (p:Nat->Bool) (hp:p i=true):∀{n:Nat},i<n->((List.range n).filter p)[((List.range i).filter p).length]?=some i
 |0,h=>by omega
 |n+1,h=>by
  rw[DN,Cl];by_cases e:i=n
  ·grind
  have h2:=cJ p hp<|show i<n by omega
  grind
theorem ACm {n:Nat} (p:Nat->Bool) (hp:p i=true) (h:i<n):((List.range i).filter p).length<((List.range n).filter p).length:=(Ae.1<|cJ p hp h).1
theorem qZ (p:Nat->Bool):∀{n j:Nat},j<((List.range n).filter p).length->∃i,i<n/\p i=true/\((List.range i).filter p).length=j
 |0,j,h=>by simp at h
 |n+1,j,h=>by
  rw[DN,Cl,AD]at h;by_cases e:j<((List.range n).filter p).length
  ·obtain⟨i,h1,h2,h3⟩:=qZ p e
   grind
  grind
theorem wJ:(VG K R).length=nZ K R K.length:=by unfold VG nZ;rw[Bw]
theorem Tn (hu:C6 K R i=true) (hi:i<K.length):BK (VG K R) (nZ K R i:Nat)=ZB K R i/\nZ K R i<(VG K R).length:=by grind [Aq,cJ,nZ,VG,BK]
theorem AAU (hj:j<(VG K R).length):∃i,i<K.length/\C6 K R i=true/\nZ K R i=j:=by
 rw[wJ]at hj;exact qZ (C6 K R) hj
theorem AFP (hu:C6 K R i=true) (h:i<j):nZ K R i<nZ K R j:=ACm _ hu h
theorem ZA (i:Nat):(ZB K R i).Leaf=(BK K (i:Int)).Leaf:=rfl
theorem wH (hK:C5 K=true) (hi:i<K.length):(ZB K R i).Kids.length=4:=by grind [Gn,ZB]
theorem wI (hl:(BK K (i:Int)).Leaf=false) (hj:j<(BK K (i:Int)).Kids.length):P7 (ZB K R i) j=RO K R (P7 (BK K (i:Int)) j):=by
 unfold P7 ZB
 grind
theorem Uu (hl:(BK K (i:Int)).Leaf=true):(ZB K R i).Kids=(BK K (i:Int)).Kids:=by grind [ZB]
theorem YV (h:n<0):RO K R n=n:=by unfold RO;omega
theorem T5 (n:Nat):RO K R (n:Int)=(nZ K R n:Int):=by rfl
theorem AER (hK:C5 K=true) (hR:∀r∈R,Dc K r=true):C5 (VG K R)=true:=by
 rw[Gn];intro j hj;obtain⟨i,hi,hu,rfl⟩:=AAU hj;rw[(Tn hu hi).1];refine⟨wH hK hi,λn hn=>?_⟩;have h0:(0:Int)<=(i:Int):=by omega
 have h1:(i:Int)<(K.length:Int):=by omega
 obtain⟨h4,hk⟩:=Fo hK h0 h1;rw[ZA]
 cases hl:(BK K (i:Int)).Leaf with
 |true=>grind [Uu,Gn,RQ]
 |false=>
  obtain⟨m,hm,b⟩:=Ay hn;rw[wH hK hi]at hm;have e:n=RO K R (P7 (BK K (i:Int)) m):=by
   rw[<-wI hl (by omega),<-b]
   grind [P7]
  rcases FZ hK h0 h1 hl hm with k1|⟨k1,k2,k3⟩
  ·rw[k1,YV<|by omega]at e;subst e;rfl
  obtain⟨c,hc⟩:∃c:Nat,P7 (BK K (i:Int)) m=(c:Int):=⟨_,(AK k1).symm⟩;rw[hc]at e k2 k3;rw[T5]at e;have a:=V8 (Zz hK hR hu hl) h0 (Ao (hk m hm).1) (by omega);rw[hc]at a;have d:c<K.length:=by omega
  have f:nZ K R c<nZ K R i:=AFP (by simpa using a)<|by omega
  grind [Tn,ZA,RQ]
theorem ABl (hR:∀r∈R,Dc K r=true) (hr:r∈R):Dc (VG K R) (RO K R r)=true:=by
 rcases BN (hR r hr)with e|⟨h0,h1,hl⟩
 ·rw[e,YV<|by omega];rfl
 obtain⟨c,rfl⟩:∃c:Nat,r=(c:Int):=⟨_,(AK h0).symm⟩
 grind [P9,Cf,Tn,T5,ZA,Dc]
theorem wV (hK:C5 K=true) (hR:∀r∈R,Dc K r=true) (hr:r∈R):Et (VG K R) (RO K R r)=Et K r:=by
 unfold Et;apply D4;intro s hs;rw[fW]at hs;unfold RJ
 rcases BN (hR r hr)with e|⟨h0,h1,hl⟩
 ·grind [YV]
 obtain⟨c,rfl⟩:∃c:Nat,r=(c:Int):=⟨_,(AK h0).symm⟩;have a:=P9 (K:=K) hr h0;rw[Cf]at a;obtain⟨g1,g2⟩:=Tn a (by omega);obtain⟨h4,hk⟩:=Fo hK h0 h1;rw[T5,g1,wI hl<|by omega];simp only[B9 (show¬((nZ K R c:Nat):Int)<0 by omega),B9<|show¬((c:Nat):Int)<0 by omega]
 rcases FZ hK h0 h1 hl (show s/4<4 by omega)with k1|⟨k1,k2,k3⟩
 ·grind [YV]
 obtain⟨d,hd⟩:∃d:Nat,P7 (BK K (c:Int)) (s/4)=(d:Int):=⟨_,(AK k1).symm⟩;have b:=V8 hr h0 (Ao (hk (s/4)<|by omega).1) k1
 grind [T5,Tn,Uu,P7]
theorem AC9 (hK:C5 K=true) (hR:∀r∈R,Dc K r=true) (hj:j<(VG K R).length):C6 (VG K R) (R.map (RO K R)) j=true:=by
 obtain⟨i,hi,hu,rfl⟩:=AAU hj;have hu':=hu;unfold C6 at hu';rw[Ff]at hu';obtain⟨r,hr,h⟩:=hu';unfold O9 at h;simp only[Aj,H4,Bm,Ff]at h;obtain⟨h0,h⟩:=h;unfold C6;rw[Ff];refine⟨RO K R r,A8.2 ⟨r,hr,rfl⟩,?_⟩;obtain⟨c,rfl⟩:∃c:Nat,r=(c:Int):=⟨_,(AK h0).symm⟩;rw[T5];unfold O9;simp only[Aj,H4,Bm,Ff];refine⟨by omega,?_⟩
 rcases h with h|⟨n,hn,h⟩
 ·grind
 right
 rcases BN (hR _ hr)with e|⟨_,h1,hl⟩
 ·omega
 grind [P9,Cf,Tn,T5,ZB]
theorem SA {i:Int} (h0:0<=i) (h:i<(K.length:Int)):BK (K++X) i=BK K i:=by
 obtain⟨c,rfl⟩:∃c:Nat,i=(c:Int):=⟨_,(AK h0).symm⟩
 grind [Aq,BK]
theorem ABi (h:Dc K r=true):Dc (K++X) r=true:=by grind [SA,Dc]
theorem wR (hK:C5 K=true) (h:Dc K r=true):Et (K++X) r=Et K r:=by grind [D4,BN,SA,FZ,Et,RJ]
theorem iW {s:Nat} (hK:C5 K=true) (hr:Dc K r=true) (hs:s<16) (n:Int):(RD K r s n).length=4:=by grind [BN,FZ,Fo,RD]
theorem oD (hK:C5 K=true) (hr:Dc K r=true) (s:Nat):(VC K r s).length=4:=by grind [BN,Fo,VC]
theorem Xq {s:Nat}:BK (Ki K r s n) (K.length:Int)=Bf.mk true (RD K r s n):=by grind [Aq,BK,Ki]
theorem Xp {s:Nat}:BK (Ki K r s n) ((K.length:Int)+1)=Bf.mk false (VC K r s):=by
 unfold BK Ki;rw[show(K.length:Int)+1=((K.length+1:Nat):Int)from rfl,Aq,Ds (by omega),show K.length+1-K.length=1 by omega];rfl
theorem AE1 {s:Nat} (hK:C5 K=true) (hr:Dc K r=true) (hs:s<16) (hn:0<=n):C5 (Ki K r s n)=true:=by
 rw[Gn];intro j hj;have a:(Ki K r s n).length=K.length+2:=by unfold Ki;simp
 rw[a]at hj;by_cases h:j<K.length
 ·grind [SA,Gn,Ki,RQ]
 by_cases e:j=K.length
 ·subst e;rw[Xq];refine⟨iW hK hr hs n,λm hm=>?_⟩;simp only[RQ,Ap,Bm]
  rcases C3 hm with hm|hm
  ·rcases BN hr with e|⟨h0,h1,hl⟩
   ·grind
   rw[B9<|by omega]at hm
   rcases FZ hK h0 h1 hl (show s/4<4 by omega)with k1|⟨k1,k2,k3⟩
   ·grind
   rw[B9<|by omega]at hm;have hq:=Gn.1 hK (P7 (BK K r)<|s/4).toNat<|by omega
   grind [RQ]
  omega
 have:j=K.length+1:=by omega
 subst this;rw[show((K.length+1:Nat):Int)=(K.length:Int)+1 from rfl,Xp];refine⟨oD hK hr s,λm hm=>?_⟩;simp only[RQ,Ad,H4,HE,Aj,Bm]
 rcases C3 hm with hm|hm
 ·rcases BN hr with e|⟨h0,h1,hl⟩
  ·grind
  rw[B9<|by omega]at hm;obtain⟨q,hq,rfl⟩:=Ay hm;obtain⟨h4,hk⟩:=Fo hK h0 h1;have e5:=(hk q<|by omega).1
  grind [FZ,SA,Ki]
 grind [Xq]
theorem zP {s:Nat}:Dc (Ki K r s n) ((K.length:Int)+1)=true:=by grind [Xp,Dc,Ki]
theorem xG {s:Nat} (hK:C5 K=true) (hr:Dc K r=true) (hs:s<16):Et (Ki K r s n) ((K.length:Int)+1)=(Et K r).set s n:=by
 unfold Et;symm;apply PH;intro t ht;unfold RJ;rw[Xp];simp only[B9<|show¬((K.length:Int)+1)<0 by omega];have a:=oD hK hr s;have b:=iW hK hr hs n;by_cases hq:t/4=s/4
 ·have e1:P7 (Bf.mk false<|VC K r s) (t/4)=(K.length:Int):=by grind [P7,VC]
  rw[e1,B9 (by omega),Xq];have e2:P7 (Bf.mk true<|RD K r s n) (t %4)=if t %4=s %4 then n else(if r<0 then 0 else if P7 (BK K r) (s/4)<0 then 0 else P7 (BK K<|P7 (BK K r)<|s/4)<|t %4):=by grind [P7,RD]
  grind
 rw[B9<|show¬t=s by omega];have e1:P7 (Bf.mk false<|VC K r s) (t/4)=if r<0 then-1 else P7 (BK K r) (t/4):=by grind [P7,VC]
 rw[e1]
 grind [BN,FZ,SA,Ki]
def MS (n:Nat) (p:Nat->Bool):Nat:=((List.range n).filter p).length
theorem TZ (n:Nat) (p:Nat->Bool):MS (n+1) p=MS n p+(if p n=true then 1 else 0):=by grind [DN,MS]
theorem Zn (p q:Nat->Bool):∀n,MS n (λj=>p j||q j)<=MS n p+MS n q
 |0=>by simp[MS]
 |n+1=>by
  have:=Zn p q n
  grind [TZ]
theorem cU (x:Int):∀n,MS n (λj=>decide (x=(j:Int)))<=1/\(x>=(n:Int)->MS n (λj=>decide (x=(j:Int)))=0)
 |0=>by simp[MS]
 |n+1=>by
  obtain⟨h1,h2⟩:=cU x n
  grind [TZ]
theorem ACv (l:List Int) (n:Nat):MS n (λj=>l.any λx=>decide (x=(j:Int)))<=l.length:=by
 induction l with
 |nil=>simp[MS]
 |cons x l ih=>
  simp only[List.any_cons,AX];have:=Zn (λj=>decide<|x=(j:Int)) (λj=>l.any λx=>decide<|x=(j:Int)) n;have:=(cU x n).1;omega
theorem ADX {n:Nat} {q:Nat->Bool} (h:∀j,j<n->p j=true->q j=true):MS n p<=MS n q:=by
 induction n with
 |zero=>simp[MS]
 |succ n ih=>grind [TZ]
theorem rH {n:Nat} (h:∀j,j<n->p j=true):MS n p=n:=by
 induction n with
 |zero=>rfl
 |succ n ih=>grind [TZ]
theorem ADR (hK:C5 K=true) (hr:Dc K r=true) (n:Nat):MS n (O9 K r)<=5:=by
 have h1:=Zn (λj=>decide<|r=(j:Int)) (λj=>(BK K r).Kids.any λn=>decide<|n=(j:Int)) n;have h2:=(cU r n).1;have h3:=ACv (BK K r).Kids n
 have h4:MS n (O9 K r)<=MS n (λj=>decide (r=(j:Int))||(BK K r).Kids.any λn=>decide<|n=(j:Int)):=ADX λj _ h=>by grind [O9]
 rcases BN hr with e|⟨h0,hl,_⟩
 ·have:MS n (O9 K r)=MS n (λ_=>false):=by rw[e];rfl
  simp_all;grind
 grind [Fo]
theorem Z0 (hK:C5 K=true) (n:Nat):∀(R:List Int),(∀r∈R,Dc K r=true)->MS n (C6 K R)<=5*R.length
 |[],_=>by simp[MS,C6]
 |r::R,h=>by
  have h1:=Z0 hK n R (λx hx=>h x<|by simp[hx]);have h2:=ADR hK (h r<|by simp) n;have h3:=Zn (O9 K r) (C6 K R) n;have h4:MS n (C6 K (r::R))=MS n (λj=>O9 K r j||C6 K R j):=rfl
  grind
theorem zE (hK:C5 K=true) (hR:∀r∈R,Dc K r=true):(VG K R).length<=5*R.length:=by
 rw[wJ];exact Z0 hK _ R hR
def Bq (s:Store):List Int:=s.Vols.map Vol.Root
structure StoreR (s:Store):Prop where
 len:s.Vols.length<=3
 ar:C5 s.Arena.Knots=true
 nx:1<=s.Next/\s.Next<=1000000000
 ids:∀v∈s.Vols,1<=v.Id/\v.Id<=9
 asc:(s.Vols.map Vol.Id).Pairwise (·<·)
 root:∀r∈Bq s,Dc s.Arena.Knots r=true
 lt:∀r∈Bq s,∀x∈Et s.Arena.Knots r,x<s.Next
 few:s.Arena.Knots.length<=1000
structure Cq (s:Store):Prop extends StoreR s where
 used:∀i,i<s.Arena.Knots.length->C6 s.Arena.Knots (Bq s) i=true
theorem Cq.small (h:Cq s):s.Arena.Knots.length<=15:=by
 have h1:=Z0 h.ar s.Arena.Knots.length (Bq s) h.root;rw[rH h.used]at h1;have:(Bq s).length=s.Vols.length:=by unfold Bq;rw[Bw]
 have:=h.len;omega
def AF (s:Store):List (Int×List Int):=s.Vols.map λv=>(v.Id,Et s.Arena.Knots v.Root)
def Lh (s:Store):Store:=Store.mk (s.Vols.map λv=>Vol.mk v.Id<|RO s.Arena.Knots (Bq s) v.Root) (Arena.mk<|VG s.Arena.Knots<|Bq s) s.Next
theorem QE (s:Store):Bq (Lh s)=(Bq s).map (RO s.Arena.Knots (Bq s)):=by simp[Bq,Lh]
theorem wG (h:StoreR s):Cq (Lh s):=by
 have b:(Bq s).length=s.Vols.length:=by unfold Bq;rw[Bw]
 refine⟨⟨by unfold Lh;simpa using h.len,AER h.ar h.root,h.nx,?_,?_,?_,?_,?_⟩,?_⟩
 ·intro v hv;unfold Lh at hv;simp only[A8]at hv;obtain⟨w,hw,rfl⟩:=hv;exact h.ids w hw
 ·have:((Lh s).Vols.map Vol.Id)=s.Vols.map Vol.Id:=by unfold Lh;simp
  rw[this];exact h.asc
 ·intro r hr;rw[QE]at hr;obtain⟨q,hq,rfl⟩:=A8.1 hr;exact ABl h.root hq
 ·intro r hr;rw[QE]at hr;obtain⟨q,hq,rfl⟩:=A8.1 hr;have:=wV h.ar h.root hq;intro x hx;have a:x∈Et s.Arena.Knots q:=by rw[<-this];exact hx
  exact h.lt q hq x a
 ·have:=zE h.ar h.root;have:=h.len;show(VG s.Arena.Knots<|Bq s).length<=1000;omega
 intro i hi;rw[QE];exact AC9 h.ar h.root hi
theorem gJ (h:StoreR s):AF (Lh s)=AF s:=by
 unfold AF;show(s.Vols.map λv=>Vol.mk v.Id<|RO s.Arena.Knots (Bq s) v.Root).map _=_;rw[H7];apply D4;intro v hv;have:=wV h.ar h.root<|show v.Root∈Bq s from A8.2 ⟨v,hv,rfl⟩;show(v.Id,Et (VG s.Arena.Knots<|Bq s)<|RO s.Arena.Knots (Bq s) v.Root)=_;rw[this]
theorem Uv (s:Store) (hv:s.Vols.length<=1048576):NW s=some (Bq s):=by
 unfold NW;obtain⟨b,h1,h2⟩:=A9 (body:=λq:List Int×Int=>Je s q.1 q.2) (λ(o:List Int) i=>(o,i)) s.Vols.length (λi o=>o=(s.Vols.take i).map Vol.Root) (λb=>b=Bq s)
  (λo i hi ho=>by
   have hx:=Ab hi;simp only[Je,Do hi,Aq,hx,Aa]
   grind [AY,ad1,D5])
  (λo ho=>⟨o,by simp[CQ,Je],by rw[ho,AP<|A0 _];rfl⟩) (s:=[]) rfl
 grind
theorem LR (h:StoreR s):Hb s=some (Lh s):=by
 have hl:=h.len;have hf:=h.few;have c:(Bq s).length=s.Vols.length:=by unfold Bq;rw[Bw]
 unfold Hb;rw[Uv s<|by omega];simp only[Aa];rw[ZS _ (by omega) h.ar _ (by omega) h.root];rw[LH<|by omega];simp only[Aa];have q:=Om (body:=λq:Int×List Vol=>Jd ((Bq s).map<|RO s.Arena.Knots<|Bq s,VG s.Arena.Knots<|Bq s) q.1 q.2) (λl i=>(i,l)) (λ_ v=>Vol.mk v.Id<|RO s.Arena.Knots (Bq s) v.Root) s.Vols
  (λi l x a b d=>by
   have hi:=(Ae.1 b).1;simp only[Jd,Do hi]
   grind [Aq,DL,ad1,Bq])
  (λl a=>by grind [Bc,Jd])
 rw[IF]at q;rw[q];rfl
theorem Z8 (h:Cq s):Lh s=s:=by
 have d:∀i,i<=s.Arena.Knots.length->nZ s.Arena.Knots (Bq s) i=i:=λi hi=>rH λj hj=>h.used j<|by omega
 have b:∀n:Int,n<(s.Arena.Knots.length:Int)->RO s.Arena.Knots (Bq s) n=n:=λn hn=>by
  unfold RO
  grind
 have a:∀r∈Bq s,RO s.Arena.Knots (Bq s) r=r:=λr hr=>by
  rcases BN (h.root r hr)with e|⟨h0,h1,_⟩
  ·grind
  exact b r h1
 have c:VG s.Arena.Knots (Bq s)=s.Arena.Knots:=by
  unfold VG;rw[I6.2 λi hi=>h.used i<|by simpa using hi];apply B8;intro i;rw[Ex];by_cases hi:i<s.Arena.Knots.length
  ·rw[List.getElem?_range hi,Ab hi];simp only[JH];congr 1;have h0:(0:Int)<=(i:Int):=by omega
   have h1:(i:Int)<(s.Arena.Knots.length:Int):=by omega
   unfold ZB
   cases hl:(BK s.Arena.Knots (i:Int)).Leaf with
   |true=>
    simp only[Ap];rw[<-hl,PR hi]
   |false=>
    simp only[Ad];have:(BK s.Arena.Knots (i:Int)).Kids.map (RO s.Arena.Knots<|Bq s)=(BK s.Arena.Knots (i:Int)).Kids:=by
     conv=>rhs;rw[<-Vy (BK s.Arena.Knots (i:Int)).Kids]
     apply D4;intro n hn;obtain⟨q,hq,rfl⟩:=Ay hn;obtain⟨h4,hk⟩:=Fo h.ar h0 h1;have e5:=(hk q<|by omega).1;rw[Ab hq]at e5
     injection e5 with e5
     rw[e5]
     rcases FZ h.ar h0 h1 hl (show q<4 by omega)with k1|⟨k1,k2,k3⟩
     ·grind
     grind
    rw[this,<-hl,PR hi]
  grind
 unfold Lh;rw[c];have:(s.Vols.map λv=>Vol.mk v.Id<|RO s.Arena.Knots (Bq s) v.Root)=s.Vols:=by
  conv=>rhs;rw[<-Vy s.Vols]
  apply D4;intro v hv;rw[a _<|A8.2 ⟨v,hv,rfl⟩];rfl
 rw[this]
theorem cX {s:Nat} (hs:s<16):RJ K r s∈Et K r:=A8.2 ⟨s,by simpa using hs,rfl⟩
theorem S3 {l:List Int} {y:Int} (h:l.Pairwise (·<·)) (a:i<j) (hx:l[i]?=some x) (hy:l[j]?=some y):x<y:=by grind [C1]
theorem Sp (h:Cq s):PE s=some true:=by
 have hl:=h.len;have hf:=h.few;have d:(Bq s).length=s.Vols.length:=by unfold Bq;rw[Bw]
 unfold PE;rw[Bc,cF,K5 _ (by omega),h.ar,Dj,Ac h.nx];obtain⟨b,h1,h2⟩:=A9 (body:=λq:Int=>Kw s q) (λ(_:Unit) i=>i) s.Vols.length (λ_ _=>True) (λb=>b= .inl ())
  (λ_ i hi _=>by
   have hx:=Ab hi;have hm:s.Vols[i]∈s.Vols:=Av hi;have hr:s.Vols[i].Root∈Bq s:=A8.2 ⟨_,hm,rfl⟩;simp only[Kw,Do hi,Aq,hx,Aa];rw[Dj,Ac<|h.ids _ hm,Nl _ (by omega),h.root _ hr];simp only[Aa,An,Ad];have a:(cond (decide<|(i:Int)>0) ((gi s.Vols<|sb (i:Int) 1).bind λx2=>cond (decide<|x2.Id>=s.Vols[i].Id) (some true)<|some false) (some false):Option Bool)=some false:=by
    by_cases h0:i=0
    ·rw[cF]
    rw[cT,BV,show(i:Int)-1=((i-1:Nat):Int) by omega,Aq,Ab<|by omega];simp only[Aa];have:=S3 h.asc (show i-1<i by omega) (x:=s.Vols[i-1].Id) (y:=s.Vols[i].Id) (by grind) (by grind);rw[cF]
   rw[a];obtain⟨c,q1,q2⟩:=A9 (body:=λq:Int=>Nm s s.Vols[i] q) (λ(_:Unit) i=>i) 16 (λ_ _=>True) (λb=>b= .inl ())
    (λ_ k hk _=>by
     simp only[Nm];rw[cT,XO _ h.ar (h.root _ hr) hk];simp only[Aa];have:=h.lt _ hr _<|cX hk;rw[cF,ad1]
     simp)
    (λ_ _=>⟨_,by rfl,rfl⟩) (s:=()) trivial
   rw[q1,q2];rw[ad1]
   simp)
  (λ_ _=>⟨_,by simp[CQ,Kw],rfl⟩) (s:=()) trivial
 rw[h1,h2];simp only[Aa,DM];rw[Uv s (by omega),Aa,ZS _ (by omega) h.ar _ (by omega) h.root];have:VG s.Arena.Knots (Bq s)=s.Arena.Knots:=by
  have:=Z8 h
  grind [Lh]
 rw[this];simp
abbrev Vs:=List<|Int×List Int
def IQ (l:Vs) (id:Int):Option (List Int):=(l.find? λp=>p.1==id).map Prod.snd
def bG (l:Vs) (id:Int) (a:List Int):Vs:=(l.filter λp=>decide<|p.1<id)++ [(id,a)]++l.filter λp=>decide<|p.1>id
def uW (l:Vs) (id:Int):Vs:=l.filter λp=>p.1 !=id
def eA (l:Vs) (id:Int) (s:Nat) (n:Int):Vs:=l.map λp=>if p.1=id then(p.1,p.2.set s n)else p
def Gi (r:Cn):Bool:=decide (0<=r.Arg/\r.Arg<=1000000000)&&(bif r.Kind==1 then r.Vol==0&&r.Chunk==0 else decide (2<=r.Kind/\r.Kind<=5)&&decide (1<=r.Vol/\r.Vol<=9)&&(r.Kind==4||r.Chunk==0)&&
 (bif r.Kind==2 then decide (r.Arg<=9)else bif r.Kind==3 then r.Arg==0 else bif r.Kind==4 then decide (r.Arg<16)&&decide (1<=r.Chunk/\r.Chunk<=1000000000)else decide (r.Arg<16)))
def NJ:List Int:=List.replicate 16 0
def CJ (l:Vs) (nx:Int) (r:Cn):Option (Vs×Int):=if Gi r=false then none else if r.Kind=1 then some ([],if r.Arg=0 then 1 else r.Arg) else if r.Kind=2 then
  if(0<r.Arg/\IQ l r.Arg=none)\/IQ l r.Vol≠none\/l.length=3 then none else some (bG l r.Vol (if 0<r.Arg then(IQ l r.Arg).getD NJ else NJ),nx) else if IQ l r.Vol=none\/r.Chunk=1000000000 then none else if r.Kind=3 then some (uW l r.Vol,nx) else some (eA l r.Vol r.Arg.toNat r.Chunk,max nx<|r.Chunk+1)
theorem N8 (r:Cn):OT r=some (Gi r):=by
 unfold OT Gi;simp only[Dj,Aa]
 grind
theorem E8 (s:Store) (hv:s.Vols.length<=1048576) (id:Int):(CM s id=some (-1)/\∀v∈s.Vols,v.Id≠id)\/∃k:Nat,∃v,CM s id=some (k:Int)/\s.Vols[k]?=some v/\v.Id=id/\∀j w,j<k->s.Vols[j]?=some w->w.Id≠id:=by
 unfold CM;obtain⟨b,h1,h2⟩:=A9 (body:=λq:Int=>Hc s id q) (λ(_:Unit) i=>i) s.Vols.length (λi _=>∀j w,j<i->s.Vols[j]?=some w->w.Id≠id)
  (λb=>(b= .inl ()/\∀v∈s.Vols,v.Id≠id)\/∃k:Nat,∃v,b= .inr (k:Int)/\s.Vols[k]?=some v/\v.Id=id/\∀j w,j<k->s.Vols[j]?=some w->w.Id≠id)
  (λ_ i hi hs=>by
   have hx:=Ab hi;simp only[Hc,Do hi,Aq,hx,Aa]
   cases e:(s.Vols[i].Id==id)with
   |true=>grind
   |false=>
    rw[ad1];refine .inl ⟨(),rfl,λj w hj hw=>?_⟩
    grind)
  (λ_ hs=>⟨_,by simp[CQ,Hc],.inl ⟨rfl,λv hv=>by
   obtain⟨j,hj,rfl⟩:=Ay hv
   simp_all⟩⟩) (s:=()) (λj w hj=>by omega)
 grind
theorem IP {id:Int}:(∀v∈s.Vols,v.Id≠id)↔IQ (AF s) id=none:=by
 unfold IQ AF;simp
theorem AD3 {w:Vol} (h:(s.Vols.map Vol.Id).Pairwise (·<·)) (hv:v∈s.Vols) (hw:w∈s.Vols) (e:v.Id=w.Id):v=w:=by
 obtain⟨i,hi,rfl⟩:=Ay hv;obtain⟨j,hj,rfl⟩:=Ay hw;have gi:(s.Vols.map Vol.Id)[i]?=some s.Vols[i].Id:=by grind
 have gj:(s.Vols.map Vol.Id)[j]?=some s.Vols[j].Id:=by grind
 rcases Vx i j with h1|h1|h1
 ·have:=S3 h h1 gi gj;omega
 ·subst h1;rfl
 have:=S3 h h1 gj gi;omega
theorem LE (h:(s.Vols.map Vol.Id).Pairwise (·<·)) (hv:v∈s.Vols):IQ (AF s) v.Id=some (Et s.Arena.Knots v.Root):=by
 unfold IQ;have hm:(v.Id,Et s.Arena.Knots v.Root)∈AF s:=A8.2 ⟨v,hv,rfl⟩
 cases hf:(AF s).find? λp=>p.1==v.Id with
 |none=>grind
 |some p=>
  have h1:=List.find?_some hf;have h2:=List.mem_of_find?_eq_some hf;obtain⟨w,hw,rfl⟩:=A8.1 h2
  grind [AD3]
theorem KT (s:Store):(AF s).length=s.Vols.length:=by unfold AF;rw[Bw]
theorem pJ (K:Ks):Et K (-1)=NJ:=by rfl
theorem vF (s:Store) (p:Int->Bool) (t:Store) (hk:t.Arena=s.Arena) (hv:t.Vols=s.Vols.filter λv=>p v.Id):AF t=(AF s).filter λq=>p q.1:=by
 unfold AF;rw[hk,hv,List.filter_map];rfl
theorem TC {body:List Vol×Int->Option ((List Vol×Int)⊕List Vol)} (l:List Vol) (p:Vol->Bool) (o:List Vol) (hM:l.length+o.length<=1048576) (h1:∀(i:Nat) v (a:List Vol),l[i]?=some v->a.length<=1048576->body (a,(i:Int))=some (.inl (bif p v then a++ [v]else a,((i+1:Nat):Int)))) (h2:∀a,body (a,(l.length:Int))=some (.inr a)):
  Ah body (o,0)=some (o++l.filter p):=by
 obtain⟨b,h3,h4⟩:=A9 (body:=body) (λ(q:List Vol) i=>(q,i)) l.length (λi q=>q=o++(l.take i).filter p) (λb=>b=o++l.filter p)
  (λq i hi hq=>by grind [D5])
  (λq hq=>⟨q,h2 q,by grind⟩) (s:=o) (by simp)
 rw[h3,h4]
theorem ACc {R':List Int} (h:∀r∈R,r∈R') (hu:C6 K R i=true):C6 K R' i=true:=by grind [C6]
theorem ZH {l:List Vol} (h:(l.map Vol.Id).Pairwise (·<·)) (v:Vol):(((l.filter λw=>decide (w.Id<v.Id))++ [v]++l.filter λw=>decide (w.Id>v.Id)).map Vol.Id).Pairwise (·<·):=by simp_all [Bk];grind
theorem gP (l:List Vol) (id:Int):(l.filter λw=>decide (w.Id<id)).length+(l.filter λw=>decide (w.Id>id)).length<=l.length:=by
 induction l with
 |nil=>simp
 |cons v l ih=>grind
def LT (s:Store) (r:Cn) (o:Option (Store×Bool)):Prop:=match CJ (AF s) s.Next r with
 |none=>o=some (s,false)
 |some (l,nx)=>∃t,o=some (t,true)/\Cq t/\AF t=l/\t.Next=nx
theorem AAm {r:Cn} (h:Cq s) (hr:Gi r=true) (hk:r.Kind=2):LT s r (FQ s r):=by
 have hl:=h.len;have d:=KS h.ar (by have:=h.few;omega);have b:=FT s d (by omega);have hb:Gi r=true:=hr;unfold Gi at hr;rw[hk]at hr;simp at hr;unfold LT CJ;rw[hb,hk];simp only[Bool.true_eq_false,uE,C4,show¬((2:Int)=1) by omega];unfold FQ;have root:(IQ (AF s) r.Arg=none/\0<r.Arg/\(cond (decide<|r.Arg>0) ((CM s r.Arg).bind λv1=>cond (decide<|v1<0) ((DE s).bind λv2=>some<|.inr (v2,false))<|(gi s.Vols v1).bind λx1=>some<|.inl x1.Root) (some<|.inl<|-1):Option (Int⊕(Store×Bool)))=some (.inr (s,false)))\/
   (¬(0<r.Arg/\IQ (AF s) r.Arg=none)/\∃q,Dc s.Arena.Knots q=true/\(q= -1\/q∈Bq s)/\Et s.Arena.Knots q=(if 0<r.Arg then(IQ (AF s) r.Arg).getD NJ else NJ)/\(cond (decide<|r.Arg>0) ((CM s r.Arg).bind λv1=>cond (decide<|v1<0) ((DE s).bind λv2=>some<|.inr (v2,false))<|(gi s.Vols v1).bind λx1=>some<|.inl x1.Root) (some<|.inl<|-1):Option (Int⊕(Store×Bool)))=some (.inl q)):=by
  by_cases h0:0<r.Arg
  ·rw[Ac (by omega:r.Arg>0)]
   rcases E8 s (by omega) r.Arg with⟨h1,h2⟩|⟨k,v,h1,h2,h3,_⟩
   ·grind [IP]
   right;rw[h1];have hm:=Ao h2;have hg:=LE h.asc hm;refine⟨λhh=>(by grind),v.Root,h.root _<|A8.2 ⟨v,hm,rfl⟩,.inr<|A8.2 ⟨v,hm,rfl⟩,?_,?_⟩
   ·grind
   grind [Aq]
  right;rw[Ai (by omega:¬r.Arg>0),B9 h0];exact⟨λhh=>h0 hh.1,-1,rfl,.inl rfl,pJ _,rfl⟩
 rcases root with⟨g1,g2,g3⟩|⟨g1,q,g2,g3,g4,g5⟩
 ·grind
 rw[g5];simp only[Aa,DM]
 rcases E8 s (by omega) r.Vol with⟨h1,h2⟩|⟨k,v,h1,h2,h3,_⟩
 ·rw[h1];rw[Aa,cF,Bc];have j:IQ (AF s) r.Vol=none:=IP.1 h2;by_cases h3:s.Vols.length=3
  ·grind [KT]
  have e3:((s.Vols.length:Int)==3)=false:=by simp;omega
  rw[e3,B9<|by grind [KT]];rw[b];have k1:=TC (body:=λq:List Vol×Int=>GV s r q.1 q.2) s.Vols (λv=>decide<|v.Id<r.Vol) [] (by simp;omega)
   (λi v c hv ho=>by
    have hi:=(Ae.1 hv).1;simp only[GV,Do hi,Aq,hv,Aa]
    grind [ad1,AY])
   (λc=>by simp[CQ,GV])
  rw[Ax]at k1;rw[k1];simp only[Aa];have l:=gP s.Vols r.Vol;rw[AY (by simp;omega)];simp only[Aa];have k2:=TC (body:=λq:List Vol×Int=>GU s r q.1 q.2) s.Vols (λv=>decide<|v.Id>r.Vol) ((s.Vols.filter λv=>decide<|v.Id<r.Vol)++ [Vol.mk r.Vol q]) (by simp;omega)
   (λi v c hv ho=>by
    have hi:=(Ae.1 hv).1;simp only[GU,Do hi,Aq,hv,Aa]
    grind [ad1,AY])
   (λc=>by simp[CQ,GU])
  rw[k2];have f:((s.Vols.filter λv=>decide<|v.Id<r.Vol)++ [Vol.mk r.Vol q]++s.Vols.filter λv=>decide<|v.Id>r.Vol).length<=3:=by grind
  have g:∀x∈Bq s,x∈(Bq<|Store.mk ((s.Vols.filter λv=>decide<|v.Id<r.Vol)++ [Vol.mk r.Vol q]++s.Vols.filter λv=>decide<|v.Id>r.Vol) s.Arena s.Next):=by
   intro x hx;obtain⟨v,hv,rfl⟩:=A8.1 hx;refine A8.2 ⟨v,?_,rfl⟩
   grind
  have a:∀x∈(Bq<|Store.mk ((s.Vols.filter λv=>decide<|v.Id<r.Vol)++ [Vol.mk r.Vol q]++s.Vols.filter λv=>decide<|v.Id>r.Vol) s.Arena s.Next),x= -1\/x∈Bq s:=by
   intro x hx;obtain⟨v,hv,rfl⟩:=A8.1 hx;simp only[A6,AR,Ck]at hv
   rcases hv with(hv|rfl)|hv
   ·exact .inr<|A8.2 ⟨v,hv.1,rfl⟩
   ·exact g3
   exact .inr<|A8.2 ⟨v,hv.1,rfl⟩
  refine⟨_,rfl,⟨⟨f,h.ar,h.nx,?_,ZH h.asc<|Vol.mk r.Vol q,?_,?_,h.few⟩,?_⟩,?_,rfl⟩
  ·intro v hv;simp only[A6,AR,Ck]at hv
   rcases hv with(hv|rfl)|hv
   ·exact h.ids v hv.1
   ·grind
   exact h.ids v hv.1
  ·intro x hx
   rcases a x hx with e|e
   ·rw[e];rfl
   exact h.root x e
  ·intro x hx
   rcases a x hx with e|e
   ·intro y hy;rw[e]at hy;rw[pJ]at hy;have:=DG hy;have:=h.nx
    grind
   exact h.lt x e
  ·intro i hi;exact ACc g<|h.used i hi
  rw[<-g4];unfold bG AF;simp only[JI,HF,List.map_nil,List.filter_map];rfl
 rw[h1];have hg:=LE h.asc<|Ao h2
 grind
theorem P4 {f:α->Int} {v:α} (h:(l.map f).Pairwise (·<·)) (hv:l[k]?=some v):l.take k++l.drop (k+1)=l.filter λw=>f w !=f v:=by
 rw[List.pairwise_map]at h;have hk:=(Ae.1 hv).1;have e:l=l.take k++v::l.drop (k+1):=by grind [AB,BE]
 rw[e,Bk]at h;obtain⟨h1,h2,h3⟩:=h;rw[Cj]at h2
 conv=>rhs;rw[e]
 rw[Cl,List.filter_cons_of_neg<|by simp]
 grind [I6]
theorem ACp (h:Cq s) (id:Int):StoreR (Store.mk (s.Vols.filter λw=>w.Id !=id) s.Arena s.Next):=by
 have hl:=h.len;refine⟨?_,h.ar,h.nx,λv hv=>h.ids v (AR.1 hv).1,?_,?_,?_,h.few⟩
 ·grind
 ·have:=h.asc
  grind
 ·intro x hx;obtain⟨w,hw,rfl⟩:=A8.1 hx;exact h.root _<|A8.2 ⟨w,(AR.1 hw).1,rfl⟩
 intro x hx;obtain⟨w,hw,rfl⟩:=A8.1 hx;exact h.lt _<|A8.2 ⟨w,(AR.1 hw).1,rfl⟩
theorem AEr {t:Nat} (h:Cq s) (h2:s.Vols[k]?=some v) (ht:t<16) (hn:0<=n) (e:n+1<=1000000000):StoreR (Store.mk (s.Vols.set k (Vol.mk v.Id ((s.Arena.Knots.length:Int)+1))) (Arena.mk (Ki s.Arena.Knots v.Root t n)) (max s.Next (n+1))):=by
 have hl:=h.len;have hm:=Ao h2;have a:=h.root _<|A8.2 ⟨v,hm,rfl⟩;have f:=h.small
 have b:∀w∈s.Vols.set k (Vol.mk v.Id<|(s.Arena.Knots.length:Int)+1),w∈s.Vols\/w=Vol.mk v.Id ((s.Arena.Knots.length:Int)+1):=λw hw=>C3 hw
 refine⟨by simpa using hl,AE1 h.ar a ht hn,?_,?_,?_,?_,?_,?_⟩
 ·have:=h.nx
  grind
 ·intro w hw
  rcases b w hw with hw|rfl
  ·exact h.ids w hw
  exact h.ids v hm
 ·have:(s.Vols.set k<|Vol.mk v.Id<|(s.Arena.Knots.length:Int)+1).map Vol.Id=s.Vols.map Vol.Id:=by
   rw[List.map_set];apply B8
   grind
  rw[this];exact h.asc
 ·intro x hx;obtain⟨w,hw,rfl⟩:=A8.1 hx
  rcases b w hw with hw|rfl
  ·exact ABi<|h.root _<|A8.2 ⟨w,hw,rfl⟩
  exact zP
 ·intro x hx y hy;obtain⟨w,hw,rfl⟩:=A8.1 hx;show y<max s.Next (n+1)
  rcases b w hw with hw|rfl
  ·have d:=h.root _<|A8.2 ⟨w,hw,rfl⟩;have c:y∈Et s.Arena.Knots w.Root:=by rw[<-wR (X:=[Bf.mk true<|RD s.Arena.Knots v.Root t n,Bf.mk false<|VC s.Arena.Knots v.Root t]) h.ar d];exact hy
   have:=h.lt _ (A8.2 ⟨w,hw,rfl⟩) y c;omega
  have c:y∈(Et s.Arena.Knots v.Root).set t n:=by rw[<-xG (s:=t) (n:=n) h.ar a (by omega)];exact hy
  rcases C3 c with c|rfl
  ·have:=h.lt _ (A8.2 ⟨v,hm,rfl⟩) y c;omega
  omega
 grind [Ki]
theorem cN (h:Cq s) (r:Cn):LT s r (T3 s r):=by
 have hl:=h.len;have d:=KS h.ar (by have:=h.few;omega);have c:=FT s d (by omega);unfold T3;rw[Sp h,N8];simp only[Aa,An,Ad]
 cases hb:Gi r with
 |false=>grind [LT,CJ]
 |true=>
  have hr:=hb;unfold Gi at hr
  cases k1:(r.Kind==1)with
  |true=>
   have e1:r.Kind=1:=by simpa using k1
   rw[e1]at hr;simp at hr;unfold LT CJ;rw[hb,e1];have:(cond (r.Arg==0) (some 1) (some r.Arg):Option Int)=some (if r.Arg=0 then 1 else r.Arg):=by grind
   rw[this];refine⟨_,rfl,⟨⟨by simp,rfl,?_,by simp,by simp,by simp[Bq],by simp[Bq],by simp⟩,by simp⟩,rfl,rfl⟩
   grind
  |false=>
   have n1:r.Kind≠1:=by simpa using k1
   rw[k1]at hr
   cases k2:(r.Kind==2)with
   |true=>
    have:=AAm h hb (by simpa using k2);have e:((FQ s r).bind λv4=>some (v4.1,v4.2))=FQ s r:=by cases FQ s r<;>rfl
    grind
   |false=>
    have n2:r.Kind≠2:=by simpa using k2
    unfold LT CJ;rw[hb];simp only[Bool.true_eq_false,uE,B9 n1,B9 n2]
    rcases E8 s (by omega) r.Vol with⟨h1,h2⟩|⟨k,v,h1,h2,h3,_⟩
    ·grind [IP]
    rw[h1];simp only[Aa];rw[cF];simp only[Aa];have hm:=Ao h2;have f:=(Ae.1 h2).1;have hg:=LE h.asc hm
    cases hc:(r.Chunk==1000000000)with
    |true=>grind
    |false=>
     have n:r.Chunk≠1000000000:=by simpa using hc
     rw[B9 (by grind),c];simp only[Aa]
     cases k3:(r.Kind==3)with
     |true=>
      have e3:r.Kind=3:=by simpa using k3
      rw[Cc e3];rw[Bc,ad1];have d1:dr s.Vols 0 (k:Int)=some (s.Vols.take k):=by grind [dr]
      have d2:dr s.Vols ((k+1:Nat):Int) (s.Vols.length:Int)=some (s.Vols.drop<|k+1):=by grind [AP,dr]
      rw[d1,d2];simp only[Aa];rw[LH (by simp;omega)];simp only[Aa];rw[AY (by simp;omega),P4 h.asc h2,h3];simp only[Aa];have hR:=ACp h r.Vol;rw[LR hR];refine⟨_,rfl,wG hR,?_,rfl⟩;rw[gJ hR];exact vF s (λid=>id !=r.Vol) _ rfl rfl
     |false=>
      have n3:r.Kind≠3:=by simpa using k3
      rw[B9 n3];have ha:0<=r.Arg/\r.Arg<16/\0<=r.Chunk/\r.Chunk<=1000000000:=by grind
      obtain⟨t,ht⟩:∃t:Nat,r.Arg=(t:Int):=⟨_,(AK ha.1).symm⟩;rw[Aq,h2];simp only[Aa];have a:=h.root _<|A8.2 ⟨v,hm,rfl⟩;rw[ht,ZW _ (by have:=h.few;omega) h.ar a (by omega) ha.2.2.1];simp only[Aa];rw[DL];have hR:=AEr h h2 (show t<16 by omega) ha.2.2.1 (show r.Chunk+1<=1000000000 by omega);have m:AF (Store.mk (s.Vols.set k<|Vol.mk v.Id<|(s.Arena.Knots.length:Int)+1) (Arena.mk<|Ki s.Arena.Knots v.Root t r.Chunk)<|max s.Next<|r.Chunk+1)=eA (AF s) r.Vol t r.Chunk:=by
       unfold AF eA;simp only[H7];apply B8;intro j;rw[Ex,Ex,OD];by_cases e:k=j
       ·subst e;rw[Cc rfl,Cc f,h2];simp only[JH,Function.comp];rw[Cc h3,xG h.ar a<|by omega]
       rw[B9 e]
       cases hj:s.Vols[j]? with
       |none=>rfl
       |some w=>
        have g:=Ao hj;have i:w.Id≠r.Vol:=by
         intro e2;have gi:(s.Vols.map Vol.Id)[k]?=some v.Id:=by grind
         have gj:(s.Vols.map Vol.Id)[j]?=some w.Id:=by grind
         rcases Vx k j with q|q|q
         ·have:=S3 h.asc q gi gj;omega
         ·exact e q
         grind
        simp only[JH,Function.comp];rw[B9 i];have:=wR (X:=[Bf.mk true<|RD s.Arena.Knots v.Root t r.Chunk,Bf.mk false<|VC s.Arena.Knots v.Root t]) h.ar<|h.root _<|A8.2 ⟨w,g,rfl⟩
        grind [Ki]
      have l:∀b:Bool,b=decide (r.Chunk>=s.Next)->(cond b ((Hb<|Store.mk (s.Vols.set k<|Vol.mk v.Id<|(s.Arena.Knots.length:Int)+1) (Arena.mk<|Ki s.Arena.Knots v.Root t r.Chunk)<|ad r.Chunk 1).bind λv11=>some (v11,true))<|(Hb<|Store.mk (s.Vols.set k<|Vol.mk v.Id<|(s.Arena.Knots.length:Int)+1) (Arena.mk<|Ki s.Arena.Knots v.Root t r.Chunk) s.Next).bind λv12=>some (v12,true))=(Hb<|Store.mk (s.Vols.set k<|Vol.mk v.Id<|(s.Arena.Knots.length:Int)+1) (Arena.mk<|Ki s.Arena.Knots v.Root t r.Chunk)<|max s.Next<|r.Chunk+1).bind λv=>some (v,true):=by grind [Ch]
      rw[l _ rfl,LR hR];refine⟨_,rfl,wG hR,?_,rfl⟩
      grind [gJ]
theorem ABU (s:ByteArray) (f a:Int):NY s f a=Ah (λn:Int=>Ga s a f n) 0:=by
 show(Ah (λn:Int=>Ga s a f n) 0).bind _=_;simp
theorem ABT (s:ByteArray) (f a:Nat) (hf:f<a) (ha:a<=(L s).length) (hs:(L s).length<=64):∃k:Nat,Ah (λn:Int=>Ga s (a:Int) (f:Int) n) 0=some (k:Int)/\k<=31/\a+k<=(L s).length:=by
 obtain⟨b,h1,k,rfl,h2,h3⟩:=A9 (body:=λn:Int=>Ga s (a:Int) (f:Int) n) (λ(_:Unit) i=>i) 31 (λi _=>a+i<=(L s).length) (λb=>∃k:Nat,b=(k:Int)/\k<=31/\a+k<=(L s).length)
  (λ_ i hi hs=>by
   simp only[Ga];rw[cT,Ch,Ch,Bu];by_cases c:a+i<(L s).length
   ·rw[cT];have e1:((f:Int)+(i:Int))=((f+i:Nat):Int):=by omega
    have e2:((a:Int)+(i:Int))=((a+i:Nat):Int):=by omega
    rw[e1,e2,EI s (by omega),EI s c];simp only[Aa]
    cases((((L s)[f+i]).toNat:Int)==(((L s)[a+i]).toNat:Int))with
    |true=>
     rw[ad1];exact .inl ⟨(),rfl,by omega⟩
    |false=>grind
   grind)
  (λ_ hs=>by
   simp only[Ga];rw[cF]
   exact⟨_,rfl,31,rfl,by omega,hs⟩) (s:=()) (by omega)
 grind
theorem tZ (s:ByteArray) (a:Nat) (ha:a<=(L s).length) (hs:(L s).length<=64):∃z b:Nat,TF s (a:Int)=some ((z:Int),(b:Int))/\Ah (λq:Int×Int×Int=>Ec s (a:Int) q.1 q.2.1 q.2.2) (0,0,sb (a:Int) 1)=some ((z:Int),(b:Int))/\z<=31/\a+z<=(L s).length/\(z=0\/4<=z/\1<=b/\b<=a):=by
 have c:(λq:Int×Int×Int=>Ec s (a:Int) q.1 q.2.1 q.2.2)=λq:Int×Int×Int=>Hh s (a:Int) q.1 q.2.1 q.2.2:=by grind [ABU,Ec,Hh]
 rw[c,BV];obtain⟨r,h1,z,b,rfl,h2,h3,h4⟩:=A9 (body:=λq:Int×Int×Int=>Hh s (a:Int) q.1 q.2.1 q.2.2) (λ(q:Nat×Nat) i=>((q.1:Int),(q.2:Int),(a:Int)-1-i)) a (λi q=>q.1<=31/\a+q.1<=(L s).length/\(q.1=0\/4<=q.1/\1<=q.2/\q.2<=a)) (λr=>∃z b:Nat,r=((z:Int),(b:Int))/\z<=31/\a+z<=(L s).length/\(z=0\/4<=z/\1<=b/\b<=a))
  (λq i hi hq=>by
   obtain⟨k,m1,m2,m3⟩:=ABT s (a-1-i) a (by omega) ha hs;have e1:((a:Int)-1-(i:Int))=((a-1-i:Nat):Int):=by omega
   simp only[Hh,e1];rw[Ac (by omega:(((a-1-i:Nat)):Int)>=0),Ap,m1,Aa,BV,BV];refine .inl ?_;have e2:(((a-1-i:Nat):Int)-1)=(a:Int)-1-((i+1:Nat):Int):=by omega
   have e3:((a:Int)-((a-1-i:Nat):Int))=((1+i:Nat):Int):=by omega
   rw[e2,e3];by_cases h4:4<=k
   ·rw[cT];by_cases h5:q.1<k
    ·rw[Ac (by omega:(k:Int)>(q.1:Int))];exact⟨(k,1+i),rfl,m2,m3,.inr ⟨h4,by omega,by omega⟩⟩
    grind
   grind)
  (λq hq=>by
   simp only[Hh]
   grind) (s:=(0,0)) ⟨by omega,by omega,.inl rfl⟩
 grind [BV,TF]
def VE (t:AM):Prop:=(t.Back=0/\t.Size=0/\1<=(L t.Text).length/\(L t.Text).length<=31)\/(1<=t.Back/\t.Back<=64/\4<=t.Size/\t.Size<=31/\L t.Text=[])
theorem EU (l:List α) (x:α):gi (l++ [x]) (l.length:Int)=some x:=by
 rw[Aq];simp
theorem JM (l:List α) (x y:α):si (l++ [x]) (l.length:Int) y=l++ [y]:=by
 rw[DL];simp
theorem rY (s:ByteArray) (hs:(L s).length<=64):∃l,Lt s=some l/\QZ s=some l/\l.length<=64/\∀t∈l,VE t:=by
 unfold Lt QZ;obtain⟨l,h1,h2,h3,h4⟩:=T9 (body:=λq:List AM×Int=>Cx s q.1 q.2) (body':=λq:List AM×Int=>LZ s q.1 q.2) (λq=>(L s).length-q.2.toNat)
  (λq=>∃a:Nat,q.2=(a:Int)/\a<=(L s).length/\q.1.length<=a/\∀t∈q.1,VE t) (λl=>l.length<=64/\∀t∈l,VE t)
  (by
   rintro⟨f,at_⟩ ⟨a,ha,h1,h2,h3⟩;simp only at ha h2 h3;subst ha;simp only[Cx,LZ];rw[Bu];by_cases i:a<(L s).length
   ·rw[Ac (by omega:(a:Int)<((L s).length:Int)),Ap,Ap];obtain⟨z,b,m1,m2,m3,m4,m5⟩:=tZ s a h1 hs;rw[m1,m2];simp only[Aa]
    have c:∀x:AM,ap 32 f [x]=some (f++ [x]):=λx=>AY<|by grind
    refine .inl ?_;by_cases hz:z=0
    ·subst hz;have esub:sub s (a:Int) (ad (a:Int) 1)=some (s.extract a<|a+1):=by rw[ad1];exact FM s (by omega) (by omega)
     have elen:(L<|s.extract a<|a+1).length=1:=by grind [Kg]
     rw[esub,ad1,BV (by rw[Bc];omega) (by rw[Bc];omega),Bc]
     have ecat:∀x:ByteArray,(L x).length<=31->HG x (s.extract a<|a+1)=some (x++s.extract a (a+1)):=λx hx=>GL _ _ (by rw[elen];omega)
     have e0:HG (bs []) (s.extract a<|a+1)=some (s.extract a<|a+1):=by
      rw[ecat _ (by rw[DO];simp)];rfl
     have enew:VE (AM.mk 0 0<|s.extract a<|a+1):= .inl ⟨rfl,rfl,by grind,by grind⟩
     have d:∀(o:List AM) (x:AM),(∀t∈o,VE t)->VE x->∀t∈o++ [x],VE t:=λo x ho hx t ht=>by grind
     have fin:∀o:List AM,o.length<=a+1->(∀t∈o,VE t)->(∃a':Nat,((a+1:Nat):Int)=(a':Int)/\a'<=(L s).length/\o.length<=a'/\∀t∈o,VE t)/\(L s).length-(((a+1:Nat)):Int).toNat<(L s).length-((a:Int)).toNat:=λo g h=>⟨⟨a+1,rfl,by omega,g,h⟩,by omega⟩
     rcases GZ f with rfl|⟨o,x,rfl⟩
     ·simp only[Nf,Int.ofNat_zero,Int.zero_sub];rw[Ac (by omega:(-1:Int)<0),Ai (by omega:¬(-1:Int)>=0)];simp only[Ap,Ad,Aa,c];rw[show ad (-1) 1=(([]:List AM).length:Int)from rfl];simp only[EU,Aa,e0,JM];exact⟨_,rfl,rfl,fin _ (by simp)<|d _ _ (by simp) enew⟩
     rw[Km]at h2 h3 c⊢;simp only[AD,CY]at h2⊢;have ek:(((o.length+1:Nat):Int)-1)=(o.length:Int):=by omega
     rw[ek,Ai (by omega:¬(o.length:Int)<0),Ac (by omega:(o.length:Int)>=0)];simp only[Ap,Ad,EU,Aa];have hx:=h3 x (by simp);have e:=d (o++ [x]) _ h3 enew;have elast:ad (o.length:Int) 1=((o++ [x]).length:Int):=by rw[ad1];simp
     rcases hx with⟨x1,x2,x3,x4⟩|⟨x1,x2,x3,x4,x5⟩
     ·rw[x1];simp only[show((0:Int)==0)=true from rfl,Ap,show decide ((0:Int)>0)=false from rfl,Ad];rw[Bu];by_cases h31:(L x.Text).length<31
      ·rw[Ac (by omega:((L x.Text).length:Int)<31),Ai (by omega:¬((L x.Text).length:Int)>=31)];simp only[Ap,Ad,Aa,EU,ecat _ x4,JM];simp only[x1];refine⟨_,rfl,rfl,fin _ (by simp;omega)<|d _ _ (λt ht=>h3 t<|by simp[ht])<|.inl ⟨rfl,x2,?_,?_⟩⟩
       ·grind [Ha]
       grind [Ha]
      rw[Ai (by omega:¬((L x.Text).length:Int)<31),Ac (by omega:((L x.Text).length:Int)>=31)];simp only[Ap,Ad,Aa,c,elast,EU,e0,JM];exact⟨_,rfl,rfl,fin _ (by simp;omega) e⟩
     have hb:(x.Back==0)=false:=by simp;omega
     rw[hb,Ac (by omega:x.Back>0)];simp only[Ap,Ad,Aa,c,elast,EU,e0,JM];exact⟨_,rfl,rfl,fin _ (by simp;omega) e⟩
    rw[Ac (by omega:(z:Int)>0),Ap,Ap,c];rw[Ch];refine⟨_,rfl,rfl,⟨a+z,by simp,by omega,by simp;omega,?_⟩,by simp only;omega⟩;intro t ht
    rcases A6.1 ht with ht|ht
    ·exact h3 t ht
    rw[Ck]at ht;subst ht;refine .inr ⟨?_,?_,?_,?_,by rfl⟩<;>simp only<;>omega
   grind) ((L s).length) ([],0) (by simp) ⟨0,rfl,by omega,by simp,by simp⟩
 grind
theorem ZD (l m:List Int):L (Fu (l++m))=L (Fu l)++L (Fu m):=by grind [O4]
theorem Se (l:List Int):(L (Fu l)).length=l.length:=by rw[O4,Bw]
theorem AAW (b:ByteArray):L (Fu (zJ b))=L b:=by
 rw[O4,zJ,H7];have:((λn:Int=>UInt8.ofNat n.toNat)∘λc:UInt8=>(c.toNat:Int))=id:=by
  funext c;simp
 rw[this,Vy];rfl
theorem ACF (l:List Int) (b:ByteArray):aps l b=ap 1 l (zJ b):=by simp[zJ,aps,ap]
theorem kL (b:ByteArray):(zJ b).length=(L b).length:=by simp[zJ,L]
theorem Y4 (s:ByteArray):∃z ok,E9 s=some (z,ok)/\LD s=some (z,ok)/\(ok=false->z=bs [])/\(ok=true->(L s).length<=64/\((L z)[0]?=some 122\/(L z)[0]?=some 114)):=by
 unfold E9 LD;rw[Bu];by_cases hs:(L s).length<=64
 ·rw[Ai (by omega:¬((L s).length:Int)>64),Ad,Ad];obtain⟨l,t1,t2,t3,t4⟩:=rY s hs;rw[t1,t2];simp only[Aa];obtain⟨z,v,h1,h2,rfl,h3,h4⟩:=iT (body:=λq:ByteArray×Int=>ER l q.1 q.2) (body':=λq:List Int×Int=>Jo l q.1 q.2) (λv i=>(Fu v,i)) (λv i=>(v,i)) l.length (λi v=>v.length<=1+33*i/\(L<|Fu v)[0]?=some 122) (λz v=>z=Fu v/\v.length<=4000/\(L<|Fu v)[0]?=some 122)
   (λv i hi hv=>by
    have hg:l[i]?=some l[i]:=Ab hi;have ht:=t4 _<|Av hi;refine .inl ?_;simp only[ER,Jo,Fl,Ac hi,Ap,Aq,hg,Aa]
    have b:∀(a:ByteArray) (m:List Int),(L a).length<=4000->m.length<=2->HG a (Fu m)=some (a++Fu m):=λa m h1 h2=>GL _ _ (by rw[Se];omega)
    have h0:∀m:List Int,(L<|Fu<|v++m)[0]?=some 122:=λm=>by grind [ZD]
    rcases ht with⟨x1,x2,x3,x4⟩|⟨x1,x2,x3,x4,x5⟩
    ·rw[x1];simp only[show((0:Int)==0)=true from rfl,Ap,show decide ((0:Int)>0)=false from rfl,Ad];rw[b _ _ (by rw[Se];omega) (by simp),AY<|by grind];simp only[Aa];rw[GL _ _ (by grind [Ha,Se]),ACF,AY (by rw[kL];grind)]
     grind [ad1,Jy,Ha,ZD,AAW,kL]
    have hb:(l[i].Back==0)=false:=by simp;omega
    rw[hb,Ac (by omega:l[i].Back>0)];simp only[Ap,Ad];rw[b _ _ (by rw[Se];omega) (by simp),AY<|by grind];simp only[Aa];rw[ad1<|by omega];refine⟨v++ [IntKind.u8.wrap<|ad 128 l[i].Size,IntKind.u8.wrap l[i].Back],?_,rfl,?_,h0 _⟩
    ·grind [Jy,Ha,ZD]
    grind)
   (λv hv=>⟨_,_,by grind [Fl,ER],by grind [Fl,Jo],rfl,by omega,hv.2⟩) (s:=[122]) ⟨by simp,by rw[O4];rfl⟩
  have e0:(Fu [122],(0:Int))=(bs [122],(0:Int)):=by rfl
  simp only[e0]at h1;rw[h1,h2];simp only[Aa];rw[Bu,Se,Bc,Ch (by omega)<|by omega];by_cases hc:((L s).length:Int)+1<=(v.length:Int)
  ·rw[Ac hc,Ap,GL _ _ (by rw[DO];grind)];refine⟨_,true,rfl,rfl,by simp,λ_=>⟨hs,.inr ?_⟩⟩;rfl
  simp_all [Ai]
 simp_all;grind
def Sa (t:AM):Prop:=(t.Back=0/\t.Size=0/\1<=(L t.Text).length/\(L t.Text).length<=31)\/(t.Back≠0/\1<=t.Size/\t.Size<=31/\L t.Text=[])
theorem nR:PX=G7:=by grind [cM,RF,ACF,PX,G7,Rg,Ef,ln,Rf,D9]
theorem R7 (l:List AM) (hl:l.length<=1048576):∃p ok,G7 l=some (p,ok)/\(ok=true->∀t∈l,Sa t):=by
 unfold G7;obtain⟨r,h1,h2⟩:=A9 (body:=λq:List Int×Int=>Ef l q.1 q.2) (λ(o:List Int) i=>(o,i)) l.length (λi o=>o.length<=64/\∀(j:Nat) t,j<i->l[j]?=some t->Sa t) (λr=>(∃o,r= .inl o/\∀t∈l,Sa t)\/r= .inr (bs [],false))
  (λo i hi ho=>by
   have hg:l[i]?=some l[i]:=Ab hi;simp only[Ef,Do hi,Aq,hg,Aa,RF];have good:∀(o':List Int),Sa l[i]->(∃s',(some (.inl o':(List Int)⊕(List Int×Int)⊕(List Int)⊕(ByteArray×Bool))).bind (Sum.elim (λj1=>cond (decide<|(ln j1)>64) (some<|.inr<|.inr (bs [],false))<|some<|.inl (j1,ad (i:Int) 1)) some)=some (.inl (s',((i+1:Nat):Int)))/\s'.length<=64/\∀(j:Nat) t,j<i+1->l[j]?=some t->Sa t)\/∃b,(some (.inl o':(List Int)⊕(List Int×Int)⊕(List Int)⊕(ByteArray×Bool))).bind (Sum.elim (λj1=>cond (decide<|(ln j1)>64) (some<|.inr<|.inr (bs [],false))<|some<|.inl (j1,ad (i:Int) 1)) some)=some (.inr b)/\((∃o,b= .inl o/\∀t∈l,Sa t)\/b= .inr (bs [],false)):=by grind [Bc,ad1]
   by_cases hb:l[i].Back=0
   ·rw[hb];rw[Bu];by_cases hx:(1<=(L l[i].Text).length/\(L l[i].Text).length<=31)/\l[i].Size=0
    ·obtain⟨⟨c,d⟩,a⟩:=hx;rw[Ac (by omega:(1:Int)<=((L l[i].Text).length:Int)),Ac (by omega:((L l[i].Text).length:Int)<=31),a];rw[AY (by rw[kL];omega)];exact good _<|.inl ⟨hb,a,c,d⟩
    grind
   have hb':(l[i].Back==0)=false:=by simpa using hb
   rw[hb'];rw[Bc,RC,DO];by_cases hx:(1<=l[i].Back/\l[i].Back<=(o.length:Int))/\(1<=l[i].Size/\l[i].Size<=31)/\L l[i].Text=[]
   ·obtain⟨⟨y1,y2⟩,⟨y3,y4⟩,y5⟩:=hx;rw[Ac y1,Ac y2,Ac y3,Ac y4,Ac y5];obtain⟨o',q1,q2⟩:=A9 (body:=λq:List Int×Int=>D9 l[i] q.1 q.2) (λ(o:List Int) k=>(o,k)) l[i].Size.toNat (λk u=>u.length=o.length+k) (λ_=>True)
     (λu k hk hu=>by grind [BV,Bc,Le,AY,ad1,D9])
     (λu hu=>⟨u,by grind [D9],trivial⟩) (s:=o) (by omega)
    rw[q1];exact good _<|.inr ⟨hb,y3,y4,y5⟩
   grind)
  (λo ho=>⟨_,by simp[CQ,Ef],.inl ⟨o,rfl,λt ht=>by
   obtain⟨j,hj,rfl⟩:=Ay ht
   simp_all⟩⟩) (s:=[]) ⟨by simp,λj t hj=>by omega⟩
 grind
theorem YL (c:UInt8):IntKind.i64.wrap (c.toNat:Int)=(c.toNat:Int):=O8 (by omega) (by have:=c.toNat_lt;omega)
theorem gG (rem:ByteArray) (a:List AM) (h:0<(L rem).length) (ho:a.length<=1048576) (hr:(L rem).length<=1048576):
  Dk rem a=some (if 128<=(L rem)[0].toNat/\2<=(L rem).length then .inl (rem.extract 2 (L rem).length,a++ [AM.mk (((L rem)[1]?.getD 0).toNat:Int) (((L rem)[0].toNat:Int)-128) (bs [])])
   else if(L rem)[0].toNat<128/\(L rem)[0].toNat<(L rem).length then .inl (rem.extract (1+(L rem)[0].toNat) (L rem).length,a++ [AM.mk 0 0 (rem.extract 1 (1+(L rem)[0].toNat))])
   else .inr (.inr ([],false))):=by
 have d:=(L rem)[0].toNat_lt;have b:seq rem (bs [])=false:=by grind [RC,DO]
 have c:∀x:AM,ap 32 a [x]=some (a++ [x]):=λx=>AY<|by grind
 unfold Dk;rw[b];have s0:sx rem 0=some ((L rem)[0].toNat:Int):=EI rem (i:=0) h;simp only[CC,Ap,s0,Aa,YL,Bu,c];have c0:ad 1 ((L rem)[0].toNat:Int)=((1+(L rem)[0].toNat:Nat):Int):=by rw[Ch];omega
 rw[c0];by_cases h1:128<=(L rem)[0].toNat
 ·rw[Ac (by omega:((L rem)[0].toNat:Int)>=128),Ai (by omega:¬((L rem)[0].toNat:Int)<128)];simp only[Ap,Ad,Aa];by_cases h2:2<=(L rem).length
  ·grind [EI,FM,BV,YL,L,sub]
  grind
 rw[Ai (by omega:¬((L rem)[0].toNat:Int)>=128),Ac (by omega:((L rem)[0].toNat:Int)<128),B9 λe=>h1 e.1];simp only[Ap,Ad,Aa];simp_all [L,sub];grind
theorem oE (rem:ByteArray) (a:List AM) (h:(L rem).length=0):Dk rem a=some (.inr (.inl a)):=by grind [RC,DO,Dk]
theorem gF (t:ByteArray) (b:List AM) (a:Nat) (h:a<(L t).length) (ho:b.length<=1048576) (hr:(L t).length<=1048576):
  BM t b (a:Int)=some (if 128<(L t)[a].toNat then(if a+2<=(L t).length then .inl (b++ [AM.mk (((L t)[a+1]?.getD 0).toNat:Int) (((L t)[a].toNat:Int)-128) (bs [])],((a+2:Nat):Int))else .inr (.inr (b,false)))
   else if a+1+(L t)[a].toNat<=(L t).length then .inl (b++ [AM.mk 0 0 (t.extract (a+1) (a+1+(L t)[a].toNat))],((a+1+(L t)[a].toNat:Nat):Int))
   else .inr (.inr (b,false))):=by
 have d:=(L t)[a].toNat_lt
 have c:∀x:AM,ap 32 b [x]=some (b++ [x]):=λx=>AY<|by grind
 have c2:ad (a:Int) 2=((a+2:Nat):Int):=by rw[Ch];omega
 have c3:ad ((a+1:Nat):Int) ((L t)[a].toNat:Int)=((a+1+(L t)[a].toNat:Nat):Int):=by rw[Ch];omega
 unfold BM;rw[Bu,cT,EI t h];simp only[Aa,YL,c];rw[c2,ad1,c3];by_cases h1:128<(L t)[a].toNat
 ·rw[cT,Cc h1];by_cases h2:a+2<=(L t).length
  ·rw[cF,Cc h2,EI t (by omega:a+1<(L t).length),BV]
   grind [YL]
  grind
 rw[cF,B9 h1];by_cases h2:a+1+(L t)[a].toNat<=(L t).length
 ·rw[Ai (by omega:¬((a+1+(L t)[a].toNat:Nat):Int)>((L t).length:Int)),Ad,Cc h2,FM t (by omega) h2];rfl
 grind
theorem Z5 (t:ByteArray) (b:List AM) (a:Nat) (h:(L t).length<=a):BM t b (a:Int)=some (.inr (.inl b)):=by grind [Bu,BM]
theorem AAQ (rem:ByteArray) (a:List AM) (h:a.length+(L rem).length<=1048576):∃r,Ah (λq:ByteArray×List AM=>Dk q.1 q.2) (rem,a)=some r/\((∃l,r= .inl l/\l.length<=1048576/\∀t∈a,t∈l)\/r= .inr ([],false)):=by
 obtain⟨r,h1,_,h2⟩:=T9 (body:=λq:ByteArray×List AM=>Dk q.1 q.2) (body':=λq:ByteArray×List AM=>Dk q.1 q.2) (λq=>(L q.1).length) (λq=>q.2.length+(L q.1).length<=1048576/\∀t∈a,t∈q.2) (λr=>(∃l,r= .inl l/\l.length<=1048576/\∀t∈a,t∈l)\/r= .inr ([],false))
  (by grind [oE,gG,Kg]) _ (rem,a) (A0 _) ⟨h,λt ht=>ht⟩
 grind
theorem AAP (t:ByteArray) (b:List AM) (a:Nat) (ha:a<=(L t).length) (h:b.length<=a) (hr:(L t).length<=1048576):∃r,Ah (λq:List AM×Int=>BM t q.1 q.2) (b,(a:Int))=some r/\((∃l,r= .inl l/\l.length<=1048576/\∀x∈b,x∈l)\/∃l,r= .inr (l,false)/\l.length<=1048576):=by
 obtain⟨r,h1,_,h2⟩:=T9 (body:=λq:List AM×Int=>BM t q.1 q.2) (body':=λq:List AM×Int=>BM t q.1 q.2) (λq=>(L t).length-q.2.toNat) (λq=>∃a:Nat,q.2=(a:Int)/\a<=(L t).length/\q.1.length<=a/\∀x∈b,x∈q.1) (λr=>(∃l,r= .inl l/\l.length<=1048576/\∀x∈b,x∈l)\/∃l,r= .inr (l,false)/\l.length<=1048576)
  (by
   rintro⟨o,at_⟩ ⟨a,ha,hl,hb,ho⟩;simp only at ha hb ho;subst ha;simp only
   rcases Fs a (L t).length with h0|h0
   ·rw[gF t o a h0 (by omega) hr];split
    ·split
     ·simp_all;grind
     grind
    split
    ·simp_all;grind
    grind
   grind [Z5]) _ (b,(a:Int)) (A0 _) ⟨a,rfl,ha,h,λt ht=>ht⟩
 grind
theorem AAO (t:ByteArray) (hr:(L t).length<=1048576):∀(n a:Nat) (rem:ByteArray) (b:List AM),(L t).length-a<=n->a<=(L t).length->L rem=(L t).drop a->b.length<=a->
  ∃ri rs,Ah (λq:ByteArray×List AM=>Dk q.1 q.2) (rem,b)=some ri/\Ah (λq:List AM×Int=>BM t q.1 q.2) (b,(a:Int))=some rs/\
   ((∃l,ri= .inl l/\rs= .inl l/\l.length<=1048576)\/((ri= .inr ([],false)\/∃l,ri= .inl l/\l.length<=1048576/\∃x∈l,¬Sa x)/\((∃l,rs= .inr (l,false)/\l.length<=1048576)\/∃l,rs= .inl l/\l.length<=1048576/\∃x∈l,¬Sa x))):=by
 intro n
 induction n with
 |zero=>grind [Aw,oE,Z5]
 |succ n ih=>
  intro a rem b h1 h2 h3 h4
  rcases Fs a (L t).length with h0|h0
  ·have j:(L rem).length=(L t).length-a:=by rw[h3];simp
   have e:0<(L rem).length:=by omega
   have g:(L rem)[0]=(L t)[a]:=by grind
   have h:(L rem)[1]?.getD 0=(L t)[a+1]?.getD 0:=by grind
   have c:=gG rem b e (by omega) (by omega);have f:=gF t b a h0 (by omega) hr
   have d:∀k,L (rem.extract k (L rem).length)=(L t).drop (a+k):=λk=>by grind [Kg,Ey,AP]
   rw[g,h]at c
   rcases Vx (L t)[a].toNat 128 with hc|hc|hc
   ·rw[B9<|by omega]at c;by_cases hk:a+1+(L t)[a].toNat<=(L t).length
    ·obtain⟨ri,rs,q1,q2,q3⟩:=ih (a+1+(L t)[a].toNat) (rem.extract (1+(L t)[a].toNat) (L rem).length) (b++ [AM.mk 0 0<|t.extract (a+1)<|a+1+(L t)[a].toNat]) (by omega) hk (by grind) (by grind);have etx:rem.extract 1 (1+(L t)[a].toNat)=t.extract (a+1) (a+1+(L t)[a].toNat):=by grind [Jy,Kg,Ey]
     refine⟨ri,rs,?_,?_,q3⟩
     ·rw[Aw]
      grind
     grind [Aw]
    grind [Aw]
   ·
    have hI:∃ri,Ah (λq:ByteArray×List AM=>Dk q.1 q.2) (rem,b)=some ri/\(ri= .inr ([],false)\/∃l,ri= .inl l/\l.length<=1048576/\∃x∈l,¬Sa x):=by
     by_cases hk:2<=(L rem).length
     ·obtain⟨r,q1,q2⟩:=AAQ (rem.extract 2 (L rem).length) (b++ [AM.mk (((L t)[a+1]?.getD 0).toNat:Int) (((L t)[a].toNat:Int)-128)<|bs []]) (by grind);refine⟨r,by rw[Aw];grind,?_⟩
      rcases q2 with⟨l,rfl,q3,q4⟩|rfl
      ·refine .inr ⟨l,rfl,q3,_,q4 _<|BQ _<|Ck.2 rfl,?_⟩;intro hk
       rcases hk with⟨_,_,k3,_⟩|⟨_,k2,_⟩
       ·grind [DO]
       grind
      exact .inl rfl
     grind [Aw]
    have hS:∃rs,Ah (λq:List AM×Int=>BM t q.1 q.2) (b,(a:Int))=some rs/\((∃l,rs= .inr (l,false)/\l.length<=1048576)\/∃l,rs= .inl l/\l.length<=1048576/\∃x∈l,¬Sa x):=by
     by_cases hk:a+1+(L t)[a].toNat<=(L t).length
     ·obtain⟨r,q1,q2⟩:=AAP t (b++ [AM.mk 0 0<|t.extract (a+1)<|a+1+(L t)[a].toNat]) (a+1+(L t)[a].toNat) hk (by grind) hr;refine⟨r,by rw[Aw];grind,?_⟩
      rcases q2 with⟨l,rfl,q3,q4⟩|⟨l,rfl,q3⟩
      ·refine .inr ⟨l,rfl,q3,_,q4 _<|BQ _<|Ck.2 rfl,?_⟩;intro i
       rcases i with⟨_,_,_,k4⟩|⟨k1,_⟩
       ·simp only[Kg,Fe,Qk]at k4;omega
       exact k1 rfl
      grind
     grind [Aw]
    obtain⟨ri,q1,q2⟩:=hI;obtain⟨rs,q3,q4⟩:=hS;exact⟨ri,rs,q1,q3,.inr ⟨q2,q4⟩⟩
   by_cases hk:a+2<=(L t).length
   ·obtain⟨ri,rs,q1,q2,q3⟩:=ih (a+2) (rem.extract 2 (L rem).length) (b++ [AM.mk (((L t)[a+1]?.getD 0).toNat:Int) (((L t)[a].toNat:Int)-128)<|bs []]) (by omega) hk (d 2) (by grind);exact⟨ri,rs,by rw[Aw];grind,by rw[Aw];grind,q3⟩
   grind [Aw]
  grind [Aw,Z5]
theorem ABx (t:ByteArray) (hr:(L t).length<=1048576):∃li oi ls os pi ki ps ks,QQ t=some (li,oi)/\Mo t=some (ls,os)/\PX li=some (pi,ki)/\G7 ls=some (ps,ks)/\((oi=os/\pi=ps/\ki=ks)\/((oi=false\/ki=false)/\(os=false\/ks=false))):=by
 obtain⟨ri,rs,q1,q2,q3⟩:=AAO t hr ((L t).length) 0 t [] (by omega) (by omega) (by simp) (by simp);have e0:(([]:List AM),((0:Nat):Int))=([],0):=rfl;simp only[e0]at q2;unfold QQ Mo;rw[q1,q2,nR];have none:∀l:List AM,l.length<=1048576->(∃x∈l,¬Sa x)->∃p,G7 l=some (p,false):=by
  rintro l hl ⟨x,hx,hn⟩;obtain⟨p,ok,h1,h2⟩:=R7 l hl
  cases ok with
  |false=>exact⟨p,h1⟩
  |true=>grind
 rcases q3 with⟨l,rfl,rfl,hl⟩|⟨hi,hs⟩
 ·obtain⟨p,ok,h1,_⟩:=R7 l hl;exact⟨l,true,l,true,p,ok,p,ok,rfl,rfl,h1,h1,.inl ⟨rfl,rfl,rfl⟩⟩
 have hI:∃li oi pi ki,(some ri).bind (Sum.elim (λv1=>some (v1,true)) some)=some (li,oi)/\G7 li=some (pi,ki)/\(oi=false\/ki=false):=by
  rcases hi with rfl|⟨l,rfl,hl,hb⟩
  ·obtain⟨p,ok,h1,_⟩:=R7 [] (by simp)
   grind
  obtain⟨p,h1⟩:=none l hl hb;simp_all
 have hS:∃li oi pi ki,(some rs).bind (Sum.elim (λv1=>some (v1,true)) some)=some (li,oi)/\G7 li=some (pi,ki)/\(oi=false\/ki=false):=by grind [R7]
 obtain⟨li,oi,pi,ki,a1,a2,a3⟩:=hI;obtain⟨ls,os,ps,ks,b1,b2,b3⟩:=hS;exact⟨li,oi,ls,os,pi,ki,ps,ks,a1,b1,a2,b2,.inr ⟨a3,b3⟩⟩
theorem UC (t:ByteArray) (hr:(L t).length<=1048576):∃u ok,FU t=some (u,ok)/\Nt t=some (u,ok)/\(ok=false->u=bs [])/\(ok=true->(L u).length<=64):=by
 unfold FU Nt;rw[Bu,RC,DO];by_cases h0:L t=[]
 ·simp_all
 have a:0<(L t).length:=by grind
 have e1:(((L t).length:Int)==0)=false:=by simp;exact h0
 rw[e1,Ai h0,Ad,Ad];have s1:sub t 1 ((L t).length:Int)=some (t.extract 1 (L t).length):=FM t (i:=1) (by omega)<|A0 _;have s0:sx t 0=some ((L t)[0].toNat:Int):=EI t (i:=0) a;rw[s1,s0];simp only[Aa];generalize hx:t.extract 1 (L t).length=x;have b:(L x).length<=1048576:=by grind [Kg]
 obtain⟨li,oi,ls,os,pi,ki,ps,ks,a1,a2,a3,a4,a5⟩:=ABx x b;rw[a1,a2];simp only[Aa];rw[a3,a4];simp only[Aa];have back:∀j:ByteArray,∃u ok,((E9 j).bind λv3=>(cond (!v3.2) (some true) (some<|!(seq v3.1 t)):Option Bool).bind λj2=>cond j2 (some (bs [],false)) (some (j,true)):Option (ByteArray×Bool))=some (u,ok)/\
   ((LD j).bind λv3=>(cond (!v3.2) (some true) (some<|!(seq v3.1 t)):Option Bool).bind λj2=>cond j2 (some (bs [],false)) (some (j,true)):Option (ByteArray×Bool))=some (u,ok)/\(ok=false->u=bs [])/\(ok=true->(L u).length<=64/\((L t)[0].toNat=122\/(L t)[0].toNat=114)):=by
  intro j;obtain⟨z,ok,p1,p2,p3,p4⟩:=Y4 j;rw[p1,p2];simp only[Aa]
  cases ok with
  |false=>simp
  |true=>
   simp only[An,Ad,Aa]
   cases hz:seq z t with
   |false=>simp
   |true=>
    have c:z=t:=by grind [IV]
    obtain⟨p5,p6⟩:=p4 rfl;refine⟨_,true,rfl,rfl,by simp,λ_=>⟨p5,?_⟩⟩;rw[c,Ab a]at p6
    rcases p6 with p6|p6
    ·simp_all
    simp_all
 by_cases h122:(L t)[0].toNat=122
 ·have c1:((((L t)[0].toNat:Nat):Int)==122)=true:=by simp[h122]
  have c2:((((L t)[0].toNat:Nat):Int) !=114)=true:=by simp[h122]
  rw[c1,c2];simp only[Ap]
  rcases a5 with⟨rfl,rfl,rfl⟩|⟨hi,hs⟩
  ·cases oi with
   |false=>simp
   |true=>
    cases ki with
    |false=>simp
    |true=>simp_all
  grind
 have c1:((((L t)[0].toNat:Nat):Int)==122)=false:=by simp;omega
 rw[c1];simp only[Ad,Aa,DM];by_cases h114:(L t)[0].toNat=114
 ·simp_all
 have c2:((((L t)[0].toNat:Nat):Int) !=114)=true:=by simp;omega
 rw[c2];simp only[Ap];have nope:∀(j u:ByteArray) (ok:Bool),(ok=true->(L u).length<=64/\((L t)[0].toNat=122\/(L t)[0].toNat=114))->ok=false:=by grind
 obtain⟨u,ok,b1,b2,b3,b4⟩:=back x;have k1:=nope x u ok b4;subst k1;have k2:=b3 rfl;subst k2;refine⟨bs [],false,b1,?_,by simp,by simp⟩
 cases oi with
 |false=>rfl
 |true=>
  cases ki with
  |false=>rfl
  |true=>
   simp only[An,Ad,Aa,DM];obtain⟨u,ok,d1,d2,d3,d4⟩:=back pi
   grind
def XD (x:Bf):Nat:=x.Kids.length
def WP (x:Arena):Nat:=zl XD x.Knots
def HH (x:Store):Nat:=x.Vols.length+WP x.Arena
def Ko (x:Device):Nat:=Pt x.Flash+HH x.Store
def RR (x:Leaf):Nat:=bif x.Is==0 then 1 else 0
theorem ACB (l:List Leaf):(l.map RR).sum<=l.length:=by
 induction l with
 |nil=>simp
 |cons x l ih=>grind [RR]
theorem X9 (b:Block) (h:b.Leaves.length<=1048576):Io b=some ((b.Leaves.map RR).sum:Int):=by
 unfold Io;obtain⟨v,h1,rfl⟩:=A9 (body:=λs:Int×Int=>GY b s.1 s.2) (λ(s:Int) i=>(s,i)) b.Leaves.length (λk s=>s=(((b.Leaves.take k).map RR).sum:Nat)) (λv=>v=((b.Leaves.map RR).sum:Nat))
  (λs k hk hs=>by
   have hx:b.Leaves[k]?=some b.Leaves[k]:=Ab hk;have e:=Sd RR b.Leaves k hk;have e2:=OH RR b.Leaves<|k+1;have e3:=ACB b.Leaves;refine .inl ?_;simp only[GY,Do hk,Aq,hx,Aa]
   grind [Ch,RR])
  (λs hs=>⟨s,by simp[CQ,GY],by grind⟩) (s:=0) (by simp)
 rw[h1];rfl
theorem XB (f:Flash) (hf:JF f) (hn:nl f.Blocks<=1048576):∃v:Int,Mt f=some v/\Ot f=some v/\0<=v/\v<=nl f.Blocks:=by
 unfold Mt Ot;obtain⟨v,h1,h2,h3⟩:=K9 (body:=λs:Int×Int=>Ms f s.1 s.2) (body':=λs:Int×Int=>MB f s.1 s.2) (λ(s:Int) i=>(s,i)) (λ(s:Int) i=>(s,i)) f.Blocks.length (λi n=>0<=n/\n<=(((f.Blocks.take i).map λb=>b.Leaves.length).sum:Nat)) (λv=>0<=v/\v<=nl f.Blocks)
  (λn i hi hs=>by
   have hb:f.Blocks[i]?=some f.Blocks[i]:=Ab hi;have hm:f.Blocks[i]∈f.Blocks:=Av _;have d:=Sd (λb:Block=>b.Leaves.length) f.Blocks i hi;have g:=OH (λb:Block=>b.Leaves.length) f.Blocks<|i+1;unfold nl at hn;have h:=hf.1;have c:=hf.2 _ hm;have j:=ACB f.Blocks[i].Leaves;refine .inl ?_;simp only[Ms,MB,Do hi,Aq,hb,Aa,X9 _ c];obtain⟨u,q1,rfl⟩:=A9 (body:=λs:Int×Int=>Mr f (i:Int) s.1 s.2) (λ(s:Int) i=>(s,i)) f.Blocks[i].Leaves.length (λk s=>s=n+(bif f.Blocks[i].Bad then 0 else((f.Blocks[i].Leaves.take k).map RR).sum:Nat)) (λv=>v=n+(bif f.Blocks[i].Bad then 0 else(f.Blocks[i].Leaves.map RR).sum:Nat))
    (λs k hk hs=>by
     have hx:f.Blocks[i].Leaves[k]?=some f.Blocks[i].Leaves[k]:=Ab hk;have e:=Sd RR f.Blocks[i].Leaves k hk;have e2:=OH RR f.Blocks[i].Leaves<|k+1;refine .inl ?_;simp only[Mr,Aq,hb,Aa,Do hk,hx]
     cases a:f.Blocks[i].Bad with
     |true=>
      rw[a]at hs;simp only[An,Ad,Ap]at hs⊢;rw[ad1]
      grind
     |false=>
      rw[a]at hs;simp only[CC,Ad,Ap]at hs⊢;have e4:RR f.Blocks[i].Leaves[k]=bif f.Blocks[i].Leaves[k].Is==0 then 1 else 0:=rfl
      cases hb:f.Blocks[i].Leaves[k].Is==0 with
      |true=>
       rw[hb]at e4;simp only[Ap]at e4⊢;rw[ad1,Ch]
       grind
      |false=>
       rw[hb]at e4;simp only[Ad]at e4⊢;rw[ad1]
       grind)
    (λs hs=>⟨s,by simp_all [Aq,CQ,Mr],by grind⟩) (s:=n) (by grind)
   rw[q1];simp only[Aa]
   cases f.Blocks[i].Bad with
   |true=>
    simp only[Ap,An,Ad];rw[ad1]
    grind
   |false=>
    simp only[Ap,CC,Ad];rw[ad1,Ch]
    grind)
  (λn hs=>by
   rw[IS]at hs
   exact⟨n,by simp[CQ,Ms],by simp[CQ,MB],hs⟩) (s:=0) (by simp)
 grind
def MT (a:Arena):Prop:=a.Knots.length<=1048576
theorem Ya (x a b:Int):BB x a b=some (decide (a<=x/\x<=b)):=by
 rw[RF];simp
theorem WO (a:Arena):IN a=G9 a:=by
 unfold IN G9
 grind [cM,Rt,El,gi,Rs,EO]
def SB (a:Arena) (i:Nat) (k:Bf) (n:Int):Prop:=if k.Leaf=true then 0<=n else n= -1\/(0<=n/\n<i/\∃k',gi a.Knots n=some k'/\k'.Leaf=true)
theorem wB (a:Arena) (ha:MT a):∃v,G9 a=some v/\(v=true->∀(i:Nat) k,a.Knots[i]?=some k->k.Kids.length=4/\∀n∈k.Kids,SB a i k n):=by
 unfold MT at ha;unfold G9;obtain⟨r,h1,h2⟩:=A9 (body:=λs:Int=>El a s) (λ(_:Unit) i=>i) a.Knots.length (λi _=>∀(j:Nat) k,j<i->a.Knots[j]?=some k->k.Kids.length=4/\∀n∈k.Kids,SB a j k n) (λr=>r= .inr false\/r= .inl ()/\∀(i:Nat) k,a.Knots[i]?=some k->k.Kids.length=4/\∀n∈k.Kids,SB a i k n)
  (λ_ i hi hs=>by
   obtain⟨k,hk⟩:∃k,a.Knots[i]?=some k:=⟨_,Ab hi⟩;simp only[El,Do hi,Aq,hk,Aa];by_cases h4:k.Kids.length=4
   ·have e1:(ln k.Kids !=4)=false:=by simp[ln,h4]
    simp only[e1,Ad];obtain⟨r,q1,q2⟩:=A9 (body:=λs:Int=>EO a (i:Int) k s) (λ(_:Unit) j=>j) 4 (λj _=>∀(m:Nat) n,m<j->k.Kids[m]?=some n->SB a i k n) (λr=>r= .inr (.inr<|.inr false)\/r= .inl ()/\∀n∈k.Kids,SB a i k n)
     (λ_ j hj b=>by
      obtain⟨n,hn⟩:∃n,k.Kids[j]?=some n:=⟨_,Ab<|by omega⟩;simp only[EO];rw[cT,Aq,hn];simp only[Aa]
      have good:SB a i k n->(∃s':Unit,(cond false (some<|.inr<|.inr<|.inr<|.inr false) (some<|.inl<|ad (j:Int) 1):Option (Int⊕Unit⊕Int⊕Unit⊕Bool))=some (.inl ((j+1:Nat):Int))/\∀(m:Nat) n,m<j+1->k.Kids[m]?=some n->SB a i k n):=λc=>by
       refine⟨(),by rw[Ad,ad1],λm n' hm d=>?_⟩
       grind
      cases hl:k.Leaf with
      |true=>
       simp only[Ap,An,Ad];by_cases h0:n<0
       ·grind
       rw[Ai h0,Ad];exact .inl<|good<|by grind [SB]
      |false=>
       by_cases h1:n= -1
       ·have:(n != -1)=false:=by simp[h1]
        rw[this];exact .inl<|good (by unfold SB;grind)
       have:(n != -1)=true:=by simp[h1]
       rw[this];rw[BV,Ya];simp only[Aa];by_cases h2:0<=n/\n<=(i:Int)-1
       ·rw[Ac h2];rw[Le h2.1<|by omega];simp only[Aa]
        cases e:(a.Knots[n.toNat]'(by omega)).Leaf with
        |true=>
         refine .inl<|good ?_
         grind [Le,SB]
        |false=>grind
       grind)
     (λ_ b=>⟨_,by rfl,.inr ⟨rfl,λn hn=>by
      obtain⟨m,hm,rfl⟩:=Ay hn
      simp_all;grind⟩⟩) (s:=()) (λm n hm=>by omega)
    have q1':Ah (λs:Int=>EO a (i:Int) k s) 0=some r:=q1;rw[q1']
    rcases q2 with rfl|⟨rfl,q2⟩
    ·grind
    rw[ad1];refine .inl ⟨(),rfl,λj k' hj f=>?_⟩
    grind
   grind [ln])
  (λ_ hs=>⟨_,by simp[CQ,El],.inr ⟨rfl,λi k hk=>hs i k (Ae.1 hk).1 hk⟩⟩) (s:=()) (λj k hj=>by omega)
 have h1':Ah (λs:Int=>El a s) 0=some r:=h1;rw[h1']
 rcases h2 with rfl|⟨rfl,h2⟩
 ·simp
 exact⟨_,rfl,λ_=>h2⟩
theorem sG (a:Arena) (ha:MT a) (root:Int) (s:Nat) (hs:s<16):∃v,Q6 a root (s:Int)=some v/\W4 a root (s:Int)=some v:=by
 have f:a.Knots.length<=1048576:=ha;obtain⟨ok,h1,h2⟩:=wB a ha;unfold Q6 W4;rw[WO,h1,cM];simp only[Aa,Ya];rw[Ac (by omega:(0:Int)<=(s:Int)/\(s:Int)<=15)];simp only[An,Ad,Aa];have d:∃b,GG a root=some b/\Hu a root=some (b||root== -1)/\(b=true->0<=root/\∃k,gi a.Knots root=some k/\k.Leaf=false):=by
  unfold GG Hu;rw[cM,BV (by rw[Bc];omega) (by rw[Bc];omega),Bc,Ya]
  grind [Le]
 obtain⟨b,r1,r2,r3⟩:=d;rw[r1,r2];simp only[Aa]
 cases ok with
 |false=>simp
 |true=>
  simp only[An,Ad]
  cases b with
  |false=>simp_all [NX];grind
  |true=>
   obtain⟨hr,k,hk,hl⟩:=r3 rfl;simp only[Bool.true_or,An,Ad,Aa,NX,Vf,hk];rw[cF];obtain⟨g1,g2⟩:=Cm hk;obtain⟨k4,kk⟩:=h2 rfl root.toNat k g2;have eq4:qu (s:Int) 4=((s/4:Nat):Int):=by grind [O8,qu]
   have em:Int.tmod (s:Int) 4=((s %4:Nat):Int):=rfl;rw[eq4,em,Le (by omega)<|by omega];simp only[Aa,Cf];have e:k.Kids[s/4]'(by omega)∈k.Kids:=Av _;have c:=kk _ e;unfold SB at c;rw[B9 (by rw[hl];simp)]at c
   rcases c with c|⟨c1,c2,k',c3,c4⟩
   ·simp_all
   rw[cF,c3];simp only[Aa];obtain⟨g3,g4⟩:=Cm c3;obtain⟨k4',_⟩:=h2 rfl _ k' g4;rw[Le (by omega)<|by omega];simp
theorem O6 (a:Arena) (ha:MT a) (root:Int):∃l,H9 a root=some l/\Pn a root=some l/\l.length=16:=by
 unfold H9 Pn;obtain⟨l,h1,h2,h3⟩:=K9 (body:=λs:List Int×Int=>L5 a root s.1 s.2) (body':=λs:List Int×Int=>Ru a root s.1 s.2) (λ(o:List Int) i=>(o,i)) (λ(o:List Int) i=>(o,i)) 16 (λi o=>o.length=i) (λo=>o.length=16)
  (λo i hi ho=>by
   obtain⟨v,g1,g2⟩:=sG a ha root i hi
   grind [AY,ad1,L5,Ru])
  (λo ho=>⟨o,by rfl,by rfl,ho⟩) (s:=[]) rfl
 grind
theorem V6 (s:Store) (id:Int) (hs:s.Vols.length<=1048576):∃v:Int,CM s id=some v/\J6 s id=some v/\(v<0\/0<=v/\v<s.Vols.length):=by
 have e:J6 s id=CM s id:=rfl;rw[e];unfold CM;obtain⟨r,h1,h2⟩:=A9 (body:=λq:Int=>Hc s id q) (λ(_:Unit) i=>i) s.Vols.length (λ_ _=>True) (λr=>r= .inl ()\/∃v:Int,r= .inr v/\0<=v/\v<s.Vols.length)
  (λ_ i hi _=>by
   have hg:s.Vols[i]?=some s.Vols[i]:=Ab hi;simp only[Hc,Do hi,Aq,hg,Aa]
   cases s.Vols[i].Id==id with
   |true=>grind
   |false=>
    rw[ad1]
    simp)
  (λ_ _=>⟨_,by simp[CQ,Hc],.inl rfl⟩) (s:=()) trivial
 have h1':Ah (λq:Int=>Hc s id q) 0=some r:=h1;rw[h1']
 rcases h2 with rfl|⟨v,rfl,h2⟩
 ·simp
 grind
theorem wA (s:Store) (hv:s.Vols.length<=1048576) (ha:MT s.Arena) (id:Int) (k:Nat) (hk:k<16):∃v,L3 s id (k:Int)=some v/\TP s id (k:Int)=some v:=by
 unfold L3 TP;obtain⟨v,h1,h2,h3⟩:=V6 s id hv;rw[h1,h2];simp only[Aa]
 rcases h3 with h3|⟨h3,h4⟩
 ·grind
 simp_all [Ai,Le,sG]
def SU:Al:=Al.mk 0 0<|Page.mk 0 0 0 0 0<|bs []
def IX (c:Int) (y:Al):Bool:=y.Page.Kind==1&&y.Page.Tx==c
def KR (r:List Al) (o:Option Nat):Al:=match o with
 |some j=>r[j]?.getD SU
 |none=>SU
def RE (c:Int) (r:List Al) (n:Nat) (o:Option Nat):Prop:=match o with
 |none=>∀(k:Nat) y,k<n->r[k]?=some y->IX c y=false
 |some j=>j<n/\(∃y,r[j]?=some y/\IX c y=true)/\∀(k:Nat) y,j<k->k<n->r[k]?=some y->IX c y=false
theorem Xo {c:Int} {r:List Al} {o o':Option Nat} (h:RE c r r.length o) (h':RE c r r.length o'):o=o':=by
 cases o with
 |none=>
  cases o' with
  |none=>rfl
  |some j=>
   obtain⟨h1,⟨y,h2,h3⟩,_⟩:=h';rw[h j y h1 h2]at h3;cases h3
 |some j=>
  obtain⟨h1,⟨y,h2,h3⟩,h4⟩:=h
  cases o' with
  |none=>
   rw[h' j y h1 h2]at h3;cases h3
  |some i=>
   obtain⟨k1,⟨z,k2,k3⟩,k4⟩:=h'
   grind
theorem iN (r:List Al) (hr:r.length<=1048576) (c:Int):∃o,Ml r c=some (KR r o,o.isSome)/\RE c r r.length o:=by
 unfold Ml;rw[BV (by rw[Bc];omega) (by rw[Bc];omega),Bc];obtain⟨b,h1,h2⟩:=A9 (body:=λs:Int=>HR r c s) (λ(_:Unit) i=>(r.length:Int)-1-i) r.length (λi _=>∀(k:Nat) y,r.length-i<=k->k<r.length->r[k]?=some y->IX c y=false) (λb=>(b= .inl ()/\RE c r r.length none)\/∃j,b= .inr (KR r<|some j,true)/\RE c r r.length (some j))
  (λ_ i hi hs=>by
   have e1:((r.length:Int)-1-(i:Int))=((r.length-1-i:Nat):Int):=by omega
   have a:r.length-1-i<r.length:=by omega
   have hg:r[r.length-1-i]?=some r[r.length-1-i]:=Ab a;simp only[HR,e1];rw[cT];simp only[Aq,hg,Aa]
   have next:IX c r[r.length-1-i]=false->∃s':Unit,(some (.inl<|sb ((r.length-1-i:Nat):Int) 1):Option (Int⊕Unit⊕(Al×Bool)))=some (.inl<|(r.length:Int)-1-((i+1:Nat):Int))/\∀(k:Nat) y,r.length-(i+1)<=k->k<r.length->r[k]?=some y->IX c y=false:=λd=>by
    refine⟨(),by grind [BV],λk y h1 h2 h3=>?_⟩
    grind
   cases hk:r[r.length-1-i].Page.Kind==1 with
   |false=>
    exact .inl<|next (by grind [IX])
   |true=>
    simp only[Ap,Aa]
    cases ht:r[r.length-1-i].Page.Tx==c with
    |false=>
     exact .inl<|next (by unfold IX;grind)
    |true=>
     refine .inr ⟨_,rfl,.inr ⟨r.length-1-i,?_,a,⟨_,hg,by grind [IX]⟩,λk y h1 h2 h3=>hs k y (by omega) h2 h3⟩⟩
     grind [KR])
  (λ_ hs=>⟨_,by grind [HR],.inl ⟨rfl,λk y h1 h2=>hs k y (by omega) h1 h2⟩⟩) (s:=()) (λk y h1 h2=>by omega)
 have e0:((r.length:Int)-1-0)=(r.length:Int)-1:=by omega
 rw[e0]at h1;rw[h1]
 rcases h2 with⟨rfl,h2⟩|⟨j,rfl,h2⟩
 ·exact⟨none,rfl,h2⟩
 grind
theorem ADa {r:List Al} {x:Al} (h:srt Br r) (a:j<i) (hx:r[j]?=some x) (hy:r[i]?=some y):x.Page.Seq<=y.Page.Seq:=by
 unfold srt at h;obtain⟨h1,h2⟩:=Ae.1 hx;obtain⟨h3,h4⟩:=Ae.1 hy;rw[<-h2,<-h4];exact C1.1 h j i h1 h3 a
theorem X1 (f:Flash) (r:List Al) (d:FH f=some r) (hr:r.length<=1048576) (g:srt Br r) (c:Int):∃o,SH f c=some (KR r o,o.isSome)/\RE c r r.length o:=by
 unfold SH;rw[d];simp only[Aa];obtain⟨b,h1,o,rfl,h2⟩:=A9 (body:=λs:Bool×Int×Int×Int×Int×Int×Int×Int×Int×ByteArray=>JY c r s.1 s.2.1 s.2.2.1 s.2.2.2.1 s.2.2.2.2.1 s.2.2.2.2.2.1 s.2.2.2.2.2.2.1 s.2.2.2.2.2.2.2.1 s.2.2.2.2.2.2.2.2.1 s.2.2.2.2.2.2.2.2.2)
  (λ(o:Option Nat) i=>(o.isSome,i,(KR r o).Block,(KR r o).Leaf,(KR r o).Page.Kind,(KR r o).Page.Seq,(KR r o).Page.Tx,(KR r o).Page.Part,(KR r o).Page.Count,(KR r o).Page.Text)) r.length (λi o=>RE c r i o)
  (λb=>∃o,b=(o.isSome,(KR r o).Block,(KR r o).Leaf,(KR r o).Page.Kind,(KR r o).Page.Seq,(KR r o).Page.Tx,(KR r o).Page.Part,(KR r o).Page.Count,(KR r o).Page.Text)/\RE c r r.length o)
  (λo i hi ho=>by
   have hg:r[i]?=some r[i]:=Ab hi;refine .inl ?_;simp only[JY,Do hi,Aq,hg,Aa]
   have keep:IX c r[i]=false->RE c r (i+1) o:=λm=>by
    cases o with
    |none=>
     intro k y h1 h2;by_cases e:k=i
     ·grind
     exact ho k y (by omega) h2
    |some j=>
     obtain⟨h1,h2,h3⟩:=ho;refine⟨by omega,h2,λk y h4 h5 h6=>?_⟩
     grind
   cases hk:r[i].Page.Kind==1 with
   |false=>
    rw[ad1];exact⟨o,rfl,keep (by unfold IX;rw[hk];rfl)⟩
   |true=>
    cases ht:r[i].Page.Tx==c with
    |false=>
     rw[ad1];exact⟨o,rfl,keep (by unfold IX;grind)⟩
    |true=>
     have a:IX c r[i]=true:=by unfold IX;rw[hk,ht];rfl
     have l:RE c r (i+1) (some i):=⟨by omega,⟨_,hg,a⟩,λk y h1 h2=>by omega⟩;have n:KR r (some i)=r[i]:=by simp only[KR,hg,Dy]
     cases o with
     |none=>
      rw[ad1]
      grind
     |some j=>
      obtain⟨h1,⟨y,h2,h3⟩,_⟩:=ho;have h:KR r (some j)=y:=by simp only[KR,h2,Dy]
      have p:=ADa g h1 h2 hg;simp only[Option.isSome_some,An,Ad,Aa,h];rw[Ac (by omega:r[i].Page.Seq>=y.Page.Seq)];rw[ad1]
      grind)
  (λo ho=>⟨_,by simp only[JY,CQ],o,rfl,ho⟩) (s:=none) (λk y h1=>by omega)
 have h1':Ah (λs:Bool×Int×Int×Int×Int×Int×Int×Int×Int×ByteArray=>JY c r s.1 s.2.1 s.2.2.1 s.2.2.2.1 s.2.2.2.2.1 s.2.2.2.2.2.1 s.2.2.2.2.2.2.1 s.2.2.2.2.2.2.2.1 s.2.2.2.2.2.2.2.2.1 s.2.2.2.2.2.2.2.2.2) (false,0,0,0,0,0,0,0,0,bs [])=_:=h1;rw[h1'];exact⟨o,rfl,h2⟩
theorem pP (hT:∀b∈f.Blocks,∀x∈b.Leaves,(L x.Text).length<=1048576) (h:SC f y):(L y.Page.Text).length<=90:=by
 obtain⟨b,x,h1,h2,_,h3⟩:=h;obtain⟨_,g1⟩:=Cm h1;obtain⟨_,g2⟩:=Cm h2;obtain⟨p,ok,k1,_,_,k2⟩:=I3 x.Text (by grind);rw[h3]at k1
 injection k1 with k1
 injection k1 with k1 k3
 have hp:=k2 k3.symm;obtain⟨v,q1,_,q2⟩:=Ui p
 grind [Bu]
structure fU (f:Flash) (r:List Al):Prop where
 s:E6 f=some r
 i:FH f=some r
 len:r.length<=1048576
 page:∀y∈r,SC f y
 text:∀y∈r,(L y.Page.Text).length<=90
 srt:srt Br r
theorem Zr (f:Flash) (hz:Pt f<=1048576):∃r,fU f r:=by
 obtain⟨hf,hT⟩:=AD0 f hz;have hn:nl f.Blocks<=1048576:=Jw (AFW f) hz;obtain⟨r,h1,h2,h3,h4,h5⟩:=dH f hf hT hn;exact⟨r,h1,h2,by omega,h4,λy hy=>pP hT<|h4 y hy,h5⟩
theorem R9 {r:List Al} (h:fU f r) (c:Int):∃u ok,JN r c=some (u,ok)/\Kd f c=some (u,ok):=by
 obtain⟨o,h1,h2⟩:=iN r h.len c;obtain⟨o',h3,h4⟩:=X1 f r h.i h.len h.srt c;obtain rfl:=Xo h2 h4;unfold JN Kd;rw[h1,h3]
 cases o with
 |none=>simp
 |some j=>
  obtain⟨_,⟨y,k1,_⟩,_⟩:=h2;have a:KR r (some j)=y:=by grind [KR]
  obtain⟨u,ok,p1,p2,_⟩:=UC y.Page.Text (by have:=h.text y<|Ao k1;omega)
  grind
end Go.TI
