/- What is written is read, and from a clone. No condition; no program is in sight. -/
import Derived.Test.YtacibgiakaoomaaGreatRBD
set_option linter.unusedVariables false
set_option linter.unusedSimpArgs false
namespace Go.TI
open Go
def u32 (s:Int):Prop:=0<=s/\s<4294967296
theorem pE (s:Int) (hs:u32 s):∃v,Ai (λs:Int×Int=>Ju s.1 s.2) (s,0)=some v/\Ai (λs:Int×Int=>HL s.1 s.2) (s,0)=some v/\u32 v:=
 Gw (body:=λs:Int×Int=>Ju s.1 s.2) (body':=λs:Int×Int=>HL s.1 s.2) (λ(s:Int) i=>(s,i)) 8 (λ_ s=>u32 s) u32
  (λs i hi hs=>by grind [an1,AC7,ad1,ABK,Ju,HL,u32])
  (λs hs=>by grind [Ju,HL]) (s:=s) hs
theorem pD (s:Int) (t:ByteArray) (hs:u32 s) (ht:(L t).length<=9223372036854775806):∃v,Vl s t=some v/\RJ s t=some v/\u32 v:=by
 obtain⟨v,h1,h2,h3⟩:=Gw (body:=λs:Int×Int=>LM t s.1 s.2) (body':=λs:Int×Int=>JF t s.1 s.2) (λ(s:Int) i=>(s,i)) (L t).length (λ_ s=>u32 s) u32
  (λs i hi hs=>by
   obtain⟨v,h1,h2,h3⟩:=pE (xr s<|IntKind.u32.wrap ((L t)[i]).toNat)<|ABK _ _
   grind [DT,ad1,LM,JF])
  (λs hs=>by grind [Ba,LM,JF]) (s:=s) hs
 unfold Vl RJ
 grind
theorem lN (t:ByteArray) (ht:(L t).length<=9223372036854775806):∃v,OI t=some v/\Xk t=some v/\u32 v:=by
 obtain⟨v,h1,h2,h3⟩:=pD 4294967295 t ⟨by omega,by omega⟩ ht;unfold OI Xk
 grind
def four (v:Int):ByteArray:=DU [IntKind.u8.wrap<|Int.fdiv v<|2^(min (24:Int).toNat IntKind.u32.bits),IntKind.u8.wrap<|Int.fdiv v<|2^(min (16:Int).toNat IntKind.u32.bits),IntKind.u8.wrap<|Int.fdiv v<|2^(min (8:Int).toNat IntKind.u32.bits),IntKind.u8.wrap v]
theorem YS (v:Int):(L (four v)).length=4:=by rfl
theorem dU (t:ByteArray):Hv t=KX t:=by
 unfold Hv KX;by_cases h:(FU t)>20000
 ·grind
 rw[Ba]at h;obtain⟨v,h1,h2,_⟩:=lN t (by omega);rw[h1,h2];rfl
theorem Sg (t:ByteArray):(20000<(L t).length->KX t=some (bs [],false))/\((L t).length<=20000->∃v,OI t=some v/\KX t=some (t++four v,true)):=by grind [Ba,lN,E8,YS,KX,NU,four]
theorem lL (t:ByteArray) (ht:(L t).length<=9223372036854775806):∃u ok,M0 t=some (u,ok)/\Pn t=some (u,ok)/\(ok=true->(L u).length<=20000/\∃v,OI u=some v/\t=u++four v)/\(ok=false->u=bs []):=by
 unfold M0 Pn;have e4:sb (FU t) 4=((L t).length:Int)-4:=by rw[Ba,BD]
 rw[e4];by_cases h4:(L t).length<4
 ·simp_all [Ba];grind
 rw[Ah (by omega:¬((L t).length:Int)-4<0),Ah (by rw[Ba];omega:¬FU t<4)];have en:((L t).length:Int)-4=(((L t).length-4:Nat):Int):=by omega
 rw[en,Ba];have b:sub t 0 (((L t).length-4:Nat):Int)=some (t.extract 0<|(L t).length-4):=EU t (i:=0) (by omega) (by omega);have a:sub t (((L t).length-4:Nat):Int) ((L t).length:Int)=some (t.extract ((L t).length-4) (L t).length):=EU t (by omega) (by omega);rw[b,a];simp only[Aa];have hu:(L<|t.extract 0<|(L t).length-4).length=(L t).length-4:=by rw[Jc];simp
 obtain⟨k1,k2⟩:=Sg<|t.extract 0<|(L t).length-4;rw[dU];by_cases hb:20000<(L t).length-4
 ·grind
 obtain⟨v,h1,h2⟩:=k2 (by omega);rw[Ah (by omega:¬(((L t).length-4:Nat):Int)>20000),h1,h2];have h3:NU v=some (four v):=rfl;simp only[Ad,Aa,h3,Aj];have c:seq (t.extract ((L t).length-4) (L t).length) (four v)=seq (t.extract 0 ((L t).length-4)++four v) t:=by
  rw[PU,PU,EG,Jc,Jc,Bool.eq_iff_iff,Bc,Bc];have e1:List.take ((L t).length-((L t).length-4)) (List.drop ((L t).length-4)<|L t)=(L t).drop ((L t).length-4):=AF (by simp);have e2:List.take ((L t).length-4-0) (List.drop 0<|L t)=(L t).take ((L t).length-4):=by simp
  rw[e1,e2];constructor
  ·grind [Bs]
  grind
 grind [Jo]
theorem HH (n:Nat) (h:n<=1099511627776):∃s,Hf (n:Int)=some s/\L s=BL n:=by
 unfold Hf;obtain⟨m,o,h1,h2,h3,h4⟩:=dG (body:=λs:Int×List Int=>Qy s.1 s.2) (λ_ _=>rfl) n [] (by simpa using h);rw[h1,Aa];have:IntKind.u8.wrap (m:Int)=m:=by rw[IntKind.wrap_u8];omega
 rw[this,AN (by grind),Aa]
 grind [K2]
def ABQ (t:ByteArray) (at_:Int) (r:Int×Int×Bool):Prop:=(r.2.2=false/\r.1=0/\r.2.1=0)\/(r.2.2=true/\∃(a b n:Nat),at_=a/\r.2.1=b/\r.1=n/\a<b/\b<=(L t).length/\n<=1000000000/\BL n=((L t).drop a).take (b-a))
theorem XA (l:List UInt8) (a k:Nat) (h:a+k<l.length):(l.drop a).take (k+1)=(l.drop a).take k++ [l[a+k]]:=by grind [Ag]
theorem eY (k:Nat) (h:k<5):(128:Nat)^k<=268435456:=by
 have:k<=4:=by omega
 calc 128^k<=128^4:=Nat.pow_le_pow_right (by omega) this
  _=268435456:=by decide
theorem WW:∀ds:List UInt8,ET ds<128^ds.length
 |[]=>by simp[ET]
 |d::ds=>by
  have:=WW ds
  grind [ET]
theorem AAv (x k:Nat) (hx:x<128) (hk:k<5):shl .i64 (x:Int) (ml 7 (k:Int))=some ((x*128^k:Nat):Int):=by
 have h7:ml 7 (k:Int)=((7*k:Nat):Int):=by grind [Oe]
 unfold shl;rw[h7,AT<|by omega];have e:(2:Int)^(min ((7*k:Nat):Int).toNat IntKind.i64.bits)=((128^k:Nat):Int):=by
  have hb:IntKind.i64.bits=64:=rfl;have h128:(128:Nat)^k=2^(7*k):=by rw[Nat.pow_mul]
  grind
 rw[e];have hp:=eY k hk;have hm:x*128^k<=128*268435456:=aO (by omega) hp
 grind [MV]
theorem pU (x:Nat):Int.tmod (x:Int) 128=((x %128:Nat):Int):=rfl
theorem H5 (t:ByteArray) (at_:Int) (ht:(L t).length<=4611686018427387904) (v:oI at_):∃r,Km t at_=some r/\IU t at_=some r/\ABQ t at_ r:=by
 have fails:∀(at_:Int),(at_<0\/((L t).length:Int)<=at_)->oI at_->IU t at_=some (0,0,false):=by grind [Au,Ba,BD,IU,Gi]
 by_cases w:0<=at_/\at_<(L t).length
 ·obtain⟨a,rfl⟩:=BN w.1;have y:∀(B1:Int×Int×Int->Option ((Int×Int×Int)⊕Unit⊕(Int×Int×Bool))) (B2:Int×Int->Option ((Int×Int)⊕Unit⊕(Int×Int×Bool))),(∀n sc i,B1 (n,sc,i)=Dl t (a:Int) n sc i)->(∀n k,B2 (n,k)=Gi t (a:Int) n k)->∀(m k:Nat),k+m=5->a+k<=(L t).length->(∀d∈((L t).drop a).take k,128<=d.toNat)->
    ∃r,(Ai B1 (((ET (((L t).drop a).take k):Nat):Int),((128^k:Nat):Int),((a+k:Nat):Int))=some r/\Ai B2 (((ET (((L t).drop a).take k):Nat):Int),(k:Int))=some r)/\(r= .inl ()\/∃q,r= .inr q/\ABQ t (a:Int) q):=by
   intro B1 B2 z h0 m
   induction m with
   |zero=>grind [Au,BW,Dl,Gi]
   |succ m ih=>
    intro k hk h9 hd;rw[Au,Au B2];simp only[z,h0,Dl,Gi];have j:k<5:=by omega
    rw[BW (b:=5) (by omega) (by omega),Ac (by omega:((a+k:Nat):Int)<(a:Int)+5),Ac (by omega:(k:Int)<5),Ac (by omega:(a:Int)>=0),Ba,BD];by_cases l:a+k<(L t).length
    ·rw[Ac (by omega:((a+k:Nat):Int)<((L t).length:Int)),Ac (by omega:(a:Int)<((L t).length:Int)-k)];have eak:ad (a:Int) (k:Int)=((a+k:Nat):Int):=by rw[BW];omega
     simp only[Al,Aa,DT t l,eak];have hx:=iI<|(L t)[a+k];have f:=XA (L t) a k l;have o:(((L t).drop a).take k).length=k:=by simp;omega
     have g:=Nc (((L t).drop a).take k) [(L t)[a+k]];rw[<-f,o]at g;have h4:=WW<|((L t).drop a).take k;rw[o]at h4;have hp:=eY k j;generalize a0:(L t)[a+k]=x at hx f g;simp only[ET,Nat.mul_zero,pJ]at g;have hw:IntKind.i64.wrap (x.toNat:Int)=x.toNat:=MV (by omega) (by omega);have h7:x.toNat %128*128^k<=127*268435456:=aO (by omega) hp;have emul:ml ((x.toNat %128:Nat):Int) ((128^k:Nat):Int)=((x.toNat %128*128^k:Nat):Int):=by grind [Oe]
     have enew:ad (((ET (((L t).drop a).take k):Nat)):Int) ((x.toNat %128*128^k:Nat):Int)=((ET (((L t).drop a).take<|k+1):Nat):Int):=by grind [BW]
     rw[hw,pU,AAv _ k (by omega) j];simp only[Aa,emul,enew];by_cases h:x.toNat<128
     ·rw[Ac (by omega:(x.toNat:Int)<128),Ah (by omega:¬(x.toNat:Int)>=128)];have ek1:ad ((a+k:Nat):Int) 1=((a+k+1:Nat):Int):=ad1 (by omega);have c:=dF (((L t).drop a).take k) x hd h;rw[<-f]at c;have h5:(((L t).drop a).take k≠ [])↔0<k:=by grind
      rw[h5]at c;have p:sub t (a:Int) ((a+k+1:Nat):Int)=some (t.extract a<|a+k+1):=EU t (by omega) (by omega);rw[ek1,p];by_cases h8:ET (((L t).drop a).take<|k+1)>1000000000
      ·rw[Ac (by omega:((ET (((L t).drop a).take<|k+1):Nat):Int)>1000000000)];refine⟨.inr (0,0,false),⟨rfl,?_⟩,.inr ⟨_,rfl,.inl ⟨rfl,rfl,rfl⟩⟩⟩
       grind
      rw[Ah (by omega:¬((ET (((L t).drop a).take<|k+1):Nat):Int)>1000000000)];obtain⟨s,h6,a1⟩:=HH (ET<|((L t).drop a).take<|k+1) (by omega);simp only[Ad,Aa,h6];have u:seq s (t.extract a<|a+k+1)=decide (¬(x.toNat=0/\0<k)):=by grind [PU,Jc]
      rw[u];by_cases hz:x.toNat=0/\0<k
      ·rw[Ah λe=>e hz];refine⟨.inr (0,0,false),⟨rfl,?_⟩,.inr ⟨_,rfl,.inl ⟨rfl,rfl,rfl⟩⟩⟩
       grind
      rw[Ac hz];refine⟨.inr (((ET (((L t).drop a).take<|k+1):Nat):Int),((a+k+1:Nat):Int),true),⟨rfl,?_⟩,.inr ⟨_,rfl,.inr ⟨rfl,a,a+k+1,_,rfl,rfl,rfl,by omega,by omega,by omega,?_⟩⟩⟩
      ·grind
      grind
     rw[Ah (by omega:¬(x.toNat:Int)<128),Ac (by omega:(x.toNat:Int)>=128)];have e1:ml ((128^k:Nat):Int) 128=((128^(k+1):Nat):Int):=by grind [Oe]
     have e2:ad ((a+k:Nat):Int) 1=((a+(k+1):Nat):Int):=ad1 (by omega);have e3:ad (k:Int) 1=((k+1:Nat):Int):=ad1 (by omega);rw[e1,e2,e3];exact ih (k+1) (by omega) (by omega)<|by grind
    grind
  obtain⟨r,⟨h1,h2⟩,h3⟩:=y (λs=>Dl t (a:Int) s.1 s.2.1 s.2.2) (λs=>Gi t (a:Int) s.1 s.2) (λ_ _ _=>rfl) (λ_ _=>rfl) 5 0 rfl (by omega) (by simp);unfold Km IU;have hw:By (a:Int) 0 (FU t)=some true:=by grind [Ba,By]
  rw[hw];simp only[aP,ET,Nat.pow_zero,pJ]at h1 h2;rw[show((0:Nat):Int)=0 from rfl,show((1:Nat):Int)=1 from rfl]at h1;rw[show((0:Nat):Int)=0 from rfl]at h2;rw[h1,h2]
  rcases h3 with rfl|⟨q,rfl,h3⟩
  ·exact⟨_,rfl,rfl,.inl ⟨rfl,rfl,rfl⟩⟩
  grind
 have hf:=fails at_ (by omega) v;refine⟨(0,0,false),?_,hf,.inl ⟨rfl,rfl,rfl⟩⟩;unfold Km
 grind [Ba,Au,By,Dl]
theorem Za:F5=By:=rfl
variable {r n x:Int} {R:List Int} {i j k:Nat} {s:Store} {α γ:Type} {v:Vol} {p:Nat->Bool} {y:Ak} {f:Flash} {l:List α}
theorem BK {i:Int} {x:α} (h:gi l i=some x):0<=i/\l[i.toNat]?=some x:=by grind [gi]
theorem PE:Mm=FJ:=by
 have h2:LZ=DY:=by
  funext x y;unfold LZ DY
  cases decide (y<ln x.Leaves)with
  |false=>rfl
  |true=>
   cases gi x.Leaves y with
   |none=>rfl
   |some z=>rfl
 funext f;unfold Mm FJ;have:Ma f=DZ f:=by
  funext i;unfold Ma DZ;rw[h2];rfl
 rw[this];rfl
def IC (f:Flash):Prop:=f.Blocks.length<=1048576/\∀b∈f.Blocks,b.Leaves.length<=1048576
theorem PZ (x a b:Int):By x a b=some (decide (a<=x)&&decide (x<=b)):=by
 unfold By
 grind
theorem AA2 (x:Leaf):∃v,NT x=some v:=by
 unfold NT;cases x.Is==0
 ·cases x.Is==1
  ·cases x.Is==2<;>exact⟨_,rfl⟩
  simp[PZ]
 exact⟨_,rfl⟩
theorem To (f:Flash) (h:IC f):∃v,FJ f=some v/\(v=true->f.Blocks.length<=10/\∀b∈f.Blocks,b.Leaves.length=4):=by
 have a:=A4 (body:=λs:Int=>DZ f s) (λ(_:Unit) i=>i) f.Blocks.length (λi _=>∀j b,j<i->f.Blocks[j]?=some b->b.Leaves.length=4) (λr=>r= .inr false\/r= .inl ()/\∀b∈f.Blocks,b.Leaves.length=4)
  (λs i hi hs=>by
   obtain⟨x,hx⟩:∃x,f.Blocks[i]?=some x:=⟨_,Ab hi⟩;have hM:=h.1;simp only[DZ,Da hi,Ap,hx,Aa,PZ];by_cases h4:x.Leaves.length=4
   ·have e1:(ln x.Leaves !=4)=false:=by simp[ln,h4]
    simp only[e1,Ad,Aa]
    cases hw:(decide (0<=x.Wear)&&decide (x.Wear<=1000000000))with
    |false=>grind
    |true=>
     simp only[Aj,Ad];obtain⟨r,h5,h6⟩:=A4 (body:=λs:Int=>DY x s) (λ(_:Unit) i=>i) x.Leaves.length (λ_ _=>True) (λr=>r= .inl ()\/r= .inr (.inr<|.inr false))
      (λs k hk _=>by
       obtain⟨y,hy⟩:∃y,x.Leaves[k]?=some y:=⟨_,Ab hk⟩;obtain⟨v,hv⟩:=AA2 y;simp only[DY,Da hk,Ap,hy,Aa,hv];have fin:∀j:Bool,(∃s':Unit,(bif j then some (.inr<|.inr<|.inr<|.inr false)else some (.inl<|ad (k:Int) 1):Option (Int⊕Unit⊕Int⊕Unit⊕Bool))=some (.inl (((k+1:Nat)):Int))/\True)\/∃b,(bif j then some (.inr<|.inr<|.inr<|.inr false)else some (.inl<|ad (k:Int) 1):Option (Int⊕Unit⊕Int⊕Unit⊕Bool))=some (.inr b)/\(b= .inl ()\/b= .inr (.inr<|.inr false)):=by
        intro j
        cases j with
        |true=>grind
        |false=>exact .inl ⟨(),by rw[Ad,ad1],trivial⟩
       cases v with
       |false=>exact fin true
       |true=>
        by_cases c:0<k
        ·rw[cT,BD,Kd (by omega) (by omega),Aa];cases(x.Leaves[((k:Int)-1).toNat]'(by omega)).Is==0
         ·exact fin false
         exact fin<|y.Is !=0
        simp_all)
      (λs _=>⟨_,by grind [DY],.inl rfl⟩) (s:=()) trivial
     rw[h5,Aa]
     rcases h6 with rfl|rfl
     ·refine .inl ⟨(),by rw[CX,ad1],?_⟩
      grind
     grind
   grind [ln])
  (λs hs=>⟨_,by simp[CM,DZ],.inr ⟨rfl,λb hb=>by
   obtain⟨j,hj,e⟩:=Aw hb
   exact hs j b hj<|by grind⟩⟩) (s:=()) (λj b hj=>absurd hj<|by omega)
 obtain⟨r,h1,h2⟩:=a;unfold FJ;rw[h1,Aa]
 rcases h2 with rfl|⟨rfl,h2⟩
 ·simp
 simp_all [PZ,AY];grind
theorem Sh (p:Page):∃v,KZ p=some v/\Ra p=some v/\(v=true->(p.Kind=1\/p.Kind=2)/\(1<=p.Seq/\p.Seq<=1000000000)/\(1<=p.Tx/\p.Tx<=1000000000)/\(1<=p.Count/\p.Count<=9)/\(0<=p.Part/\p.Part<p.Count)/\FU p.Text<=90):=by
 unfold KZ Ra;rw[Za];simp only[PZ,Aa];by_cases h1:1<=p.Seq/\p.Seq<=1000000000
 ·by_cases h2:1<=p.Tx/\p.Tx<=1000000000
  ·by_cases h3:1<=p.Count/\p.Count<=9
   ·have e:sb p.Count 1=p.Count-1:=BD (by omega) (by omega);rw[e];by_cases h4:0<=p.Part/\p.Part<=p.Count-1
    ·by_cases h5:FU p.Text>90
     ·simp_all
     by_cases k2:p.Kind=2
     ·exact⟨true,by grind,by grind,λ_=>⟨.inr k2,h1,h2,h3,⟨h4.1,by omega⟩,by omega⟩⟩
     by_cases k1:p.Kind=1
     ·exact⟨p.Count==1,by grind,by grind,λ_=>⟨.inl k1,h1,h2,h3,⟨h4.1,by omega⟩,by omega⟩⟩
     have hk:(decide (1<=p.Kind)&&decide (p.Kind<=2))=false:=by grind
     exact⟨false,by simp[hk],by grind,by simp⟩
    refine⟨false,?_,?_,by simp⟩
    ·grind
    grind
   have e3:(decide (1<=p.Count)&&decide (p.Count<=9))=false:=by grind
   refine⟨false,?_,?_,by simp⟩
   ·grind
   grind
  have e2:(decide (1<=p.Tx)&&decide (p.Tx<=1000000000))=false:=by grind
  refine⟨false,?_,?_,by simp⟩
  ·grind
  simp[h1,e2]
 have e1:(decide (1<=p.Seq)&&decide (p.Seq<=1000000000))=false:=by grind
 refine⟨false,?_,?_,by simp⟩
 ·grind
 simp[e1]
def cH:Page:=Page.mk 0 0 0 0 0<|bs []
theorem Hm (u:ByteArray) (a:Int) (hu:(L u).length<=20000) (ha:oI a):CN (EJ.mk u a true)=some (0,EJ.mk u a true):=by grind [H5,CN]
theorem IR {r:Int×Int×Bool} (u:ByteArray) (a:Int) (hu:(L u).length<=20000) (h:Km u a=some r):CN (EJ.mk u a false)=some (cond r.2.2 (r.1,EJ.mk u r.2.1 false) (0,EJ.mk u a true)):=by
 unfold CN
 grind
theorem oP {a b:Nat} (l:List UInt8) (h:a<=b):l.drop a=(l.drop a).take (b-a)++l.drop b:=by
 have:=(Bs (b-a)<|l.drop a).symm;rw[DG,show a+(b-a)=b by omega]at this;exact this
theorem WE (p:Page) (u:ByteArray) (k:UInt8) (n1 n2 n3 n4:Nat) (hp:KZ p=some true) (hk:p.Kind=(k.toNat:Int)) (h1:p.Seq=n1) (h2:p.Tx=n2) (h3:p.Part=n3) (h4:p.Count=n4) (b1:n1<=1000000000) (b2:n2<=1000000000) (b3:n3<=1000000000) (b4:n4<=1000000000) (hu:(L u).length<=20000) (e:L u=[k]++BL n1++BL n2++BL n3++BL n4++L p.Text):DN p=KX u:=by
 obtain⟨s1,q1,r1⟩:=HH n1 (by omega);obtain⟨s2,q2,r2⟩:=HH n2 (by omega);obtain⟨s3,q3,r3⟩:=HH n3 (by omega);obtain⟨s4,q4,r4⟩:=HH n4 (by omega);have hl:=BM List.length e;have hb:Me p.Kind=some (DU [IntKind.u8.wrap p.Kind]):=rfl;have a:L (DU [IntKind.u8.wrap p.Kind])=[k]:=by grind [K2,IntKind.wrap_u8,iI,UInt8.ofNat_toNat]
 unfold DN;rw[hp];simp only[Aa,Aj,Ad,hb,h1,h2,h3,h4,q1,q2,q3,q4];rw[E8 _ _ (by grind),Aa,E8 _ _ (by grind [EG]),Aa,E8 _ _ (by grind [EG]),Aa,E8 _ _ (by grind [EG]),Aa,E8 _ _ (by grind [EG]),Aa];have:DU [IntKind.u8.wrap p.Kind]++s1++s2++s3++s4++p.Text=u:=by grind [Jb,EG]
 rw[this]
 cases KX u with
 |none=>rfl
 |some v=>rfl
theorem H6 (t:ByteArray) (ht:(L t).length<=9223372036854775806):∃p ok,Fv t=some (p,ok)/\Pu t=some (p,ok)/\(ok=false->p=cH)/\(ok=true->KZ p=some true):=by
 obtain⟨u,uok,j,k,m,n⟩:=lL t ht;unfold Fv Pu;rw[j,k];simp only[Aa];have o1:oI 1:=⟨by omega,by omega⟩
 cases uok with
 |false=>
  have:=n rfl;subst this;have hz:(L<|bs []).length<=20000:=by rw[CB];simp
  exact⟨cH,false,rfl,rfl,λ_=>rfl,by simp⟩
 |true=>
  obtain⟨e,v,hv,q⟩:=m rfl;simp only[Aj,Ad,Aa];by_cases he:(L u).length<1
  ·have g:seq u (bs [])=true:=by grind [PU,CB]
   simp_all [Ba,Hm,cH]
  have g:seq u (bs [])=false:=by grind [PU,CB]
  rw[Ah (by rw[Ba];omega:¬FU u<1),g];simp only[Ad];have four_:∀(B:Int×Int×Int×Int×Int×Int->Option ((Int×Int×Int×Int×Int×Int)⊕(Int×Int×Int×Int×Int)⊕(Page×Bool))),(∀x y a b c d,B (x,y,a,b,c,d)=D8 (u,true) x y a b c d)->
    ∃(a:Int) (m1 m2 m3 m4:Int) (bad:Bool),(∃c1 c2 c3,CN (EJ.mk u 1 false)=some (m1,c1)/\CN c1=some (m2,c2)/\CN c2=some (m3,c3)/\CN c3=some (m4,EJ.mk u a bad))/\
     Ai B (1,0,0,0,0,0)=some (bif bad then .inr (cH,false)else .inl (a,m1,m2,m3,m4))/\(bad=false->∃(a1 a2 a3 a4 n1 n2 n3 n4:Nat),m1=n1/\m2=n2/\m3=n3/\m4=n4/\a=a4/\1<a1/\a1<a2/\a2<a3/\a3<a4/\a4<=(L u).length/\n1<=1000000000/\n2<=1000000000/\n3<=1000000000/\n4<=1000000000/\
      BL n1=((L u).drop 1).take (a1-1)/\BL n2=((L u).drop a1).take (a2-a1)/\BL n3=((L u).drop a2).take (a3-a2)/\BL n4=((L u).drop a3).take (a4-a3)):=by
   intro B hB;obtain⟨r1,p1,q1,w1⟩:=H5 u 1 (by omega) o1;have g1:=IR u 1 e p1;rw[Au,hB];unfold D8;rw[cT,q1,Aa]
   rcases w1 with⟨w1,w2,w3⟩|⟨w1,a0',a1,n1,z0,z1,z2,z3,z4,z5,z6⟩
   ·rw[w1]at g1⊢;exact⟨1,0,0,0,0,true,⟨_,_,_,g1,Hm u 1 e o1,Hm u 1 e o1,Hm u 1 e o1⟩,rfl,by simp⟩
   have ea0:a0'=1:=by omega
   subst ea0;rw[w1]at g1⊢;have x1:oI r1.2.1:=⟨by omega,by omega⟩;simp only[Aj,Ad,Al]at g1⊢;rw[show((0:Int)==0)=true from rfl,Al,show ad 0 1=1 from ad1 (i:=0)<|by omega];simp only;obtain⟨r2,p2,q2,y1⟩:=H5 u r1.2.1 (by omega) x1;have g2:=IR u r1.2.1 e p2;rw[Au,hB];unfold D8;rw[cT,q2,Aa]
   rcases y1 with⟨y1,_,_⟩|⟨y1,b0,a2,n2,y2,y3,y4,y5,y6,y7,y8⟩
   ·rw[y1]at g2⊢;exact⟨r1.2.1,r1.1,0,0,0,true,⟨_,_,_,g1,g2,Hm u _ e x1,Hm u _ e x1⟩,rfl,by simp⟩
   have eb:b0=a1:=by omega
   subst eb;rw[y1]at g2⊢;have x2:oI r2.2.1:=⟨by omega,by omega⟩;simp only[Aj,Ad,Al]at g2⊢;rw[show((1:Int)==0)=false from rfl,Ad,show((1:Int)==1)=true from rfl,Al,show ad 1 1=2 from ad1 (i:=1)<|by omega];simp only;obtain⟨r3,p3,q3,k1⟩:=H5 u r2.2.1 (by omega) x2;have g3:=IR u r2.2.1 e p3;rw[Au,hB];unfold D8;rw[cT,q3,Aa]
   rcases k1 with⟨k1,_,_⟩|⟨k1,c0,a3,n3,k2,k3,k4,k5,k6,k7,k8⟩
   ·rw[k1]at g3⊢;exact⟨r2.2.1,r1.1,r2.1,0,0,true,⟨_,_,_,g1,g2,g3,Hm u _ e x2⟩,rfl,by simp⟩
   have ec:c0=a2:=by omega
   subst ec;rw[k1]at g3⊢;have x3:oI r3.2.1:=⟨by omega,by omega⟩;simp only[Aj,Ad,Al]at g3⊢;rw[show((2:Int)==0)=false from rfl,Ad,show((2:Int)==1)=false from rfl,Ad,show((2:Int)==2)=true from rfl,Al,show ad 2 1=3 from ad1 (i:=2)<|by omega];simp only;obtain⟨r4,p4,q4,l1⟩:=H5 u r3.2.1 (by omega) x3;have g4:=IR u r3.2.1 e p4;rw[Au,hB];unfold D8;rw[cT,q4,Aa]
   rcases l1 with⟨l1,_,_⟩|⟨l1,d0,a4,n4,l2,l3,l4,l5,l6,l7,l8⟩
   ·rw[l1]at g4⊢;exact⟨r3.2.1,r1.1,r2.1,r3.1,0,true,⟨_,_,_,g1,g2,g3,g4⟩,rfl,by simp⟩
   have ed:d0=a3:=by omega
   subst ed;rw[l1]at g4⊢;simp only[Aj,Ad,Al]at g4⊢;rw[show((3:Int)==0)=false from rfl,Ad,show((3:Int)==1)=false from rfl,Ad,show((3:Int)==2)=false from rfl,Ad,show((3:Int)==3)=true from rfl,Al,show ad 3 1=4 from ad1 (i:=3)<|by omega];simp only;rw[Au,hB];unfold D8;rw[cF];exact⟨r4.2.1,r1.1,r2.1,r3.1,r4.1,false,⟨_,_,_,g1,g2,g3,g4⟩,rfl,λ_=>⟨b0,c0,d0,a4,n1,n2,n3,n4,z2,y4,k4,l4,l3,z3,y5,k5,l5,l6,z5,y7,k7,l7,z6,y8,k8,l8⟩⟩
  obtain⟨a,m1,m2,m3,m4,bad,⟨c1,c2,c3,f1,f2,f3,f4⟩,f5,f6⟩:=four_ (λs:Int×Int×Int×Int×Int×Int=>D8 (u,true) s.1 s.2.1 s.2.2.1 s.2.2.2.1 s.2.2.2.2.1 s.2.2.2.2.2) λ_ _ _ _ _ _=>rfl;rw[f5];simp only[f1,f2,f3,f4,Aa]
  cases bad with
  |true=>grind [cH]
  |false=>
   obtain⟨a1,a2,a3,a4,n1,n2,n3,n4,rfl,rfl,rfl,rfl,rfl,i1,i2,i3,i4,i5,j1,j2,j3,j4,s1,s2,s3,s4⟩:=f6 rfl;simp only[Ad,Aa,CX];have o:sx u 0=some (((L u)[0]'(by omega)).toNat:Int):=DT u (i:=0) (by omega);have h:sub u (a4:Int) (FU u)=some (u.extract a4 (L u).length):=by grind [Ba,EU]
   rw[o,h];simp only[Aa];have hk:=iI ((L u)[0]'(by omega));have hw:IntKind.i64.wrap (((L u)[0]'(by omega)).toNat:Int)=((L u)[0]'(by omega)).toNat:=MV (by omega) (by omega);rw[hw];obtain⟨po,po1,po2,_⟩:=Sh (Page.mk (((L u)[0]'(by omega)).toNat:Int) n1 n2 n3 n4<|u.extract a4 (L u).length);rw[po2]
   cases po with
   |false=>
    have:DN (Page.mk (((L u)[0]'(by omega)).toNat:Int) n1 n2 n3 n4<|u.extract a4 (L u).length)=some (bs [],false):=by grind [DN]
    rw[this];simp[cH]
   |true=>
    have hT:L (u.extract a4 (L u).length)=(L u).drop a4:=by grind [Jc,AF]
    have f:L u=[(L u)[0]'(by omega)]++BL n1++BL n2++BL n3++BL n4++L (u.extract a4 (L u).length):=by
     rw[hT,s1,s2,s3,s4];have h0:L u=[(L u)[0]'(by omega)]++(L u).drop 1:=by
      have:=A6 (l:=L u) (i:=0) (by omega);simpa using this
     grind [oP]
    rw[WE _ u ((L u)[0]'(by omega)) n1 n2 n3 n4 po1 rfl rfl rfl rfl rfl j1 j2 j3 j4 e f];obtain⟨v',hv',hs'⟩:=(Sg u).2 e;rw[hv]at hv'
    injection hv' with hv'
    subst hv';rw[hs',Aa];have:seq (u++four v) t=true:=by grind [Jo]
    simp only[Aj,Ad,Aa,this]
    grind
def Xt (x:Leaf):Nat:=x.Text.size
def Lv (x:Block):Nat:=zl Xt x.Leaves
def N7 (x:Flash):Nat:=zl Lv x.Blocks
theorem ABp (f:Flash) (h:N7 f<=1048576):IC f/\∀b∈f.Blocks,∀x∈b.Leaves,(L x.Text).length<=1048576:=by
 have h1:=UY (z:=Lv) (l:=f.Blocks);unfold N7 at h;refine⟨⟨by omega,λb hb=>?_⟩,λb hb x hx=>?_⟩
 ·grind [mP,Lv,zl]
 grind [mP,Z7,Lv,Xt]
def nl (l:List Block):Nat:=(l.map λb=>b.Leaves.length).sum
theorem ADp (f:Flash):nl f.Blocks<=N7 f:=by
 unfold nl N7 zl;have:∀l:List Block,(l.map λb=>b.Leaves.length).sum<=(l.map Lv).sum:=by
  intro l
  induction l with
  |nil=>simp
  |cons b l ih=>grind [Lv,zl]
 grind
def QP (f:Flash) (y:Ak):Prop:=∃b x,gi f.Blocks y.Block=some b/\gi b.Leaves y.Leaf=some x/\(x.Is==1)=true/\Fv x.Text=some (y.Page,true)
theorem WB {b:Block} {x:Leaf} (f:Flash) (hf:IC f) (hb:f.Blocks[i]?=some b) (hx:b.Leaves[k]?=some x):SI f i k=some (cond (x.Is==1) (x.Text,true) (bs [],false)):=by
 have h1:=(Ae.1 hb).1;have h2:=(Ae.1 hx).1;have h3:=hf.1;have h4:=hf.2 b<|An hb;unfold SI;rw[BD (by rw[AY];omega) (by rw[AY];omega),PZ,AY,Ac (by omega:(0:Int)<=(i:Int)),Ac (by omega:(i:Int)<=(f.Blocks.length:Int)-1)];simp only[Aa,Bool.and_self,Aj,Ad,Ap,hb];rw[BD (by rw[AY];omega) (by rw[AY];omega),PZ,AY,Ac (by omega:(0:Int)<=(k:Int)),Ac (by omega:(k:Int)<=(b.Leaves.length:Int)-1)]
 grind
theorem Ze (f:Flash) (hf:IC f) (hT:∀b∈f.Blocks,∀x∈b.Leaves,(L x.Text).length<=1048576) (hn:nl f.Blocks<=1048576):
  ∃X,Ai (λs:List Ak×Int=>DW f s.1 s.2) ([],0)=some X/\Ai (λs:Int×List Ak=>HM f s.1 s.2) (0,[])=some X/\X.length<=nl f.Blocks/\∀y∈X,QP f y:=by
 refine ME (body:=λs:List Ak×Int=>DW f s.1 s.2) (body':=λs:Int×List Ak=>HM f s.1 s.2) (λs i=>(s,i)) (λs i=>(i,s)) f.Blocks.length (λi a=>a.length<=((f.Blocks.take i).map λb=>b.Leaves.length).sum/\∀y∈a,QP f y) (λX=>X.length<=nl f.Blocks/\∀y∈X,QP f y) ?_ ?_ (s:=[]) ⟨by simp,by simp⟩
 ·intro a i hi ⟨c,d⟩;have hb:f.Blocks[i]?=some f.Blocks[i]:=Ab hi;have hm:f.Blocks[i]∈f.Blocks:=Aq _;have h:=Qr (λb:Block=>b.Leaves.length) f.Blocks i hi;have j:=Nd (λb:Block=>b.Leaves.length) f.Blocks<|i+1;unfold nl at hn;have l:=hf.1;refine .inl ?_;simp only[DW,HM,Da hi,Ap,hb,Aa];obtain⟨u,q1,q2,q3⟩:=ME (body:=λs:List Ak×Int=>Gd f (i:Int) s.1 s.2) (body':=λs:Int×List Ak=>JJ (i:Int) f.Blocks[i] s.1 s.2) (λs i=>(s,i)) (λs i=>(i,s)) f.Blocks[i].Leaves.length (λk u=>u.length<=a.length+k/\∀y∈u,QP f y) (λu=>u.length<=a.length+f.Blocks[i].Leaves.length/\∀y∈u,QP f y)
   (λu k hk hu=>by
    have hx:f.Blocks[i].Leaves[k]?=some f.Blocks[i].Leaves[k]:=Ab hk
    have g:∀y:Ak,ap 72 u [y]=some (u++ [y]):=λy=>AN<|by grind
    refine .inl ?_;obtain⟨p,ok,r1,r2,r3,r4⟩:=H6 f.Blocks[i].Leaves[k].Text (by grind);simp only[Gd,JJ,Da hk,Ap,hb,hx,Aa,WB f hf hb hx,r2,g]
    cases e:f.Blocks[i].Leaves[k].Is==1 with
    |false=>grind [H6,CB,ad1]
    |true=>
     simp only[Al,Aa,r1]
     cases ok with
     |false=>grind [ad1]
     |true=>
      refine⟨u++ [Ak.mk i k p],by grind [ad1],by grind [ad1],by grind,λy hy=>?_⟩
      rcases Ay.1 hy with hy|hy
      ·exact hu.2 y hy
      rw[Bn]at hy;subst hy
      exact⟨_,_,by simp only[Ap];exact hb,by grind [Ap],e,r1⟩)
   (λu hu=>⟨u,by simp_all [Ap,CM,Gd],by simp[CM,JJ],hu⟩) (s:=a) ⟨by omega,d⟩
  grind [ad1]
 intro a ⟨c,d⟩;refine⟨a,by simp[CM,DW],by simp[CM,HM],?_,d⟩;rw[Et]at c;exact c
theorem gB {l:List γ} {i j:Int} {x y:γ} (h:gi l j=some y):∃z,gi (si l i x) j=some z:=by grind [gi,si]
theorem mV (l:List Ak) (k:Int):LO l k=(AO (Ml Be) 0 k l).map (Sum.map (λs=>(s.2,s.1)) id):=by
 unfold LO AO uP mU
 cases hk:decide (k>0)with
 |false=>rfl
 |true=>
  cases h1:gi l (sb k 1)with
  |none=>simp
  |some x=>
   cases h2:gi l k with
   |none=>simp
   |some y=>
    simp only[Aa];have e:(decide<|x.Page.Seq>y.Page.Seq)=Ml Be y x:=rfl;rw[e]
    cases Ml Be y x with
    |false=>rfl
    |true=>
     obtain⟨z,hz⟩:=gB (i:=k) (x:=x) h1
     grind
theorem AAr {l l':List γ} {i j:Int} (h:mU l i j=some l'):l'.length=l.length:=by grind [Af,mU,si]
theorem ABa {a j:Int} {l r:List Ak} (h:Ai (λs:Int×List Ak=>AO (Ml Be) a s.1 s.2) (j,l)=some r):r.length=l.length:=by
 refine tM (λs:Int×List Ak=>s.2.length=l.length) (λr=>r.length=l.length) ?_ ?_ (s:=(j,l)) rfl h
 ·rintro⟨j,m⟩ s' hm hb;obtain⟨c,_,hb⟩:=Af.1 hb
  grind [Af,AAr]
 rintro⟨j,m⟩ b hm hb;obtain⟨c,_,hb⟩:=Af.1 hb
 grind [Af]
theorem Zu (f:Flash) (hf:IC f) (hT:∀b∈f.Blocks,∀x∈b.Leaves,(L x.Text).length<=1048576) (hn:nl f.Blocks<=1048576):
  ∃r,EL f=some r/\ER f=some r/\r.length<=nl f.Blocks/\(∀y∈r,QP f y)/\srt Be r:=by
 obtain⟨X,h1,h2,h3,h4⟩:=Ze f hf hT hn;obtain⟨r,h5,h6,h7⟩:=bL Be X (by omega);obtain⟨r',h8,h9,h10⟩:=HI Be [] X [] (by grind);have hr:r'=r:=Mu Be h9 h6 (λk=>by rw[h7 k,<-h10 k]);subst hr;refine⟨r',?_,?_,?_,?_,h6⟩
 ·unfold EL;rw[h1,Aa];simp only[Av,AJ,LC,K0]at h8;unfold Bt at h8;have hc:Ai (λs:List Ak×Int=>LP s.1 s.2) (X,1)=Ai (λs:Int×List Ak=>AL (Ml Be) ((0:Nat):Int) (X.length:Int) s.1 s.2) (1,X):=by
   refine jW (body:=λs:Int×List Ak=>AL (Ml Be) ((0:Nat):Int) (X.length:Int) s.1 s.2) (body':=λs:List Ak×Int=>LP s.1 s.2) (λs=>(s.2,s.1)) (λs=>s.2.length=X.length) ?_ ?_ (1,X) rfl
   ·rintro⟨j,m⟩ hm;simp only[LP,AL,AY,hm]
    cases decide (j<(X.length:Int))with
    |false=>rfl
    |true=>
     rw[nW (body:=λs:Int×List Ak=>AO (Ml Be) ((0:Nat):Int) s.1 s.2) (body':=λs:List Ak×Int=>LO s.1 s.2) (λs=>(s.2,s.1)) (λs=>mV s.2 s.1) (j,m)];cases Ai (λs:Int×List Ak=>AO (Ml Be) ((0:Nat):Int) s.1 s.2) (j,m)<;>rfl
   rintro⟨j,m⟩ s' hm hb;simp only[AL]at hb
   cases hc:decide (j<(X.length:Int))with
   |false=>grind
   |true=>
    rw[hc,Al]at hb;obtain⟨m',h1,hb⟩:=Af.1 hb
    injection hb with hb
    injection hb with hb
    subst hb;exact(ABa h1).trans hm
  rw[hc];exact h8
 ·unfold ER
  grind
 ·grind [Br.len]
 grind [Br.mem]
theorem MF {S:Type} {body:S->Option (S⊕List α)} (a:List α->Int->S) (g:Nat->α->α) (l0:List α) (h1:∀(i:Nat) (l:List α) x,l.length=l0.length->l[i]?=some x->l0[i]?=some x->body (a l (i:Nat))=some (.inl (a (l.set i (g i x)) ((i+1:Nat):Int)))) (h2:∀l:List α,l.length=l0.length->body (a l (l0.length:Nat))=some (.inr l)):Ai body (a l0 0)=some (l0.mapIdx g):=by
 obtain⟨b,h3,h4⟩:=A4 (body:=body) a l0.length (λi l=>l.length=l0.length/\∀j,l[j]?=if j<i then(l0[j]?).map (g j)else l0[j]?) (λb=>b=l0.mapIdx g)
  (λl i hi hs=>by
   obtain⟨hl,hs⟩:=hs;have c:l0[i]?=some l0[i]:=Ab hi
   grind)
  (λl hs=>⟨l,h2 l hs.1,by
   apply Bo
   grind⟩) (s:=l0) ⟨rfl,λj=>by rfl⟩
 rw[h3,h4]
abbrev Ks:=List AZ
def dk:AZ:=AZ.mk true []
def B4 (K:Ks) (i:Int):AZ:=(gi K i).getD dk
def NK (k:AZ) (j:Nat):Int:=(k.Kids[j]?).getD 0
def Qi (K:Ks) (i:Nat) (leaf:Bool) (n:Int):Bool:=bif leaf then decide (0<=n)else(n== -1||(decide (0<=n/\n<=(i:Int)-1)&&(B4 K n).Leaf))
def Ci (K:Ks):Bool:=K.zipIdx.all λz=>z.1.Kids.length==4&&z.1.Kids.all (Qi K z.2 z.1.Leaf)
def CH (K:Ks) (r:Int):Bool:=r== -1||(decide (0<=r/\r<(K.length:Int))&&!(B4 K r).Leaf)
def Qd (K:Ks) (root:Int) (s:Nat):Int:=if root<0 then 0 else if NK (B4 K root) (s/4)<0 then 0 else NK (B4 K<|NK (B4 K root)<|s/4)<|s %4
def DF (K:Ks) (root:Int):List Int:=(List.range 16).map<|Qd K root
variable {K X:Ks}
theorem Oh (h:i<K.length):B4 K (i:Int)=K[i]:=by grind [Ap,B4]
theorem GS {i:Int} (h0:0<=i) (h:i<(K.length:Int)):gi K i=some (B4 K i):=by grind [Kd,B4]
theorem CU (x a b:Int):By x a b=some (decide (a<=x/\x<=b)):=by
 rw[PZ];simp
theorem F6:Ci K=true↔∀i:Nat,i<K.length->(B4 K (i:Int)).Kids.length=4/\∀n∈(B4 K (i:Int)).Kids,Qi K i (B4 K (i:Int)).Leaf n=true:=by simp_all [Oh,List.mem_zipIdx_iff_getElem?,Ae,Ci];grind
theorem J2 (a:Arena) (ha:a.Knots.length<=1048576):GA a=some (Ci a.Knots):=by
 unfold GA;have h:=Y0 (body:=λs:Int=>Ea a s) a.Knots (λi k=>k.Kids.length==4&&k.Kids.all (Qi a.Knots i k.Leaf)) (.inr false) (.inl ()) (by omega)
  (λi k hk=>by
   have hi:=(Ae.1 hk).1;simp only[Ea,Da hi,Ap,hk,Aa];by_cases h4:k.Kids.length=4
   ·have e1:(ln k.Kids !=4)=false:=by simp[ln,h4]
    have e2:(k.Kids.length==4)=true:=by simp[h4]
    simp only[e1,Ad,e2,Bool.true_and];have q:=Y0 (body:=λs:Int=>Fi a (i:Int) k s) k.Kids (λ_ n=>Qi a.Knots i k.Leaf n) (.inr<|.inr<|.inr false) (.inl ()) (by omega)
     (λj n hn=>by
      have hj:=(Ae.1 hn).1;simp only[Fi];rw[cT,Ap,hn];simp only[Aa,Qi]
      cases hl:k.Leaf with
      |true=>grind [ad1]
      |false=>
       simp only[Ad,BQ,Al];by_cases h1:n= -1
       ·grind [ad1]
       grind [BD,CU,GS,ad1])
     (by grind [Fi])
    rw[q];have hz:(k.Kids.zipIdx.all λz=>Qi a.Knots i k.Leaf z.1)=k.Kids.all (Qi a.Knots i k.Leaf):=by
     rw[show(λz:Int×Nat=>Qi a.Knots i k.Leaf z.1)=(Qi a.Knots i k.Leaf)∘Prod.fst from rfl,<-List.all_map];simp
    grind [ad1]
   grind [ln])
  (by simp[CM,Ea])
 grind [Ci]
theorem LI (a:Arena) (ha:a.Knots.length<=1048576) (r:Int):HC a r=some (CH a.Knots r):=by grind [AY,BD,CU,GS,HC,CH]
theorem B5 (h:CH K r=true):r= -1\/(0<=r/\r<(K.length:Int)/\(B4 K r).Leaf=false):=by grind [CH]
theorem E5 (hK:Ci K=true) (h0:0<=r) (h1:r<(K.length:Int)):(B4 K r).Kids.length=4/\∀j,j<4->(B4 K r).Kids[j]?=some (NK (B4 K r) j)/\Qi K r.toNat (B4 K r).Leaf (NK (B4 K r) j)=true:=by
 have:=F6.1 hK r.toNat<|by omega
 grind [NK]
theorem Fk (hK:Ci K=true) (h0:0<=r) (h1:r<(K.length:Int)) (hl:(B4 K r).Leaf=false) (hj:j<4):NK (B4 K r) j= -1\/(0<=NK (B4 K r) j/\NK (B4 K r) j<r/\(B4 K (NK (B4 K r) j)).Leaf=true):=by grind [E5,Qi]
theorem yJ (hK:Ci K=true) (h0:0<=r) (h1:r<(K.length:Int)) (hl:(B4 K r).Leaf=true) (hj:j<4):0<=NK (B4 K r) j:=by grind [E5,Qi]
theorem qu4 {s:Nat} (h:s<16):qu (s:Int) 4=((s/4:Nat):Int):=by grind [MV,qu]
theorem uY {s:Nat}:Int.tmod (s:Int) 4=((s %4:Nat):Int):=by rfl
theorem VZ {s:Nat} (a:Arena) (hK:Ci a.Knots=true) (hr:CH a.Knots r=true) (hs:s<16):NR a r (s:Int)=some (Qd a.Knots r s):=by
 unfold NR Qd
 rcases B5 hr with rfl|⟨h0,h1,hl⟩
 ·rfl
 rw[Ah (by omega:¬r<0),AT (by omega),Ad,GS h0 h1];rw[Aa,qu4 hs,Ap,((E5 hK h0 h1).2 (s/4)<|by omega).1];simp only[Aa]
 rcases Fk hK h0 h1 hl (show s/4<4 by omega)with e|⟨e1,e2,e3⟩
 ·rw[e];rfl
 rw[Ah (by omega),AT (by omega),Ad,GS e1<|by omega];rw[Aa,uY,Ap,((E5 hK e1<|by omega).2 (s %4)<|by omega).1];rfl
theorem XX {s:Nat} (a:Arena) (ha:a.Knots.length<=1048576) (hK:Ci a.Knots=true) (hr:CH a.Knots r=true) (hs:s<16):R3 a r (s:Int)=some (Qd a.Knots r s):=by simp_all [J2,LI,CU,VZ,R3];grind
theorem M7 (a:Arena) (ha:a.Knots.length<=1048576) (hK:Ci a.Knots=true) (hr:CH a.Knots r=true):J3 a r=some (DF a.Knots r):=by
 unfold J3;obtain⟨b,h1,h2⟩:=A4 (body:=λs:List Int×Int=>M8 a r s.1 s.2) (λ(o:List Int) i=>(o,i)) 16 (λi o=>o=(List.range i).map (Qd a.Knots r)) (λb=>b=DF a.Knots r)
  (λo i hi ho=>by grind [XX,AN,ad1,Ds,M8])
  (λo ho=>⟨_,by rfl,ho⟩) (s:=[]) rfl
 grind
theorem Kz {by_:Nat} (h:l.length*by_<=140737488355328):ap by_ [] l=some l:=by grind [AN]
def zO (K:Ks):Prop:=K.length<=1048576/\∀k∈K,k.Kids.length<=1048576
theorem JQ (hK:Ci K=true) (h:K.length<=1048576):zO K:=by
 refine⟨h,λk hk=>?_⟩
 grind [Aw,F6,Oh]
theorem TM (a:Arena) (h:zO a.Knots):NS a=some a:=by
 unfold NS;have h1:=QM (body:=λs:Int×List AZ=>LJ a s.1 s.2) a.Knots (λk=>k)
  (λi k b hk ho=>by
   have hi:=(Ae.1 hk).1;have hm:=h.2 k<|An hk;have:=h.1;simp only[LJ,Da hi,Ap,hk,Aa]
   rw[Kz (by omega),Aa,AN (by simp;omega),Aa,ad1])
  (λb=>by simp[CM,LJ])
 rw[h1];simp
theorem Fc (s:Store) (h:zO s.Arena.Knots) (hv:s.Vols.length<=1048576):Dy s=some s:=by
 unfold Dy;rw[Kz (by omega),TM _ h];rfl
def PX (K:Ks) (r:Int) (s:Nat) (n:Int):List Int:=(if r<0 then [0,0,0,0]else if NK (B4 K r) (s/4)<0 then [0,0,0,0]else(B4 K<|NK (B4 K r)<|s/4).Kids).set (s %4) n
def T5 (K:Ks) (r:Int) (s:Nat):List Int:=(if r<0 then [-1,-1,-1,-1]else(B4 K r).Kids).set (s/4) (K.length:Int)
def Je (K:Ks) (r:Int) (s:Nat) (n:Int):Ks:=K++ [AZ.mk true<|PX K r s n,AZ.mk false<|T5 K r s]
theorem mk4:mk 8 (0:Int) 4=some [0,0,0,0]:=by rfl
theorem kN {k:AZ} (h:j<k.Kids.length):gi k.Kids (j:Int)=some (NK k j):=by grind [Ap,NK]
theorem XU {s:Nat} (a:Arena) (ha:a.Knots.length<=1048000) (hK:Ci a.Knots=true) (hr:CH a.Knots r=true) (hs:s<16) (hn:0<=n):
  eQ a r (s:Int) n=some (Arena.mk (Je a.Knots r s n),(a.Knots.length:Int)+1):=by
 unfold eQ;rw[TM _ (JQ hK<|by omega),J2 a (by omega),LI a (by omega),CU,hK,hr];rw[Ac (by omega:0<=(s:Int)/\(s:Int)<=15),Ah (by omega:¬n<0)];rw[mk4];simp only[Aa];have fin:∀(lf tp:List Int),lf.length=4->tp.length=4->Je a.Knots r s n=a.Knots++ [AZ.mk true<|lf.set (s %4) n,AZ.mk false<|tp.set (s/4) (a.Knots.length:Int)]->
   ((gi lf<|Int.tmod (s:Int) 4).bind λx4=>(gi tp<|qu (s:Int) 4).bind λx5=>(ap 32 a.Knots [AZ.mk true<|si lf (Int.tmod (s:Int) 4) n,AZ.mk false<|si tp (qu (s:Int) 4)<|ln a.Knots]).bind λq4=>some (Arena.mk q4,sb (ln q4) 1))=some (Arena.mk<|Je a.Knots r s n,(a.Knots.length:Int)+1):=by
  intro lf tp h1 h2 h3;rw[qu4 hs,uY,Ap,Ap,Ab (by omega),Ab<|by omega];rw[AN (by simp;omega),Dk,Dk,AY,<-h3]
  grind [AY,BD]
 rcases B5 hr with rfl|⟨h0,h1,hl⟩
 ·rw[Ah (by omega:¬(-1:Int)>=0)];exact fin _ _ rfl rfl rfl
 rw[cT,GS h0 h1];have h4:=(E5 hK h0 h1).1;simp only[Aa];rw[Kz<|by omega];simp only[Aa];rw[qu4 hs,kN (by omega:s/4<(B4 a.Knots r).Kids.length)];simp only[Aa];rw[<-qu4 hs]
 rcases Fk hK h0 h1 hl (show s/4<4 by omega)with e|⟨e1,e2,e3⟩
 ·grind [Je,PX,T5]
 grind [GS,E5,Kz,Je,PX,T5]
def MY (K:Ks) (r:Int) (i:Nat):Bool:=decide (0<=r)&&(decide (r=(i:Int))||(B4 K r).Kids.any λn=>decide<|n=(i:Int))
theorem fF (n:Nat) (f:Nat->α) (g:Nat->α->α):((List.range n).map f).mapIdx g=(List.range n).map λi=>g i (f i):=by
 apply Bo
 grind
theorem NY (n:Nat) (f:Nat->α) (i:Nat) (x:α) (g:Nat->α) (h:∀j,j<n->g j=if j=i then x else f j):((List.range n).map f).set i x=(List.range n).map g:=by
 apply Bo
 grind
theorem Mj {n:Nat} {f:Nat->α} (h:i<n):((List.range n).map f)[i]?=some (f i):=by grind
theorem T8 {l:List Int} {m:Nat} (h:l[m]?=some x) (p:Int->Bool):(l.take (m+1)).any p=((l.take m).any p||p x):=by grind [Dg]
theorem iX (a:Arena) (ha:a.Knots.length<=1048576) (hK:Ci a.Knots=true) (hr:CH a.Knots r=true):XQ a r=some ((List.range a.Knots.length).map (MY a.Knots r)):=by
 unfold XQ;rw[AY,Yx (by omega)<|by omega];simp only[Aa]
 rcases B5 hr with rfl|⟨h0,h1,hl⟩
 ·simp only[show decide ((-1:Int)<0)=true from rfl,Al];congr 1;rw[show(MY a.Knots<|-1)=λ_=>false from rfl,LB,ES]
 rw[cF];obtain⟨m,rfl⟩:∃m:Nat,r=(m:Int):=⟨r.toNat,by omega⟩;rw[Ap,List.getElem?_replicate,Bv<|by omega];rw[Dk];obtain⟨h4,hk⟩:=E5 hK h0 h1;obtain⟨b,q1,q2⟩:=A4 (body:=λs:List Bool×Int=>Ni a (m:Int) s.1 s.2) (λ(o:List Bool) i=>(o,i)) 4
  (λi o=>o=(List.range a.Knots.length).map λ(j:Nat)=>decide ((m:Int)=(j:Int))||((B4 a.Knots (m:Int)).Kids.take i).any λn=>decide<|n=(j:Int))
  (λb=>b=(List.range a.Knots.length).map (MY a.Knots (m:Int)))
  (λo i hi ho=>by
   obtain⟨e,_⟩:=hk i hi;simp only[Ni];rw[cT,GS h0 h1];simp only[Aa];rw[Ap,e];simp only[Aa]
   rcases Fk hK h0 h1 hl hi with e1|⟨e1,e2,e3⟩
   ·grind [ad1,T8]
   obtain⟨c,hc⟩:∃c:Nat,NK (B4 a.Knots (m:Int)) i=(c:Int):=⟨(NK (B4 a.Knots (m:Int)) i).toNat,by omega⟩;rw[hc,cT];rw[ho,Ap,Mj<|by omega];rw[Dk,ad1]
   simp_all [NY,T8];grind)
  (λo ho=>⟨_,by simp only[Ni];rw[cF],by
   rw[ho];apply Dc;intro j hj;rw[AF<|by omega]
   rfl⟩) (s:=(List.replicate a.Knots.length false).set m true) (by grind [ES,LB,NY])
 grind
def Cj (K:Ks) (R:List Int) (i:Nat):Bool:=R.any λr=>MY K r i
def iF (K:Ks) (R:List Int) (i:Nat):Nat:=((List.range i).filter<|Cj K R).length
def Qf (K:Ks) (R:List Int) (n:Int):Int:=if 0<=n then(iF K R n.toNat:Int)else n
def XE (K:Ks) (R:List Int) (i:Nat):AZ:=AZ.mk (B4 K (i:Int)).Leaf<|bif(B4 K (i:Int)).Leaf then(B4 K (i:Int)).Kids else(B4 K (i:Int)).Kids.map<|Qf K R
def T9 (K:Ks) (R:List Int):Ks:=((List.range K.length).filter<|Cj K R).map<|XE K R
theorem HG (l:List α) (f:α->α):l.mapIdx (λ_ x=>f x)=l.map f:=by
 apply Bo
 grind
theorem NM (hr:r∈R) (h0:0<=r):Cj K R r.toNat=true:=by grind [Cj,MY]
theorem X4 (hK:Ci K=true) (hR:∀r∈R,CH K r=true) (hu:Cj K R i=true) (hl:(B4 K (i:Int)).Leaf=false):(i:Int)∈R:=by
 unfold Cj at hu;rw[Ev]at hu;obtain⟨r,hr,h⟩:=hu;unfold MY at h;simp only[Ao,GK,Bc,Ev]at h;obtain⟨h0,h⟩:=h
 rcases h with h|⟨n,hn,h⟩
 ·grind
 rcases B5 (hR r hr)with e|⟨_,h1,a⟩
 ·omega
 obtain⟨h4,hk⟩:=E5 hK h0 h1;obtain⟨j,hj,b⟩:=Aw hn;have e:=(hk j<|by omega).1
 grind [Fk]
theorem Tz (hr:r∈R) (h0:0<=r) (hn:n∈(B4 K r).Kids) (h1:0<=n):Cj K R n.toNat=true:=by grind [Cj,MY]
theorem ABT (i:Nat):iF K R i<=i:=by
 have:=B7 (Cj K R)<|List.range i;rw[ES]at this;exact this
theorem ZJ (a:Arena) (ha:a.Knots.length<=1048576) (R:List Int) (hc:R.length<=1048576) (hR:∀r∈R,CH a.Knots r=true):Ai (λs:Bool×Int=>Gs a R s.1 s.2) (true,0)=some true:=by
 obtain⟨b,h1,h2⟩:=A4 (body:=λs:Bool×Int=>Gs a R s.1 s.2) (λ(o:Bool) i=>(o,i)) R.length (λ_ o=>o=true) (λb=>b=true)
  (λo i hi ho=>by
   have hx:=Ab hi;simp only[Gs,GR,Ac hi,Al,Aa,ho,Ap,hx];rw[LI a ha,hR _<|Aq hi,Aa,ad1]
   grind)
  (λo ho=>⟨o,by grind [GR,Gs],ho⟩) (s:=true) rfl
 grind
theorem eO (a:Arena) (ha:a.Knots.length<=1048576) (hK:Ci a.Knots=true) (R:List Int) (hc:R.length<=1048576) (hR:∀r∈R,CH a.Knots r=true):
  Ai (λs:List Bool×Int=>Gr a R s.1 s.2) (List.replicate a.Knots.length false,0)=some ((List.range a.Knots.length).map (Cj a.Knots R)):=by
 obtain⟨b,h1,h2⟩:=A4 (body:=λs:List Bool×Int=>Gr a R s.1 s.2) (λ(o:List Bool) i=>(o,i)) R.length (λi o=>o=(List.range a.Knots.length).map λ(j:Nat)=>(R.take i).any λr=>MY a.Knots r j) (λb=>b=(List.range a.Knots.length).map (Cj a.Knots R))
  (λo i hi ho=>by
   have hx:=Ab hi;simp only[Gr,Da hi,Aa,Ap,hx];rw[iX a ha hK<|hR _<|Aq hi];simp only[Aa];have q:=MF (body:=λs:List Bool×Int=>Iw ((List.range a.Knots.length).map<|MY a.Knots R[i]) s.1 s.2) (λl i=>(l,i)) (λk x=>x||MY a.Knots R[i] k) o
    (λk l x hl c d=>by grind [GR,Ap,Dk,ad1,Iw])
    (λl hl=>by grind [GR,Iw])
   rw[q,Aa,ad1,ho,fF]
   grind [Dg])
  (λo ho=>⟨o,by simp[CM,Gr],by rw[ho,AF<|by omega];rfl⟩) (s:=List.replicate a.Knots.length false) (by grind [LB,ES])
 grind
def Tp (K:Ks) (R:List Int) (i:Nat):List Int:=(List.range K.length).map λ(j:Nat)=>if j<i/\Cj K R j=true then(iF K R j:Int)else 0
theorem ZK (a:Arena) (ha:a.Knots.length<=1048576) (hK:Ci a.Knots=true) (R:List Int) (hR:∀r∈R,CH a.Knots r=true):
  Ai (λs:List Int×Int×List AZ=>Gq a ((List.range a.Knots.length).map (Cj a.Knots R)) s.1 s.2.1 s.2.2) (List.replicate a.Knots.length 0,0,[])=some (Tp a.Knots R a.Knots.length,T9 a.Knots R):=by
 obtain⟨b,h1,h2⟩:=A4 (body:=λs:List Int×Int×List AZ=>Gq a ((List.range a.Knots.length).map<|Cj a.Knots R) s.1 s.2.1 s.2.2) (λ(o:List Int×List AZ) i=>(o.1,i,o.2)) a.Knots.length
  (λi o=>o=(Tp a.Knots R i,((List.range i).filter<|Cj a.Knots R).map<|XE a.Knots R)) (λb=>b=(Tp a.Knots R a.Knots.length,T9 a.Knots R))
  (λo i hi ho=>by
   subst ho;simp only[Gq,Da hi];rw[Ap,Mj hi];simp only[Aa]
   cases hu:Cj a.Knots R i with
   |false=>grind [ad1,Ds,Tp]
   |true=>
    simp only[Aj,Ad];have h0:(0:Int)<=(i:Int):=by omega
    have d:(i:Int)<(a.Knots.length:Int):=by omega
    rw[GS h0 d];obtain⟨h4,hk⟩:=E5 hK h0 d;simp only[Aa];rw[Kz<|by omega];simp only[Aa];have inner:Ai (λs:Int×List Int=>Gp (Tp a.Knots R i) ((B4 a.Knots (i:Int)).Leaf,(B4 a.Knots (i:Int)).Kids) s.1 s.2) (0,(B4 a.Knots (i:Int)).Kids)=some (XE a.Knots R i).Kids:=by
     unfold XE
     cases hl:(B4 a.Knots (i:Int)).Leaf with
     |true=>rw[Au];rfl
     |false=>
      have q:=MF (body:=λs:Int×List Int=>Gp (Tp a.Knots R i) (false,(B4 a.Knots (i:Int)).Kids) s.1 s.2) (λl k=>(k,l)) (λ_ x=>Qf a.Knots R x) (B4 a.Knots (i:Int)).Kids
       (λk l x g h j=>by
        have m:k<4:=by grind
        have ex:x=NK (B4 a.Knots (i:Int)) k:=by grind
        simp only[Gp];rw[Ac (by omega:(k:Int)<4)];simp only[Al,Aa,BQ];rw[Ap,h];simp only[Aa]
        rcases Fk hK h0 d hl m with e|⟨e1,e2,e3⟩
        ·rw[cF,ad1];have:Qf a.Knots R x=x:=by unfold Qf;omega
         rw[this,show l.set k x=l from by
          apply Bo
          grind]
        rw[cT];obtain⟨c,hc⟩:∃c:Nat,x=(c:Int):=⟨x.toNat,by omega⟩;have n:x∈(B4 a.Knots (i:Int)).Kids:=An j;have f:=Tz (X4 hK hR hu hl) h0 n (by omega);rw[hc]at f;rw[hc,Ap];unfold Tp;rw[Mj (by omega),Aa,Bv ⟨by omega,f⟩,Dk,ad1]
        rfl)
       (λl g=>by grind [Gp])
      grind [HG]
    rw[inner];simp only[Aa];have p:gi (Tp a.Knots R i) (i:Int)=some 0:=by grind [Ap,Tp]
    rw[p];simp only[Aa];have u:=ABT (K:=a.Knots) (R:=R) i;have t:(((List.range i).filter<|Cj a.Knots R).map<|XE a.Knots R).length=iF a.Knots R i:=by rw[Bm];rfl
    rw[AN (by grind),Aa,ad1,AY,t,Dk];refine .inl ⟨(_,_),rfl,?_⟩;congr 1
    ·grind [NY,Tp]
    rw[Ds,BC,HP hu,List.filter_nil,GJ]
    rfl)
  (λo ho=>⟨o,by simp[CM,Gq],ho⟩) (s:=(List.replicate a.Knots.length 0,[])) (by grind [LB,ES,Tp])
 grind
theorem m8 (a:Arena) (ha:a.Knots.length<=1048576) (R:List Int) (hc:R.length<=1048576) (hR:∀r∈R,CH a.Knots r=true):
  Ai (λs:List Int×Int=>Gn (Tp a.Knots R a.Knots.length,T9 a.Knots R) s.1 s.2) (R,0)=some (R.map (Qf a.Knots R)):=by
 have q:=MF (body:=λs:List Int×Int=>Gn (Tp a.Knots R a.Knots.length,T9 a.Knots R) s.1 s.2) (λl k=>(l,k)) (λ_ x=>Qf a.Knots R x) R
  (λk l x h b d=>by
   have i:=(Ae.1 b).1;simp only[Gn,Da i,Ap,b,Aa]
   rcases B5 (hR x<|An d)with e|⟨e1,e2,e3⟩
   ·rw[cF,ad1];have:Qf a.Knots R x=x:=by unfold Qf;omega
    rw[this,show l.set k x=l from by
     apply Bo
     grind]
   rw[cT];obtain⟨c,f⟩:∃c:Nat,x=(c:Int):=⟨x.toNat,by omega⟩;have g:=NM (K:=a.Knots) (An d) e1;rw[f]at g;rw[f,Ap];unfold Tp;rw[Mj (by omega),Aa,Bv ⟨by omega,g⟩,Dk,ad1]
   rfl)
  (λl h=>by grind [AY,Gn])
 grind [HG]
theorem XS (a:Arena) (ha:a.Knots.length<=1048576) (hK:Ci a.Knots=true) (R:List Int) (hc:R.length<=1048576) (hR:∀r∈R,CH a.Knots r=true):
  LL a R=some (Arena.mk (T9 a.Knots R),R.map (Qf a.Knots R)):=by
 unfold LL;rw[Kz (by omega),J2 a ha,hK];simp only[Aa];rw[ZJ a ha R hc hR];rw[AY,Yx (by omega)<|by omega];simp only[Aa];rw[eO a ha hK R hc hR];rw[Yx (by omega)<|by omega];simp_all [ZK,m8]
theorem YX (p:Nat->Bool) (hp:p i=true):∀{n:Nat},i<n->((List.range n).filter p)[((List.range i).filter p).length]?=some i
 |0,h=>by omega
 |n+1,h=>by
  rw[Ds,BC];by_cases e:i=n
  ·grind
  have h2:=YX p hp<|show i<n by omega
  grind
theorem zB {n:Nat} (p:Nat->Bool) (hp:p i=true) (h:i<n):((List.range i).filter p).length<((List.range n).filter p).length:=(Ae.1<|YX p hp h).1
theorem kQ (p:Nat->Bool):∀{n j:Nat},j<((List.range n).filter p).length->∃i,i<n/\p i=true/\((List.range i).filter p).length=j
 |0,j,h=>by simp at h
 |n+1,j,h=>by
  rw[Ds,BC,A3]at h;by_cases e:j<((List.range n).filter p).length
  ·obtain⟨i,h1,h2,h3⟩:=kQ p e
   grind
  grind
theorem p9:(T9 K R).length=iF K R K.length:=by unfold T9 iF;rw[Bm]
theorem Rv (hu:Cj K R i=true) (hi:i<K.length):B4 (T9 K R) (iF K R i:Nat)=XE K R i/\iF K R i<(T9 K R).length:=by grind [Ap,YX,iF,T9,B4]
theorem u7 (hj:j<(T9 K R).length):∃i,i<K.length/\Cj K R i=true/\iF K R i=j:=by
 rw[p9]at hj;exact kQ (Cj K R) hj
theorem ADe (hu:Cj K R i=true) (h:i<j):iF K R i<iF K R j:=zB _ hu h
theorem XD (i:Nat):(XE K R i).Leaf=(B4 K (i:Int)).Leaf:=rfl
theorem pY (hK:Ci K=true) (hi:i<K.length):(XE K R i).Kids.length=4:=by grind [F6,XE]
theorem pZ (hl:(B4 K (i:Int)).Leaf=false) (hj:j<(B4 K (i:Int)).Kids.length):NK (XE K R i) j=Qf K R (NK (B4 K (i:Int)) j):=by
 unfold NK XE
 grind
theorem Sq (hl:(B4 K (i:Int)).Leaf=true):(XE K R i).Kids=(B4 K (i:Int)).Kids:=by grind [XE]
theorem Xb (h:n<0):Qf K R n=n:=by unfold Qf;omega
theorem R6 (n:Nat):Qf K R (n:Int)=(iF K R n:Int):=by rfl
theorem ACg (hK:Ci K=true) (hR:∀r∈R,CH K r=true):Ci (T9 K R)=true:=by
 rw[F6];intro j hj;obtain⟨i,hi,hu,rfl⟩:=u7 hj;rw[(Rv hu hi).1];refine⟨pY hK hi,λn hn=>?_⟩;have h0:(0:Int)<=(i:Int):=by omega
 have h1:(i:Int)<(K.length:Int):=by omega
 obtain⟨h4,hk⟩:=E5 hK h0 h1;rw[XD]
 cases hl:(B4 K (i:Int)).Leaf with
 |true=>grind [Sq,F6,Qi]
 |false=>
  obtain⟨m,hm,b⟩:=Aw hn;rw[pY hK hi]at hm;have e:n=Qf K R (NK (B4 K (i:Int)) m):=by
   rw[<-pZ hl (by omega),<-b]
   grind [NK]
  rcases Fk hK h0 h1 hl hm with k1|⟨k1,k2,k3⟩
  ·rw[k1,Xb<|by omega]at e;subst e;rfl
  obtain⟨c,hc⟩:∃c:Nat,NK (B4 K (i:Int)) m=(c:Int):=⟨_,(AA k1).symm⟩;rw[hc]at e k2 k3;rw[R6]at e;have a:=Tz (X4 hK hR hu hl) h0 (An (hk m hm).1) (by omega);rw[hc]at a;have d:c<K.length:=by omega
  have f:iF K R c<iF K R i:=ADe (by simpa using a)<|by omega
  grind [Rv,XD,Qi]
theorem wD (hR:∀r∈R,CH K r=true) (hr:r∈R):CH (T9 K R) (Qf K R r)=true:=by
 rcases B5 (hR r hr)with e|⟨h0,h1,hl⟩
 ·rw[e,Xb<|by omega];rfl
 obtain⟨c,rfl⟩:∃c:Nat,r=(c:Int):=⟨_,(AA h0).symm⟩
 grind [NM,B8,Rv,R6,XD,CH]
theorem qN (hK:Ci K=true) (hR:∀r∈R,CH K r=true) (hr:r∈R):DF (T9 K R) (Qf K R r)=DF K r:=by
 unfold DF;apply Dc;intro s hs;rw[aQ]at hs;unfold Qd
 rcases B5 (hR r hr)with e|⟨h0,h1,hl⟩
 ·grind [Xb]
 obtain⟨c,rfl⟩:∃c:Nat,r=(c:Int):=⟨_,(AA h0).symm⟩;have a:=NM (K:=K) hr h0;rw[B8]at a;obtain⟨g1,g2⟩:=Rv a (by omega);obtain⟨h4,hk⟩:=E5 hK h0 h1;rw[R6,g1,pZ hl<|by omega];simp only[AT (show¬((iF K R c:Nat):Int)<0 by omega),AT<|show¬((c:Nat):Int)<0 by omega]
 rcases Fk hK h0 h1 hl (show s/4<4 by omega)with k1|⟨k1,k2,k3⟩
 ·grind [Xb]
 obtain⟨d,hd⟩:∃d:Nat,NK (B4 K (c:Int)) (s/4)=(d:Int):=⟨_,(AA k1).symm⟩;have b:=Tz hr h0 (An (hk (s/4)<|by omega).1) k1
 grind [R6,Rv,Sq,NK]
theorem AAs (hK:Ci K=true) (hR:∀r∈R,CH K r=true) (hj:j<(T9 K R).length):Cj (T9 K R) (R.map (Qf K R)) j=true:=by
 obtain⟨i,hi,hu,rfl⟩:=u7 hj;have hu':=hu;unfold Cj at hu';rw[Ev]at hu';obtain⟨r,hr,h⟩:=hu';unfold MY at h;simp only[Ao,GK,Bc,Ev]at h;obtain⟨h0,h⟩:=h;unfold Cj;rw[Ev];refine⟨Qf K R r,A0.2 ⟨r,hr,rfl⟩,?_⟩;obtain⟨c,rfl⟩:∃c:Nat,r=(c:Int):=⟨_,(AA h0).symm⟩;rw[R6];unfold MY;simp only[Ao,GK,Bc,Ev];refine⟨by omega,?_⟩
 rcases h with h|⟨n,hn,h⟩
 ·grind
 right
 rcases B5 (hR _ hr)with e|⟨_,h1,hl⟩
 ·omega
 grind [NM,B8,Rv,R6,XE]
theorem QN {i:Int} (h0:0<=i) (h:i<(K.length:Int)):B4 (K++X) i=B4 K i:=by
 obtain⟨c,rfl⟩:∃c:Nat,i=(c:Int):=⟨_,(AA h0).symm⟩
 grind [Ap,B4]
theorem vZ (h:CH K r=true):CH (K++X) r=true:=by grind [QN,CH]
theorem qJ (hK:Ci K=true) (h:CH K r=true):DF (K++X) r=DF K r:=by grind [Dc,B5,QN,Fk,DF,Qd]
theorem cV {s:Nat} (hK:Ci K=true) (hr:CH K r=true) (hs:s<16) (n:Int):(PX K r s n).length=4:=by grind [B5,Fk,E5,PX]
theorem iK (hK:Ci K=true) (hr:CH K r=true) (s:Nat):(T5 K r s).length=4:=by grind [B5,E5,T5]
theorem V0 {s:Nat}:B4 (Je K r s n) (K.length:Int)=AZ.mk true (PX K r s n):=by grind [Ap,B4,Je]
theorem Vz {s:Nat}:B4 (Je K r s n) ((K.length:Int)+1)=AZ.mk false (T5 K r s):=by
 unfold B4 Je;rw[show(K.length:Int)+1=((K.length+1:Nat):Int)from rfl,Ap,CS (by omega),show K.length+1-K.length=1 by omega];rfl
theorem ACp {s:Nat} (hK:Ci K=true) (hr:CH K r=true) (hs:s<16) (hn:0<=n):Ci (Je K r s n)=true:=by
 rw[F6];intro j hj;have a:(Je K r s n).length=K.length+2:=by unfold Je;simp
 rw[a]at hj;by_cases h:j<K.length
 ·grind [QN,F6,Je,Qi]
 by_cases e:j=K.length
 ·subst e;rw[V0];refine⟨cV hK hr hs n,λm hm=>?_⟩;simp only[Qi,Al,Bc]
  rcases BP hm with hm|hm
  ·rcases B5 hr with e|⟨h0,h1,hl⟩
   ·grind
   rw[AT<|by omega]at hm
   rcases Fk hK h0 h1 hl (show s/4<4 by omega)with k1|⟨k1,k2,k3⟩
   ·grind
   rw[AT<|by omega]at hm;have hq:=F6.1 hK (NK (B4 K r)<|s/4).toNat<|by omega
   grind [Qi]
  omega
 have:j=K.length+1:=by omega
 subst this;rw[show((K.length+1:Nat):Int)=(K.length:Int)+1 from rfl,Vz];refine⟨iK hK hr s,λm hm=>?_⟩;simp only[Qi,Ad,GK,JW,Ao,Bc]
 rcases BP hm with hm|hm
 ·rcases B5 hr with e|⟨h0,h1,hl⟩
  ·grind
  rw[AT<|by omega]at hm;obtain⟨q,hq,rfl⟩:=Aw hm;obtain⟨h4,hk⟩:=E5 hK h0 h1;have e5:=(hk q<|by omega).1
  grind [Fk,QN,Je]
 grind [V0]
theorem tA {s:Nat}:CH (Je K r s n) ((K.length:Int)+1)=true:=by grind [Vz,CH,Je]
theorem qS {s:Nat} (hK:Ci K=true) (hr:CH K r=true) (hs:s<16):DF (Je K r s n) ((K.length:Int)+1)=(DF K r).set s n:=by
 unfold DF;symm;apply NY;intro t ht;unfold Qd;rw[Vz];simp only[AT<|show¬((K.length:Int)+1)<0 by omega];have a:=iK hK hr s;have b:=cV hK hr hs n;by_cases hq:t/4=s/4
 ·have e1:NK (AZ.mk false<|T5 K r s) (t/4)=(K.length:Int):=by grind [NK,T5]
  rw[e1,AT (by omega),V0];have e2:NK (AZ.mk true<|PX K r s n) (t %4)=if t %4=s %4 then n else(if r<0 then 0 else if NK (B4 K r) (s/4)<0 then 0 else NK (B4 K<|NK (B4 K r)<|s/4)<|t %4):=by grind [NK,PX]
  grind
 rw[AT<|show¬t=s by omega];have e1:NK (AZ.mk false<|T5 K r s) (t/4)=if r<0 then-1 else NK (B4 K r) (t/4):=by grind [NK,T5]
 rw[e1]
 grind [B5,Fk,QN,Je]
def L3 (n:Nat) (p:Nat->Bool):Nat:=((List.range n).filter p).length
theorem RZ (n:Nat) (p:Nat->Bool):L3 (n+1) p=L3 n p+(if p n=true then 1 else 0):=by grind [Ds,L3]
theorem Xq (p q:Nat->Bool):∀n,L3 n (λj=>p j||q j)<=L3 n p+L3 n q
 |0=>by simp[L3]
 |n+1=>by
  have:=Xq p q n
  grind [RZ]
theorem Zf (x:Int):∀n,L3 n (λj=>decide (x=(j:Int)))<=1/\(x>=(n:Int)->L3 n (λj=>decide (x=(j:Int)))=0)
 |0=>by simp[L3]
 |n+1=>by
  obtain⟨h1,h2⟩:=Zf x n
  grind [RZ]
theorem zL (l:List Int) (n:Nat):L3 n (λj=>l.any λx=>decide (x=(j:Int)))<=l.length:=by
 induction l with
 |nil=>simp[L3]
 |cons x l ih=>
  simp only[List.any_cons,AD];have:=Xq (λj=>decide<|x=(j:Int)) (λj=>l.any λx=>decide<|x=(j:Int)) n;have:=(Zf x n).1;omega
theorem ABl {n:Nat} {q:Nat->Bool} (h:∀j,j<n->p j=true->q j=true):L3 n p<=L3 n q:=by
 induction n with
 |zero=>simp[L3]
 |succ n ih=>grind [RZ]
theorem kY {n:Nat} (h:∀j,j<n->p j=true):L3 n p=n:=by
 induction n with
 |zero=>rfl
 |succ n ih=>grind [RZ]
theorem ABc (hK:Ci K=true) (hr:CH K r=true) (n:Nat):L3 n (MY K r)<=5:=by
 have h1:=Xq (λj=>decide<|r=(j:Int)) (λj=>(B4 K r).Kids.any λn=>decide<|n=(j:Int)) n;have h2:=(Zf r n).1;have h3:=zL (B4 K r).Kids n
 have h4:L3 n (MY K r)<=L3 n (λj=>decide (r=(j:Int))||(B4 K r).Kids.any λn=>decide<|n=(j:Int)):=ABl λj _ h=>by grind [MY]
 rcases B5 hr with e|⟨h0,hl,_⟩
 ·have:L3 n (MY K r)=L3 n (λ_=>false):=by rw[e];rfl
  simp_all;grind
 grind [E5]
theorem X5 (hK:Ci K=true) (n:Nat):∀(R:List Int),(∀r∈R,CH K r=true)->L3 n (Cj K R)<=5*R.length
 |[],_=>by simp[L3,Cj]
 |r::R,h=>by
  have h1:=X5 hK n R (λx hx=>h x<|by simp[hx]);have h2:=ABc hK (h r<|by simp) n;have h3:=Xq (MY K r) (Cj K R) n;have h4:L3 n (Cj K (r::R))=L3 n (λj=>MY K r j||Cj K R j):=rfl
  grind
theorem sM (hK:Ci K=true) (hR:∀r∈R,CH K r=true):(T9 K R).length<=5*R.length:=by
 rw[p9];exact X5 hK _ R hR
def Bb (s:Store):List Int:=s.Vols.map Vol.Root
structure StoreR (s:Store):Prop where
 len:s.Vols.length<=3
 ar:Ci s.Arena.Knots=true
 nx:1<=s.Next/\s.Next<=1000000000
 ids:∀v∈s.Vols,1<=v.Id/\v.Id<=9
 asc:(s.Vols.map Vol.Id).Pairwise (·<·)
 root:∀r∈Bb s,CH s.Arena.Knots r=true
 lt:∀r∈Bb s,∀x∈DF s.Arena.Knots r,x<s.Next
 few:s.Arena.Knots.length<=1000
structure BU (s:Store):Prop extends StoreR s where
 used:∀i,i<s.Arena.Knots.length->Cj s.Arena.Knots (Bb s) i=true
theorem BU.small (h:BU s):s.Arena.Knots.length<=15:=by
 have h1:=X5 h.ar s.Arena.Knots.length (Bb s) h.root;rw[kY h.used]at h1;have:(Bb s).length=s.Vols.length:=by unfold Bb;rw[Bm]
 have:=h.len;omega
def A5 (s:Store):List (Int×List Int):=s.Vols.map λv=>(v.Id,DF s.Arena.Knots v.Root)
def Kg (s:Store):Store:=Store.mk (s.Vols.map λv=>Vol.mk v.Id<|Qf s.Arena.Knots (Bb s) v.Root) (Arena.mk<|T9 s.Arena.Knots<|Bb s) s.Next
theorem OR (s:Store):Bb (Kg s)=(Bb s).map (Qf s.Arena.Knots (Bb s)):=by simp[Bb,Kg]
theorem pX (h:StoreR s):BU (Kg s):=by
 have b:(Bb s).length=s.Vols.length:=by unfold Bb;rw[Bm]
 refine⟨⟨by unfold Kg;simpa using h.len,ACg h.ar h.root,h.nx,?_,?_,?_,?_,?_⟩,?_⟩
 ·intro v hv;unfold Kg at hv;simp only[A0]at hv;obtain⟨w,hw,rfl⟩:=hv;exact h.ids w hw
 ·have:((Kg s).Vols.map Vol.Id)=s.Vols.map Vol.Id:=by unfold Kg;simp
  rw[this];exact h.asc
 ·intro r hr;rw[OR]at hr;obtain⟨q,hq,rfl⟩:=A0.1 hr;exact wD h.root hq
 ·intro r hr;rw[OR]at hr;obtain⟨q,hq,rfl⟩:=A0.1 hr;have:=qN h.ar h.root hq;intro x hx;have a:x∈DF s.Arena.Knots q:=by rw[<-this];exact hx
  exact h.lt q hq x a
 ·have:=sM h.ar h.root;have:=h.len;show(T9 s.Arena.Knots<|Bb s).length<=1000;omega
 intro i hi;rw[OR];exact AAs h.ar h.root hi
theorem bI (h:StoreR s):A5 (Kg s)=A5 s:=by
 unfold A5;show(s.Vols.map λv=>Vol.mk v.Id<|Qf s.Arena.Knots (Bb s) v.Root).map _=_;rw[GN];apply Dc;intro v hv;have:=qN h.ar h.root<|show v.Root∈Bb s from A0.2 ⟨v,hv,rfl⟩;show(v.Id,DF (T9 s.Arena.Knots<|Bb s)<|Qf s.Arena.Knots (Bb s) v.Root)=_;rw[this]
theorem Sr (s:Store) (hv:s.Vols.length<=1048576):OF s=some (Bb s):=by
 unfold OF;obtain⟨b,h1,h2⟩:=A4 (body:=λq:List Int×Int=>KC s q.1 q.2) (λ(o:List Int) i=>(o,i)) s.Vols.length (λi o=>o=(s.Vols.take i).map Vol.Root) (λb=>b=Bb s)
  (λo i hi ho=>by
   have hx:=Ab hi;simp only[KC,Da hi,Ap,hx,Aa]
   grind [AN,ad1,Dg])
  (λo ho=>⟨o,by simp[CM,KC],by rw[ho,AF<|Ax _];rfl⟩) (s:=[]) rfl
 grind
theorem K9 (h:StoreR s):Hc s=some (Kg s):=by
 have hl:=h.len;have hf:=h.few;have c:(Bb s).length=s.Vols.length:=by unfold Bb;rw[Bm]
 unfold Hc;rw[Sr s<|by omega];simp only[Aa];rw[XS _ (by omega) h.ar _ (by omega) h.root];rw[Kz<|by omega];simp only[Aa];have q:=MF (body:=λq:Int×List Vol=>KA ((Bb s).map<|Qf s.Arena.Knots<|Bb s,T9 s.Arena.Knots<|Bb s) q.1 q.2) (λl i=>(i,l)) (λ_ v=>Vol.mk v.Id<|Qf s.Arena.Knots (Bb s) v.Root) s.Vols
  (λi l x a b d=>by
   have hi:=(Ae.1 b).1;simp only[KA,Da hi]
   grind [Ap,Dk,ad1,Bb])
  (λl a=>by grind [AY,KA])
 rw[HG]at q;rw[q];rfl
theorem XB (h:BU s):Kg s=s:=by
 have d:∀i,i<=s.Arena.Knots.length->iF s.Arena.Knots (Bb s) i=i:=λi hi=>kY λj hj=>h.used j<|by omega
 have b:∀n:Int,n<(s.Arena.Knots.length:Int)->Qf s.Arena.Knots (Bb s) n=n:=λn hn=>by
  unfold Qf
  grind
 have a:∀r∈Bb s,Qf s.Arena.Knots (Bb s) r=r:=λr hr=>by
  rcases B5 (h.root r hr)with e|⟨h0,h1,_⟩
  ·grind
  exact b r h1
 have c:T9 s.Arena.Knots (Bb s)=s.Arena.Knots:=by
  unfold T9;rw[F8.2 λi hi=>h.used i<|by simpa using hi];apply Bo;intro i;rw[Dh];by_cases hi:i<s.Arena.Knots.length
  ·rw[List.getElem?_range hi,Ab hi];simp only[ID];congr 1;have h0:(0:Int)<=(i:Int):=by omega
   have h1:(i:Int)<(s.Arena.Knots.length:Int):=by omega
   unfold XE
   cases hl:(B4 s.Arena.Knots (i:Int)).Leaf with
   |true=>
    simp only[Al];rw[<-hl,Oh hi]
   |false=>
    simp only[Ad];have:(B4 s.Arena.Knots (i:Int)).Kids.map (Qf s.Arena.Knots<|Bb s)=(B4 s.Arena.Knots (i:Int)).Kids:=by
     conv=>rhs;rw[<-Ts (B4 s.Arena.Knots (i:Int)).Kids]
     apply Dc;intro n hn;obtain⟨q,hq,rfl⟩:=Aw hn;obtain⟨h4,hk⟩:=E5 h.ar h0 h1;have e5:=(hk q<|by omega).1;rw[Ab hq]at e5
     injection e5 with e5
     rw[e5]
     rcases Fk h.ar h0 h1 hl (show q<4 by omega)with k1|⟨k1,k2,k3⟩
     ·grind
     grind
    rw[this,<-hl,Oh hi]
  grind
 unfold Kg;rw[c];have:(s.Vols.map λv=>Vol.mk v.Id<|Qf s.Arena.Knots (Bb s) v.Root)=s.Vols:=by
  conv=>rhs;rw[<-Ts s.Vols]
  apply Dc;intro v hv;rw[a _<|A0.2 ⟨v,hv,rfl⟩];rfl
 rw[this]
theorem Zi {s:Nat} (hs:s<16):Qd K r s∈DF K r:=A0.2 ⟨s,by simpa using hs,rfl⟩
theorem QG {l:List Int} {y:Int} (h:l.Pairwise (·<·)) (a:i<j) (hx:l[i]?=some x) (hy:l[j]?=some y):x<y:=by grind [Cy]
theorem Qz (h:BU s):R2 s=some true:=by
 have hl:=h.len;have hf:=h.few;have d:(Bb s).length=s.Vols.length:=by unfold Bb;rw[Bm]
 unfold R2;rw[AY,cF,J2 _ (by omega),h.ar,CU,Ac h.nx];obtain⟨b,h1,h2⟩:=A4 (body:=λq:Int=>LN s q) (λ(_:Unit) i=>i) s.Vols.length (λ_ _=>True) (λb=>b= .inl ())
  (λ_ i hi _=>by
   have hx:=Ab hi;have hm:s.Vols[i]∈s.Vols:=Aq hi;have hr:s.Vols[i].Root∈Bb s:=A0.2 ⟨_,hm,rfl⟩;simp only[LN,Da hi,Ap,hx,Aa];rw[CU,Ac<|h.ids _ hm,LI _ (by omega),h.root _ hr];simp only[Aa,Aj,Ad];have a:(cond (decide<|(i:Int)>0) ((gi s.Vols<|sb (i:Int) 1).bind λx2=>cond (decide<|x2.Id>=s.Vols[i].Id) (some true)<|some false) (some false):Option Bool)=some false:=by
    by_cases h0:i=0
    ·rw[cF]
    rw[cT,BD,show(i:Int)-1=((i-1:Nat):Int) by omega,Ap,Ab<|by omega];simp only[Aa];have:=QG h.asc (show i-1<i by omega) (x:=s.Vols[i-1].Id) (y:=s.Vols[i].Id) (by grind) (by grind);rw[cF]
   rw[a];obtain⟨c,q1,q2⟩:=A4 (body:=λq:Int=>OJ s s.Vols[i] q) (λ(_:Unit) i=>i) 16 (λ_ _=>True) (λb=>b= .inl ())
    (λ_ k hk _=>by
     simp only[OJ];rw[cT,VZ _ h.ar (h.root _ hr) hk];simp only[Aa];have:=h.lt _ hr _<|Zi hk;rw[cF,ad1]
     simp)
    (λ_ _=>⟨_,by rfl,rfl⟩) (s:=()) trivial
   rw[q1,q2];rw[ad1]
   simp)
  (λ_ _=>⟨_,by simp[CM,LN],rfl⟩) (s:=()) trivial
 rw[h1,h2];simp only[Aa,CX];rw[Sr s (by omega),Aa,XS _ (by omega) h.ar _ (by omega) h.root];have:T9 s.Arena.Knots (Bb s)=s.Arena.Knots:=by
  have:=XB h
  grind [Kg]
 rw[this];simp
abbrev Vs:=List<|Int×List Int
def Dw (l:Vs) (id:Int):Option (List Int):=(l.find? λp=>p.1==id).map Prod.snd
def WL (l:Vs) (id:Int) (a:List Int):Vs:=(l.filter λp=>decide<|p.1<id)++ [(id,a)]++l.filter λp=>decide<|p.1>id
def kV (l:Vs) (id:Int):Vs:=l.filter λp=>p.1 !=id
def WJ (l:Vs) (id:Int) (s:Nat) (n:Int):Vs:=l.map λp=>if p.1=id then(p.1,p.2.set s n)else p
def EC (r:BV):Bool:=decide (0<=r.Arg/\r.Arg<=1000000000)&&(bif r.Kind==1 then r.Vol==0&&r.Chunk==0 else decide (2<=r.Kind/\r.Kind<=5)&&decide (1<=r.Vol/\r.Vol<=9)&&(r.Kind==4||r.Chunk==0)&&
 (bif r.Kind==2 then decide (r.Arg<=9)else bif r.Kind==3 then r.Arg==0 else bif r.Kind==4 then decide (r.Arg<16)&&decide (1<=r.Chunk/\r.Chunk<=1000000000)else decide (r.Arg<16)))
def IG:List Int:=List.replicate 16 0
def Cd (l:Vs) (nx:Int) (r:BV):Option (Vs×Int):=if EC r=false then none else if r.Kind=1 then some ([],if r.Arg=0 then 1 else r.Arg) else if r.Kind=2 then
  if(0<r.Arg/\Dw l r.Arg=none)\/Dw l r.Vol≠none\/l.length=3 then none else some (WL l r.Vol (if 0<r.Arg then(Dw l r.Arg).getD IG else IG),nx) else if Dw l r.Vol=none\/r.Chunk=1000000000 then none else if r.Kind=3 then some (kV l r.Vol,nx) else some (WJ l r.Vol r.Arg.toNat r.Chunk,max nx<|r.Chunk+1)
theorem Mf (r:BV):OL r=some (EC r):=by
 unfold OL EC;simp only[CU,Aa]
 grind
theorem DM (s:Store) (hv:s.Vols.length<=1048576) (id:Int):(C6 s id=some (-1)/\∀v∈s.Vols,v.Id≠id)\/∃k:Nat,∃v,C6 s id=some (k:Int)/\s.Vols[k]?=some v/\v.Id=id/\∀j w,j<k->s.Vols[j]?=some w->w.Id≠id:=by
 unfold C6;obtain⟨b,h1,h2⟩:=A4 (body:=λq:Int=>He s id q) (λ(_:Unit) i=>i) s.Vols.length (λi _=>∀j w,j<i->s.Vols[j]?=some w->w.Id≠id)
  (λb=>(b= .inl ()/\∀v∈s.Vols,v.Id≠id)\/∃k:Nat,∃v,b= .inr (k:Int)/\s.Vols[k]?=some v/\v.Id=id/\∀j w,j<k->s.Vols[j]?=some w->w.Id≠id)
  (λ_ i hi hs=>by
   have hx:=Ab hi;simp only[He,Da hi,Ap,hx,Aa]
   cases e:(s.Vols[i].Id==id)with
   |true=>grind
   |false=>
    rw[ad1];refine .inl ⟨(),rfl,λj w hj hw=>?_⟩
    grind)
  (λ_ hs=>⟨_,by simp[CM,He],.inl ⟨rfl,λv hv=>by
   obtain⟨j,hj,rfl⟩:=Aw hv
   simp_all⟩⟩) (s:=()) (λj w hj=>by omega)
 grind
theorem GG {id:Int}:(∀v∈s.Vols,v.Id≠id)↔Dw (A5 s) id=none:=by
 unfold Dw A5;simp
theorem ABs {w:Vol} (h:(s.Vols.map Vol.Id).Pairwise (·<·)) (hv:v∈s.Vols) (hw:w∈s.Vols) (e:v.Id=w.Id):v=w:=by
 obtain⟨i,hi,rfl⟩:=Aw hv;obtain⟨j,hj,rfl⟩:=Aw hw;have gi:(s.Vols.map Vol.Id)[i]?=some s.Vols[i].Id:=by grind
 have gj:(s.Vols.map Vol.Id)[j]?=some s.Vols[j].Id:=by grind
 rcases Tr i j with h1|h1|h1
 ·have:=QG h h1 gi gj;omega
 ·subst h1;rfl
 have:=QG h h1 gj gi;omega
theorem IY (h:(s.Vols.map Vol.Id).Pairwise (·<·)) (hv:v∈s.Vols):Dw (A5 s) v.Id=some (DF s.Arena.Knots v.Root):=by
 unfold Dw;have hm:(v.Id,DF s.Arena.Knots v.Root)∈A5 s:=A0.2 ⟨v,hv,rfl⟩
 cases hf:(A5 s).find? λp=>p.1==v.Id with
 |none=>grind
 |some p=>
  have h1:=List.find?_some hf;have h2:=List.mem_of_find?_eq_some hf;obtain⟨w,hw,rfl⟩:=A0.1 h2
  grind [ABs]
theorem Iq (s:Store):(A5 s).length=s.Vols.length:=by unfold A5;rw[Bm]
theorem jA (K:Ks):DF K (-1)=IG:=by rfl
theorem o8 (s:Store) (p:Int->Bool) (t:Store) (hk:t.Arena=s.Arena) (hv:t.Vols=s.Vols.filter λv=>p v.Id):A5 t=(A5 s).filter λq=>p q.1:=by
 unfold A5;rw[hk,hv,List.filter_map];rfl
theorem RE {body:List Vol×Int->Option ((List Vol×Int)⊕List Vol)} (l:List Vol) (p:Vol->Bool) (o:List Vol) (hM:l.length+o.length<=1048576) (h1:∀(i:Nat) v (a:List Vol),l[i]?=some v->a.length<=1048576->body (a,(i:Int))=some (.inl (bif p v then a++ [v]else a,((i+1:Nat):Int)))) (h2:∀a,body (a,(l.length:Int))=some (.inr a)):
  Ai body (o,0)=some (o++l.filter p):=by
 obtain⟨b,h3,h4⟩:=A4 (body:=body) (λ(q:List Vol) i=>(q,i)) l.length (λi q=>q=o++(l.take i).filter p) (λb=>b=o++l.filter p)
  (λq i hi hq=>by grind [Dg])
  (λq hq=>⟨q,h2 q,by grind⟩) (s:=o) (by simp)
 rw[h3,h4]
theorem yT {R':List Int} (h:∀r∈R,r∈R') (hu:Cj K R i=true):Cj K R' i=true:=by grind [Cj]
theorem XL {l:List Vol} (h:(l.map Vol.Id).Pairwise (·<·)) (v:Vol):(((l.filter λw=>decide (w.Id<v.Id))++ [v]++l.filter λw=>decide (w.Id>v.Id)).map Vol.Id).Pairwise (·<·):=by simp_all [AS];grind
theorem bO (l:List Vol) (id:Int):(l.filter λw=>decide (w.Id<id)).length+(l.filter λw=>decide (w.Id>id)).length<=l.length:=by
 induction l with
 |nil=>simp
 |cons v l ih=>grind
def KF (s:Store) (r:BV) (o:Option (Store×Bool)):Prop:=match Cd (A5 s) s.Next r with
 |none=>o=some (s,false)
 |some (l,nx)=>∃t,o=some (t,true)/\BU t/\A5 t=l/\t.Next=nx
theorem tZ {r:BV} (h:BU s) (hr:EC r=true) (hk:r.Kind=2):KF s r (FH s r):=by
 have hl:=h.len;have d:=JQ h.ar (by have:=h.few;omega);have b:=Fc s d (by omega);have hb:EC r=true:=hr;unfold EC at hr;rw[hk]at hr;simp at hr;unfold KF Cd;rw[hb,hk];simp only[Bool.true_eq_false,nZ,Co,show¬((2:Int)=1) by omega];unfold FH;have root:(Dw (A5 s) r.Arg=none/\0<r.Arg/\(cond (decide<|r.Arg>0) ((C6 s r.Arg).bind λv1=>cond (decide<|v1<0) ((Dy s).bind λv2=>some<|.inr (v2,false))<|(gi s.Vols v1).bind λx1=>some<|.inl x1.Root) (some<|.inl<|-1):Option (Int⊕(Store×Bool)))=some (.inr (s,false)))\/
   (¬(0<r.Arg/\Dw (A5 s) r.Arg=none)/\∃q,CH s.Arena.Knots q=true/\(q= -1\/q∈Bb s)/\DF s.Arena.Knots q=(if 0<r.Arg then(Dw (A5 s) r.Arg).getD IG else IG)/\(cond (decide<|r.Arg>0) ((C6 s r.Arg).bind λv1=>cond (decide<|v1<0) ((Dy s).bind λv2=>some<|.inr (v2,false))<|(gi s.Vols v1).bind λx1=>some<|.inl x1.Root) (some<|.inl<|-1):Option (Int⊕(Store×Bool)))=some (.inl q)):=by
  by_cases h0:0<r.Arg
  ·rw[Ac (by omega:r.Arg>0)]
   rcases DM s (by omega) r.Arg with⟨h1,h2⟩|⟨k,v,h1,h2,h3,_⟩
   ·grind [GG]
   right;rw[h1];have hm:=An h2;have hg:=IY h.asc hm;refine⟨λhh=>(by grind),v.Root,h.root _<|A0.2 ⟨v,hm,rfl⟩,.inr<|A0.2 ⟨v,hm,rfl⟩,?_,?_⟩
   ·grind
   grind [Ap]
  right;rw[Ah (by omega:¬r.Arg>0),AT h0];exact⟨λhh=>h0 hh.1,-1,rfl,.inl rfl,jA _,rfl⟩
 rcases root with⟨g1,g2,g3⟩|⟨g1,q,g2,g3,g4,g5⟩
 ·grind
 rw[g5];simp only[Aa,CX]
 rcases DM s (by omega) r.Vol with⟨h1,h2⟩|⟨k,v,h1,h2,h3,_⟩
 ·rw[h1];rw[Aa,cF,AY];have j:Dw (A5 s) r.Vol=none:=GG.1 h2;by_cases h3:s.Vols.length=3
  ·grind [Iq]
  have e3:((s.Vols.length:Int)==3)=false:=by simp;omega
  rw[e3,AT<|by grind [Iq]];rw[b];have k1:=RE (body:=λq:List Vol×Int=>Hb s r q.1 q.2) s.Vols (λv=>decide<|v.Id<r.Vol) [] (by simp;omega)
   (λi v c hv ho=>by
    have hi:=(Ae.1 hv).1;simp only[Hb,Da hi,Ap,hv,Aa]
    grind [ad1,AN])
   (λc=>by simp[CM,Hb])
  rw[Av]at k1;rw[k1];simp only[Aa];have l:=bO s.Vols r.Vol;rw[AN (by simp;omega)];simp only[Aa];have k2:=RE (body:=λq:List Vol×Int=>Ha s r q.1 q.2) s.Vols (λv=>decide<|v.Id>r.Vol) ((s.Vols.filter λv=>decide<|v.Id<r.Vol)++ [Vol.mk r.Vol q]) (by simp;omega)
   (λi v c hv ho=>by
    have hi:=(Ae.1 hv).1;simp only[Ha,Da hi,Ap,hv,Aa]
    grind [ad1,AN])
   (λc=>by simp[CM,Ha])
  rw[k2];have f:((s.Vols.filter λv=>decide<|v.Id<r.Vol)++ [Vol.mk r.Vol q]++s.Vols.filter λv=>decide<|v.Id>r.Vol).length<=3:=by grind
  have g:∀x∈Bb s,x∈(Bb<|Store.mk ((s.Vols.filter λv=>decide<|v.Id<r.Vol)++ [Vol.mk r.Vol q]++s.Vols.filter λv=>decide<|v.Id>r.Vol) s.Arena s.Next):=by
   intro x hx;obtain⟨v,hv,rfl⟩:=A0.1 hx;refine A0.2 ⟨v,?_,rfl⟩
   grind
  have a:∀x∈(Bb<|Store.mk ((s.Vols.filter λv=>decide<|v.Id<r.Vol)++ [Vol.mk r.Vol q]++s.Vols.filter λv=>decide<|v.Id>r.Vol) s.Arena s.Next),x= -1\/x∈Bb s:=by
   intro x hx;obtain⟨v,hv,rfl⟩:=A0.1 hx;simp only[Ay,AI,Bn]at hv
   rcases hv with(hv|rfl)|hv
   ·exact .inr<|A0.2 ⟨v,hv.1,rfl⟩
   ·exact g3
   exact .inr<|A0.2 ⟨v,hv.1,rfl⟩
  refine⟨_,rfl,⟨⟨f,h.ar,h.nx,?_,XL h.asc<|Vol.mk r.Vol q,?_,?_,h.few⟩,?_⟩,?_,rfl⟩
  ·intro v hv;simp only[Ay,AI,Bn]at hv
   rcases hv with(hv|rfl)|hv
   ·exact h.ids v hv.1
   ·grind
   exact h.ids v hv.1
  ·intro x hx
   rcases a x hx with e|e
   ·rw[e];rfl
   exact h.root x e
  ·intro x hx
   rcases a x hx with e|e
   ·intro y hy;rw[e]at hy;rw[jA]at hy;have:=Dp hy;have:=h.nx
    grind
   exact h.lt x e
  ·intro i hi;exact yT g<|h.used i hi
  rw[<-g4];unfold WL A5;simp only[GJ,C8,List.map_nil,List.filter_map];rfl
 rw[h1];have hg:=IY h.asc<|An h2
 grind
theorem NH {f:α->Int} {v:α} (h:(l.map f).Pairwise (·<·)) (hv:l[k]?=some v):l.take k++l.drop (k+1)=l.filter λw=>f w !=f v:=by
 rw[List.pairwise_map]at h;have hk:=(Ae.1 hv).1;have e:l=l.take k++v::l.drop (k+1):=by grind [A6,Bs]
 rw[e,AS]at h;obtain⟨h1,h2,h3⟩:=h;rw[BO]at h2
 conv=>rhs;rw[e]
 rw[BC,HQ<|by simp]
 grind [F8]
theorem zE (h:BU s) (id:Int):StoreR (Store.mk (s.Vols.filter λw=>w.Id !=id) s.Arena s.Next):=by
 have hl:=h.len;refine⟨?_,h.ar,h.nx,λv hv=>h.ids v (AI.1 hv).1,?_,?_,?_,h.few⟩
 ·grind
 ·have:=h.asc
  grind
 ·intro x hx;obtain⟨w,hw,rfl⟩:=A0.1 hx;exact h.root _<|A0.2 ⟨w,(AI.1 hw).1,rfl⟩
 intro x hx;obtain⟨w,hw,rfl⟩:=A0.1 hx;exact h.lt _<|A0.2 ⟨w,(AI.1 hw).1,rfl⟩
theorem ABS {t:Nat} (h:BU s) (h2:s.Vols[k]?=some v) (ht:t<16) (hn:0<=n) (e:n+1<=1000000000):StoreR (Store.mk (s.Vols.set k (Vol.mk v.Id ((s.Arena.Knots.length:Int)+1))) (Arena.mk (Je s.Arena.Knots v.Root t n)) (max s.Next (n+1))):=by
 have hl:=h.len;have hm:=An h2;have a:=h.root _<|A0.2 ⟨v,hm,rfl⟩;have f:=h.small
 have b:∀w∈s.Vols.set k (Vol.mk v.Id<|(s.Arena.Knots.length:Int)+1),w∈s.Vols\/w=Vol.mk v.Id ((s.Arena.Knots.length:Int)+1):=λw hw=>BP hw
 refine⟨by simpa using hl,ACp h.ar a ht hn,?_,?_,?_,?_,?_,?_⟩
 ·have:=h.nx
  grind
 ·intro w hw
  rcases b w hw with hw|rfl
  ·exact h.ids w hw
  exact h.ids v hm
 ·have:(s.Vols.set k<|Vol.mk v.Id<|(s.Arena.Knots.length:Int)+1).map Vol.Id=s.Vols.map Vol.Id:=by
   rw[List.map_set];apply Bo
   grind
  rw[this];exact h.asc
 ·intro x hx;obtain⟨w,hw,rfl⟩:=A0.1 hx
  rcases b w hw with hw|rfl
  ·exact vZ<|h.root _<|A0.2 ⟨w,hw,rfl⟩
  exact tA
 ·intro x hx y hy;obtain⟨w,hw,rfl⟩:=A0.1 hx;show y<max s.Next (n+1)
  rcases b w hw with hw|rfl
  ·have d:=h.root _<|A0.2 ⟨w,hw,rfl⟩;have c:y∈DF s.Arena.Knots w.Root:=by rw[<-qJ (X:=[AZ.mk true<|PX s.Arena.Knots v.Root t n,AZ.mk false<|T5 s.Arena.Knots v.Root t]) h.ar d];exact hy
   have:=h.lt _ (A0.2 ⟨w,hw,rfl⟩) y c;omega
  have c:y∈(DF s.Arena.Knots v.Root).set t n:=by rw[<-qS (s:=t) (n:=n) h.ar a (by omega)];exact hy
  rcases BP c with c|rfl
  ·have:=h.lt _ (A0.2 ⟨v,hm,rfl⟩) y c;omega
  omega
 grind [Je]
theorem Zb (h:BU s) (r:BV):KF s r (TS s r):=by
 have hl:=h.len;have d:=JQ h.ar (by have:=h.few;omega);have c:=Fc s d (by omega);unfold TS;rw[Qz h,Mf];simp only[Aa,Aj,Ad]
 cases hb:EC r with
 |false=>grind [KF,Cd]
 |true=>
  have hr:=hb;unfold EC at hr
  cases k1:(r.Kind==1)with
  |true=>
   have e1:r.Kind=1:=by simpa using k1
   rw[e1]at hr;simp at hr;unfold KF Cd;rw[hb,e1];have:(cond (r.Arg==0) (some 1) (some r.Arg):Option Int)=some (if r.Arg=0 then 1 else r.Arg):=by grind
   rw[this];refine⟨_,rfl,⟨⟨by simp,rfl,?_,by simp,by simp,by simp[Bb],by simp[Bb],by simp⟩,by simp⟩,rfl,rfl⟩
   grind
  |false=>
   have n1:r.Kind≠1:=by simpa using k1
   rw[k1]at hr
   cases k2:(r.Kind==2)with
   |true=>
    have:=tZ h hb (by simpa using k2);have e:((FH s r).bind λv4=>some (v4.1,v4.2))=FH s r:=by cases FH s r<;>rfl
    grind
   |false=>
    have n2:r.Kind≠2:=by simpa using k2
    unfold KF Cd;rw[hb];simp only[Bool.true_eq_false,nZ,AT n1,AT n2]
    rcases DM s (by omega) r.Vol with⟨h1,h2⟩|⟨k,v,h1,h2,h3,_⟩
    ·grind [GG]
    rw[h1];simp only[Aa];rw[cF];simp only[Aa];have hm:=An h2;have f:=(Ae.1 h2).1;have hg:=IY h.asc hm
    cases hc:(r.Chunk==1000000000)with
    |true=>grind
    |false=>
     have n:r.Chunk≠1000000000:=by simpa using hc
     rw[AT (by grind),c];simp only[Aa]
     cases k3:(r.Kind==3)with
     |true=>
      have e3:r.Kind=3:=by simpa using k3
      rw[Bv e3];rw[AY,ad1];have d1:dr s.Vols 0 (k:Int)=some (s.Vols.take k):=by grind [dr]
      have d2:dr s.Vols ((k+1:Nat):Int) (s.Vols.length:Int)=some (s.Vols.drop<|k+1):=by grind [AF,dr]
      rw[d1,d2];simp only[Aa];rw[Kz (by simp;omega)];simp only[Aa];rw[AN (by simp;omega),NH h.asc h2,h3];simp only[Aa];have hR:=zE h r.Vol;rw[K9 hR];refine⟨_,rfl,pX hR,?_,rfl⟩;rw[bI hR];exact o8 s (λid=>id !=r.Vol) _ rfl rfl
     |false=>
      have n3:r.Kind≠3:=by simpa using k3
      rw[AT n3];have ha:0<=r.Arg/\r.Arg<16/\0<=r.Chunk/\r.Chunk<=1000000000:=by grind
      obtain⟨t,ht⟩:∃t:Nat,r.Arg=(t:Int):=⟨_,(AA ha.1).symm⟩;rw[Ap,h2];simp only[Aa];have a:=h.root _<|A0.2 ⟨v,hm,rfl⟩;rw[ht,XU _ (by have:=h.few;omega) h.ar a (by omega) ha.2.2.1];simp only[Aa];rw[Dk];have hR:=ABS h h2 (show t<16 by omega) ha.2.2.1 (show r.Chunk+1<=1000000000 by omega);have m:A5 (Store.mk (s.Vols.set k<|Vol.mk v.Id<|(s.Arena.Knots.length:Int)+1) (Arena.mk<|Je s.Arena.Knots v.Root t r.Chunk)<|max s.Next<|r.Chunk+1)=WJ (A5 s) r.Vol t r.Chunk:=by
       unfold A5 WJ;simp only[GN];apply Bo;intro j;rw[Dh,Dh,Nb];by_cases e:k=j
       ·subst e;rw[Bv rfl,Bv f,h2];simp only[ID,Function.comp];rw[Bv h3,qS h.ar a<|by omega]
       rw[AT e]
       cases hj:s.Vols[j]? with
       |none=>rfl
       |some w=>
        have g:=An hj;have i:w.Id≠r.Vol:=by
         intro e2;have gi:(s.Vols.map Vol.Id)[k]?=some v.Id:=by grind
         have gj:(s.Vols.map Vol.Id)[j]?=some w.Id:=by grind
         rcases Tr k j with q|q|q
         ·have:=QG h.asc q gi gj;omega
         ·exact e q
         grind
        simp only[ID,Function.comp];rw[AT i];have:=qJ (X:=[AZ.mk true<|PX s.Arena.Knots v.Root t r.Chunk,AZ.mk false<|T5 s.Arena.Knots v.Root t]) h.ar<|h.root _<|A0.2 ⟨w,g,rfl⟩
        grind [Je]
      have l:∀b:Bool,b=decide (r.Chunk>=s.Next)->(cond b ((Hc<|Store.mk (s.Vols.set k<|Vol.mk v.Id<|(s.Arena.Knots.length:Int)+1) (Arena.mk<|Je s.Arena.Knots v.Root t r.Chunk)<|ad r.Chunk 1).bind λv11=>some (v11,true))<|(Hc<|Store.mk (s.Vols.set k<|Vol.mk v.Id<|(s.Arena.Knots.length:Int)+1) (Arena.mk<|Je s.Arena.Knots v.Root t r.Chunk) s.Next).bind λv12=>some (v12,true))=(Hc<|Store.mk (s.Vols.set k<|Vol.mk v.Id<|(s.Arena.Knots.length:Int)+1) (Arena.mk<|Je s.Arena.Knots v.Root t r.Chunk)<|max s.Next<|r.Chunk+1).bind λv=>some (v,true):=by grind [BW]
      rw[l _ rfl,K9 hR];refine⟨_,rfl,pX hR,?_,rfl⟩
      grind [bI]
theorem yB (s:ByteArray) (f a:Int):OG s f a=Ai (λn:Int=>Fl s a f n) 0:=by
 show(Ai (λn:Int=>Fl s a f n) 0).bind _=_;simp
theorem yA (s:ByteArray) (f a:Nat) (hf:f<a) (ha:a<=(L s).length) (hs:(L s).length<=64):∃k:Nat,Ai (λn:Int=>Fl s (a:Int) (f:Int) n) 0=some (k:Int)/\k<=31/\a+k<=(L s).length:=by
 obtain⟨b,h1,k,rfl,h2,h3⟩:=A4 (body:=λn:Int=>Fl s (a:Int) (f:Int) n) (λ(_:Unit) i=>i) 31 (λi _=>a+i<=(L s).length) (λb=>∃k:Nat,b=(k:Int)/\k<=31/\a+k<=(L s).length)
  (λ_ i hi hs=>by
   simp only[Fl];rw[cT,BW,BW,Ba];by_cases c:a+i<(L s).length
   ·rw[cT];have e1:((f:Int)+(i:Int))=((f+i:Nat):Int):=by omega
    have e2:((a:Int)+(i:Int))=((a+i:Nat):Int):=by omega
    rw[e1,e2,DT s (by omega),DT s c];simp only[Aa]
    cases((((L s)[f+i]).toNat:Int)==(((L s)[a+i]).toNat:Int))with
    |true=>
     rw[ad1];exact .inl ⟨(),rfl,by omega⟩
    |false=>grind
   grind)
  (λ_ hs=>by
   simp only[Fl];rw[cF]
   exact⟨_,rfl,31,rfl,by omega,hs⟩) (s:=()) (by omega)
 grind
theorem nU (s:ByteArray) (a:Nat) (ha:a<=(L s).length) (hs:(L s).length<=64):∃z b:Nat,RH s (a:Int)=some ((z:Int),(b:Int))/\Ai (λq:Int×Int×Int=>Ec s (a:Int) q.1 q.2.1 q.2.2) (0,0,sb (a:Int) 1)=some ((z:Int),(b:Int))/\z<=31/\a+z<=(L s).length/\(z=0\/4<=z/\1<=b/\b<=a):=by
 have c:(λq:Int×Int×Int=>Ec s (a:Int) q.1 q.2.1 q.2.2)=λq:Int×Int×Int=>Gh s (a:Int) q.1 q.2.1 q.2.2:=by grind [yB,Ec,Gh]
 rw[c,BD];obtain⟨r,h1,z,b,rfl,h2,h3,h4⟩:=A4 (body:=λq:Int×Int×Int=>Gh s (a:Int) q.1 q.2.1 q.2.2) (λ(q:Nat×Nat) i=>((q.1:Int),(q.2:Int),(a:Int)-1-i)) a (λi q=>q.1<=31/\a+q.1<=(L s).length/\(q.1=0\/4<=q.1/\1<=q.2/\q.2<=a)) (λr=>∃z b:Nat,r=((z:Int),(b:Int))/\z<=31/\a+z<=(L s).length/\(z=0\/4<=z/\1<=b/\b<=a))
  (λq i hi hq=>by
   obtain⟨k,m1,m2,m3⟩:=yA s (a-1-i) a (by omega) ha hs;have e1:((a:Int)-1-(i:Int))=((a-1-i:Nat):Int):=by omega
   simp only[Gh,e1];rw[Ac (by omega:(((a-1-i:Nat)):Int)>=0),Al,m1,Aa,BD,BD];refine .inl ?_;have e2:(((a-1-i:Nat):Int)-1)=(a:Int)-1-((i+1:Nat):Int):=by omega
   have e3:((a:Int)-((a-1-i:Nat):Int))=((1+i:Nat):Int):=by omega
   rw[e2,e3];by_cases h4:4<=k
   ·rw[cT];by_cases h5:q.1<k
    ·rw[Ac (by omega:(k:Int)>(q.1:Int))];exact⟨(k,1+i),rfl,m2,m3,.inr ⟨h4,by omega,by omega⟩⟩
    grind
   grind)
  (λq hq=>by
   simp only[Gh]
   grind) (s:=(0,0)) ⟨by omega,by omega,.inl rfl⟩
 grind [BD,RH]
def T7 (t:AH):Prop:=(t.Back=0/\t.Size=0/\1<=(L t.Text).length/\(L t.Text).length<=31)\/(1<=t.Back/\t.Back<=64/\4<=t.Size/\t.Size<=31/\L t.Text=[])
theorem Eh (l:List α) (x:α):gi (l++ [x]) (l.length:Int)=some x:=by
 rw[Ap];simp
theorem II (l:List α) (x y:α):si (l++ [x]) (l.length:Int) y=l++ [y]:=by
 rw[Dk];simp
theorem lM (s:ByteArray) (hs:(L s).length<=64):∃l,M1 s=some l/\Po s=some l/\l.length<=64/\∀t∈l,T7 t:=by
 unfold M1 Po;obtain⟨l,h1,h2,h3,h4⟩:=RA (body:=λq:List AH×Int=>Cg s q.1 q.2) (body':=λq:List AH×Int=>KK s q.1 q.2) (λq=>(L s).length-q.2.toNat)
  (λq=>∃a:Nat,q.2=(a:Int)/\a<=(L s).length/\q.1.length<=a/\∀t∈q.1,T7 t) (λl=>l.length<=64/\∀t∈l,T7 t)
  (by
   rintro⟨f,at_⟩ ⟨a,ha,h1,h2,h3⟩;simp only at ha h2 h3;subst ha;simp only[Cg,KK];rw[Ba];by_cases i:a<(L s).length
   ·rw[Ac (by omega:(a:Int)<((L s).length:Int)),Al,Al];obtain⟨z,b,m1,m2,m3,m4,m5⟩:=nU s a h1 hs;rw[m1,m2];simp only[Aa]
    have c:∀x:AH,ap 32 f [x]=some (f++ [x]):=λx=>AN<|by grind
    refine .inl ?_;by_cases hz:z=0
    ·subst hz;have esub:sub s (a:Int) (ad (a:Int) 1)=some (s.extract a<|a+1):=by rw[ad1];exact EU s (by omega) (by omega)
     have elen:(L<|s.extract a<|a+1).length=1:=by grind [Jc]
     rw[esub,ad1,BD (by rw[AY];omega) (by rw[AY];omega),AY]
     have ecat:∀x:ByteArray,(L x).length<=31->GI x (s.extract a<|a+1)=some (x++s.extract a (a+1)):=λx hx=>E8 _ _ (by rw[elen];omega)
     have e0:GI (bs []) (s.extract a<|a+1)=some (s.extract a<|a+1):=by
      rw[ecat _ (by rw[CB];simp)];rfl
     have enew:T7 (AH.mk 0 0<|s.extract a<|a+1):= .inl ⟨rfl,rfl,by grind,by grind⟩
     have d:∀(o:List AH) (x:AH),(∀t∈o,T7 t)->T7 x->∀t∈o++ [x],T7 t:=λo x ho hx t ht=>by grind
     have fin:∀o:List AH,o.length<=a+1->(∀t∈o,T7 t)->(∃a':Nat,((a+1:Nat):Int)=(a':Int)/\a'<=(L s).length/\o.length<=a'/\∀t∈o,T7 t)/\(L s).length-(((a+1:Nat)):Int).toNat<(L s).length-((a:Int)).toNat:=λo g h=>⟨⟨a+1,rfl,by omega,g,h⟩,by omega⟩
     rcases Ga f with rfl|⟨o,x,rfl⟩
     ·simp only[LC,Int.ofNat_zero,Int.zero_sub];rw[Ac (by omega:(-1:Int)<0),Ah (by omega:¬(-1:Int)>=0)];simp only[Al,Ad,Aa,c];rw[show ad (-1) 1=(([]:List AH).length:Int)from rfl];simp only[Eh,Aa,e0,II];exact⟨_,rfl,rfl,fin _ (by simp)<|d _ _ (by simp) enew⟩
     rw[Jh]at h2 h3 c⊢;simp only[A3,Cl]at h2⊢;have ek:(((o.length+1:Nat):Int)-1)=(o.length:Int):=by omega
     rw[ek,Ah (by omega:¬(o.length:Int)<0),Ac (by omega:(o.length:Int)>=0)];simp only[Al,Ad,Eh,Aa];have hx:=h3 x (by simp);have e:=d (o++ [x]) _ h3 enew;have elast:ad (o.length:Int) 1=((o++ [x]).length:Int):=by rw[ad1];simp
     rcases hx with⟨x1,x2,x3,x4⟩|⟨x1,x2,x3,x4,x5⟩
     ·rw[x1];simp only[show((0:Int)==0)=true from rfl,Al,show decide ((0:Int)>0)=false from rfl,Ad];rw[Ba];by_cases h31:(L x.Text).length<31
      ·rw[Ac (by omega:((L x.Text).length:Int)<31),Ah (by omega:¬((L x.Text).length:Int)>=31)];simp only[Al,Ad,Aa,Eh,ecat _ x4,II];simp only[x1];refine⟨_,rfl,rfl,fin _ (by simp;omega)<|d _ _ (λt ht=>h3 t<|by simp[ht])<|.inl ⟨rfl,x2,?_,?_⟩⟩
       ·grind [EG]
       grind [EG]
      rw[Ah (by omega:¬((L x.Text).length:Int)<31),Ac (by omega:((L x.Text).length:Int)>=31)];simp only[Al,Ad,Aa,c,elast,Eh,e0,II];exact⟨_,rfl,rfl,fin _ (by simp;omega) e⟩
     have hb:(x.Back==0)=false:=by simp;omega
     rw[hb,Ac (by omega:x.Back>0)];simp only[Al,Ad,Aa,c,elast,Eh,e0,II];exact⟨_,rfl,rfl,fin _ (by simp;omega) e⟩
    rw[Ac (by omega:(z:Int)>0),Al,Al,c];rw[BW];refine⟨_,rfl,rfl,⟨a+z,by simp,by omega,by simp;omega,?_⟩,by simp only;omega⟩;intro t ht
    rcases Ay.1 ht with ht|ht
    ·exact h3 t ht
    rw[Bn]at ht;subst ht;refine .inr ⟨?_,?_,?_,?_,by rfl⟩<;>simp only<;>omega
   grind) ((L s).length) ([],0) (by simp) ⟨0,rfl,by omega,by simp,by simp⟩
 grind
theorem XH (l m:List Int):L (DU (l++m))=L (DU l)++L (DU m):=by grind [K2]
theorem Qs (l:List Int):(L (DU l)).length=l.length:=by rw[K2,Bm]
theorem vB (b:ByteArray):L (DU (vQ b))=L b:=by
 rw[K2,vQ,GN];have:((λn:Int=>UInt8.ofNat n.toNat)∘λc:UInt8=>(c.toNat:Int))=id:=by
  funext c;simp
 rw[this,Ts];rfl
theorem zV (l:List Int) (b:ByteArray):aps l b=ap 1 l (vQ b):=by simp[vQ,aps,ap]
theorem eK (b:ByteArray):(vQ b).length=(L b).length:=by simp[vQ,L]
theorem WF (s:ByteArray):∃z ok,Dz s=some (z,ok)/\Kw s=some (z,ok)/\(ok=false->z=bs [])/\(ok=true->(L s).length<=64/\((L z)[0]?=some 122\/(L z)[0]?=some 114)):=by
 unfold Dz Kw;rw[Ba];by_cases hs:(L s).length<=64
 ·rw[Ah (by omega:¬((L s).length:Int)>64),Ad,Ad];obtain⟨l,t1,t2,t3,t4⟩:=lM s hs;rw[t1,t2];simp only[Aa];obtain⟨z,v,h1,h2,rfl,h3,h4⟩:=cR (body:=λq:ByteArray×Int=>Fw l q.1 q.2) (body':=λq:List Int×Int=>Ii l q.1 q.2) (λv i=>(DU v,i)) (λv i=>(v,i)) l.length (λi v=>v.length<=1+33*i/\(L<|DU v)[0]?=some 122) (λz v=>z=DU v/\v.length<=4000/\(L<|DU v)[0]?=some 122)
   (λv i hi hv=>by
    have hg:l[i]?=some l[i]:=Ab hi;have ht:=t4 _<|Aq hi;refine .inl ?_;simp only[Fw,Ii,GR,Ac hi,Al,Ap,hg,Aa]
    have b:∀(a:ByteArray) (m:List Int),(L a).length<=4000->m.length<=2->GI a (DU m)=some (a++DU m):=λa m h1 h2=>E8 _ _ (by rw[Qs];omega)
    have h0:∀m:List Int,(L<|DU<|v++m)[0]?=some 122:=λm=>by grind [XH]
    rcases ht with⟨x1,x2,x3,x4⟩|⟨x1,x2,x3,x4,x5⟩
    ·rw[x1];simp only[show((0:Int)==0)=true from rfl,Al,show decide ((0:Int)>0)=false from rfl,Ad];rw[b _ _ (by rw[Qs];omega) (by simp),AN<|by grind];simp only[Aa];rw[E8 _ _ (by grind [EG,Qs]),zV,AN (by rw[eK];grind)]
     grind [ad1,Jb,EG,XH,vB,eK]
    have hb:(l[i].Back==0)=false:=by simp;omega
    rw[hb,Ac (by omega:l[i].Back>0)];simp only[Al,Ad];rw[b _ _ (by rw[Qs];omega) (by simp),AN<|by grind];simp only[Aa];rw[ad1<|by omega];refine⟨v++ [IntKind.u8.wrap<|ad 128 l[i].Size,IntKind.u8.wrap l[i].Back],?_,rfl,?_,h0 _⟩
    ·grind [Jb,EG,XH]
    grind)
   (λv hv=>⟨_,_,by grind [GR,Fw],by grind [GR,Ii],rfl,by omega,hv.2⟩) (s:=[122]) ⟨by simp,by rw[K2];rfl⟩
  have e0:(DU [122],(0:Int))=(bs [122],(0:Int)):=by rfl
  simp only[e0]at h1;rw[h1,h2];simp only[Aa];rw[Ba,Qs,AY,BW (by omega)<|by omega];by_cases hc:((L s).length:Int)+1<=(v.length:Int)
  ·rw[Ac hc,Al,E8 _ _ (by rw[CB];grind)];refine⟨_,true,rfl,rfl,by simp,λ_=>⟨hs,.inr ?_⟩⟩;rfl
  simp_all [Ah]
 simp_all;grind
def Qo (t:AH):Prop:=(t.Back=0/\t.Size=0/\1<=(L t.Text).length/\(L t.Text).length<=31)\/(t.Back≠0/\1<=t.Size/\t.Size<=31/\L t.Text=[])
theorem hJ:Oq=G7:=by grind [Za,PZ,zV,Oq,G7,Pw,DX,ln,Pv,D3]
theorem PQ (l:List AH) (hl:l.length<=1048576):∃p ok,G7 l=some (p,ok)/\(ok=true->∀t∈l,Qo t):=by
 unfold G7;obtain⟨r,h1,h2⟩:=A4 (body:=λq:List Int×Int=>DX l q.1 q.2) (λ(o:List Int) i=>(o,i)) l.length (λi o=>o.length<=64/\∀(j:Nat) t,j<i->l[j]?=some t->Qo t) (λr=>(∃o,r= .inl o/\∀t∈l,Qo t)\/r= .inr (bs [],false))
  (λo i hi ho=>by
   have hg:l[i]?=some l[i]:=Ab hi;simp only[DX,Da hi,Ap,hg,Aa,PZ];have good:∀(o':List Int),Qo l[i]->(∃s',(some (.inl o':(List Int)⊕(List Int×Int)⊕(List Int)⊕(ByteArray×Bool))).bind (Sum.elim (λj1=>cond (decide<|(ln j1)>64) (some<|.inr<|.inr (bs [],false))<|some<|.inl (j1,ad (i:Int) 1)) some)=some (.inl (s',((i+1:Nat):Int)))/\s'.length<=64/\∀(j:Nat) t,j<i+1->l[j]?=some t->Qo t)\/∃b,(some (.inl o':(List Int)⊕(List Int×Int)⊕(List Int)⊕(ByteArray×Bool))).bind (Sum.elim (λj1=>cond (decide<|(ln j1)>64) (some<|.inr<|.inr (bs [],false))<|some<|.inl (j1,ad (i:Int) 1)) some)=some (.inr b)/\((∃o,b= .inl o/\∀t∈l,Qo t)\/b= .inr (bs [],false)):=by grind [AY,ad1]
   by_cases hb:l[i].Back=0
   ·rw[hb];rw[Ba];by_cases hx:(1<=(L l[i].Text).length/\(L l[i].Text).length<=31)/\l[i].Size=0
    ·obtain⟨⟨c,d⟩,a⟩:=hx;rw[Ac (by omega:(1:Int)<=((L l[i].Text).length:Int)),Ac (by omega:((L l[i].Text).length:Int)<=31),a];rw[AN (by rw[eK];omega)];exact good _<|.inl ⟨hb,a,c,d⟩
    grind
   have hb':(l[i].Back==0)=false:=by simpa using hb
   rw[hb'];rw[AY,PU,CB];by_cases hx:(1<=l[i].Back/\l[i].Back<=(o.length:Int))/\(1<=l[i].Size/\l[i].Size<=31)/\L l[i].Text=[]
   ·obtain⟨⟨y1,y2⟩,⟨y3,y4⟩,y5⟩:=hx;rw[Ac y1,Ac y2,Ac y3,Ac y4,Ac y5];obtain⟨o',q1,q2⟩:=A4 (body:=λq:List Int×Int=>D3 l[i] q.1 q.2) (λ(o:List Int) k=>(o,k)) l[i].Size.toNat (λk u=>u.length=o.length+k) (λ_=>True)
     (λu k hk hu=>by grind [BD,AY,Kd,AN,ad1,D3])
     (λu hu=>⟨u,by grind [D3],trivial⟩) (s:=o) (by omega)
    rw[q1];exact good _<|.inr ⟨hb,y3,y4,y5⟩
   grind)
  (λo ho=>⟨_,by simp[CM,DX],.inl ⟨o,rfl,λt ht=>by
   obtain⟨j,hj,rfl⟩:=Aw ht
   simp_all⟩⟩) (s:=[]) ⟨by simp,λj t hj=>by omega⟩
 grind
theorem WT (c:UInt8):IntKind.i64.wrap (c.toNat:Int)=(c.toNat:Int):=MV (by omega) (by have:=c.toNat_lt;omega)
theorem bF (rem:ByteArray) (a:List AH) (h:0<(L rem).length) (ho:a.length<=1048576) (hr:(L rem).length<=1048576):
  CO rem a=some (if 128<=(L rem)[0].toNat/\2<=(L rem).length then .inl (rem.extract 2 (L rem).length,a++ [AH.mk (((L rem)[1]?.getD 0).toNat:Int) (((L rem)[0].toNat:Int)-128) (bs [])])
   else if(L rem)[0].toNat<128/\(L rem)[0].toNat<(L rem).length then .inl (rem.extract (1+(L rem)[0].toNat) (L rem).length,a++ [AH.mk 0 0 (rem.extract 1 (1+(L rem)[0].toNat))])
   else .inr (.inr ([],false))):=by
 have d:=(L rem)[0].toNat_lt;have b:seq rem (bs [])=false:=by grind [PU,CB]
 have c:∀x:AH,ap 32 a [x]=some (a++ [x]):=λx=>AN<|by grind
 unfold CO;rw[b];have s0:sx rem 0=some ((L rem)[0].toNat:Int):=DT rem (i:=0) h;simp only[BQ,Al,s0,Aa,WT,Ba,c];have c0:ad 1 ((L rem)[0].toNat:Int)=((1+(L rem)[0].toNat:Nat):Int):=by rw[BW];omega
 rw[c0];by_cases h1:128<=(L rem)[0].toNat
 ·rw[Ac (by omega:((L rem)[0].toNat:Int)>=128),Ah (by omega:¬((L rem)[0].toNat:Int)<128)];simp only[Al,Ad,Aa];by_cases h2:2<=(L rem).length
  ·grind [DT,EU,BD,WT,L,sub]
  grind
 rw[Ah (by omega:¬((L rem)[0].toNat:Int)>=128),Ac (by omega:((L rem)[0].toNat:Int)<128),AT λe=>h1 e.1];simp only[Al,Ad,Aa];simp_all [L,sub];grind
theorem iL (rem:ByteArray) (a:List AH) (h:(L rem).length=0):CO rem a=some (.inr (.inl a)):=by grind [PU,CB,CO]
theorem bE (t:ByteArray) (b:List AH) (a:Nat) (h:a<(L t).length) (ho:b.length<=1048576) (hr:(L t).length<=1048576):
  BG t b (a:Int)=some (if 128<(L t)[a].toNat then(if a+2<=(L t).length then .inl (b++ [AH.mk (((L t)[a+1]?.getD 0).toNat:Int) (((L t)[a].toNat:Int)-128) (bs [])],((a+2:Nat):Int))else .inr (.inr (b,false)))
   else if a+1+(L t)[a].toNat<=(L t).length then .inl (b++ [AH.mk 0 0 (t.extract (a+1) (a+1+(L t)[a].toNat))],((a+1+(L t)[a].toNat:Nat):Int))
   else .inr (.inr (b,false))):=by
 have d:=(L t)[a].toNat_lt
 have c:∀x:AH,ap 32 b [x]=some (b++ [x]):=λx=>AN<|by grind
 have c2:ad (a:Int) 2=((a+2:Nat):Int):=by rw[BW];omega
 have c3:ad ((a+1:Nat):Int) ((L t)[a].toNat:Int)=((a+1+(L t)[a].toNat:Nat):Int):=by rw[BW];omega
 unfold BG;rw[Ba,cT,DT t h];simp only[Aa,WT,c];rw[c2,ad1,c3];by_cases h1:128<(L t)[a].toNat
 ·rw[cT,Bv h1];by_cases h2:a+2<=(L t).length
  ·rw[cF,Bv h2,DT t (by omega:a+1<(L t).length),BD]
   grind [WT]
  grind
 rw[cF,AT h1];by_cases h2:a+1+(L t)[a].toNat<=(L t).length
 ·rw[Ah (by omega:¬((a+1+(L t)[a].toNat:Nat):Int)>((L t).length:Int)),Ad,Bv h2,EU t (by omega) h2];rfl
 grind
theorem X9 (t:ByteArray) (b:List AH) (a:Nat) (h:(L t).length<=a):BG t b (a:Int)=some (.inr (.inl b)):=by grind [Ba,BG]
theorem uX (rem:ByteArray) (a:List AH) (h:a.length+(L rem).length<=1048576):∃r,Ai (λq:ByteArray×List AH=>CO q.1 q.2) (rem,a)=some r/\((∃l,r= .inl l/\l.length<=1048576/\∀t∈a,t∈l)\/r= .inr ([],false)):=by
 obtain⟨r,h1,_,h2⟩:=RA (body:=λq:ByteArray×List AH=>CO q.1 q.2) (body':=λq:ByteArray×List AH=>CO q.1 q.2) (λq=>(L q.1).length) (λq=>q.2.length+(L q.1).length<=1048576/\∀t∈a,t∈q.2) (λr=>(∃l,r= .inl l/\l.length<=1048576/\∀t∈a,t∈l)\/r= .inr ([],false))
  (by grind [iL,bF,Jc]) _ (rem,a) (Ax _) ⟨h,λt ht=>ht⟩
 grind
theorem uW (t:ByteArray) (b:List AH) (a:Nat) (ha:a<=(L t).length) (h:b.length<=a) (hr:(L t).length<=1048576):∃r,Ai (λq:List AH×Int=>BG t q.1 q.2) (b,(a:Int))=some r/\((∃l,r= .inl l/\l.length<=1048576/\∀x∈b,x∈l)\/∃l,r= .inr (l,false)/\l.length<=1048576):=by
 obtain⟨r,h1,_,h2⟩:=RA (body:=λq:List AH×Int=>BG t q.1 q.2) (body':=λq:List AH×Int=>BG t q.1 q.2) (λq=>(L t).length-q.2.toNat) (λq=>∃a:Nat,q.2=(a:Int)/\a<=(L t).length/\q.1.length<=a/\∀x∈b,x∈q.1) (λr=>(∃l,r= .inl l/\l.length<=1048576/\∀x∈b,x∈l)\/∃l,r= .inr (l,false)/\l.length<=1048576)
  (by
   rintro⟨o,at_⟩ ⟨a,ha,hl,hb,ho⟩;simp only at ha hb ho;subst ha;simp only
   rcases E9 a (L t).length with h0|h0
   ·rw[bE t o a h0 (by omega) hr];split
    ·split
     ·simp_all;grind
     grind
    split
    ·simp_all;grind
    grind
   grind [X9]) _ (b,(a:Int)) (Ax _) ⟨a,rfl,ha,h,λt ht=>ht⟩
 grind
theorem uV (t:ByteArray) (hr:(L t).length<=1048576):∀(n a:Nat) (rem:ByteArray) (b:List AH),(L t).length-a<=n->a<=(L t).length->L rem=(L t).drop a->b.length<=a->
  ∃ri rs,Ai (λq:ByteArray×List AH=>CO q.1 q.2) (rem,b)=some ri/\Ai (λq:List AH×Int=>BG t q.1 q.2) (b,(a:Int))=some rs/\
   ((∃l,ri= .inl l/\rs= .inl l/\l.length<=1048576)\/((ri= .inr ([],false)\/∃l,ri= .inl l/\l.length<=1048576/\∃x∈l,¬Qo x)/\((∃l,rs= .inr (l,false)/\l.length<=1048576)\/∃l,rs= .inl l/\l.length<=1048576/\∃x∈l,¬Qo x))):=by
 intro n
 induction n with
 |zero=>grind [Au,iL,X9]
 |succ n ih=>
  intro a rem b h1 h2 h3 h4
  rcases E9 a (L t).length with h0|h0
  ·have j:(L rem).length=(L t).length-a:=by rw[h3];simp
   have e:0<(L rem).length:=by omega
   have g:(L rem)[0]=(L t)[a]:=by grind
   have h:(L rem)[1]?.getD 0=(L t)[a+1]?.getD 0:=by grind
   have c:=bF rem b e (by omega) (by omega);have f:=bE t b a h0 (by omega) hr
   have d:∀k,L (rem.extract k (L rem).length)=(L t).drop (a+k):=λk=>by grind [Jc,DG,AF]
   rw[g,h]at c
   rcases Tr (L t)[a].toNat 128 with hc|hc|hc
   ·rw[AT<|by omega]at c;by_cases hk:a+1+(L t)[a].toNat<=(L t).length
    ·obtain⟨ri,rs,q1,q2,q3⟩:=ih (a+1+(L t)[a].toNat) (rem.extract (1+(L t)[a].toNat) (L rem).length) (b++ [AH.mk 0 0<|t.extract (a+1)<|a+1+(L t)[a].toNat]) (by omega) hk (by grind) (by grind);have etx:rem.extract 1 (1+(L t)[a].toNat)=t.extract (a+1) (a+1+(L t)[a].toNat):=by grind [Jb,Jc,DG]
     refine⟨ri,rs,?_,?_,q3⟩
     ·rw[Au]
      grind
     grind [Au]
    grind [Au]
   ·
    have hI:∃ri,Ai (λq:ByteArray×List AH=>CO q.1 q.2) (rem,b)=some ri/\(ri= .inr ([],false)\/∃l,ri= .inl l/\l.length<=1048576/\∃x∈l,¬Qo x):=by
     by_cases hk:2<=(L rem).length
     ·obtain⟨r,q1,q2⟩:=uX (rem.extract 2 (L rem).length) (b++ [AH.mk (((L t)[a+1]?.getD 0).toNat:Int) (((L t)[a].toNat:Int)-128)<|bs []]) (by grind);refine⟨r,by rw[Au];grind,?_⟩
      rcases q2 with⟨l,rfl,q3,q4⟩|rfl
      ·refine .inr ⟨l,rfl,q3,_,q4 _<|B6 _<|Bn.2 rfl,?_⟩;intro hk
       rcases hk with⟨_,_,k3,_⟩|⟨_,k2,_⟩
       ·grind [CB]
       grind
      exact .inl rfl
     grind [Au]
    have hS:∃rs,Ai (λq:List AH×Int=>BG t q.1 q.2) (b,(a:Int))=some rs/\((∃l,rs= .inr (l,false)/\l.length<=1048576)\/∃l,rs= .inl l/\l.length<=1048576/\∃x∈l,¬Qo x):=by
     by_cases hk:a+1+(L t)[a].toNat<=(L t).length
     ·obtain⟨r,q1,q2⟩:=uW t (b++ [AH.mk 0 0<|t.extract (a+1)<|a+1+(L t)[a].toNat]) (a+1+(L t)[a].toNat) hk (by grind) hr;refine⟨r,by rw[Au];grind,?_⟩
      rcases q2 with⟨l,rfl,q3,q4⟩|⟨l,rfl,q3⟩
      ·refine .inr ⟨l,rfl,q3,_,q4 _<|B6 _<|Bn.2 rfl,?_⟩;intro i
       rcases i with⟨_,_,_,k4⟩|⟨k1,_⟩
       ·simp only[Jc,Eu,Oz]at k4;omega
       exact k1 rfl
      grind
     grind [Au]
    obtain⟨ri,q1,q2⟩:=hI;obtain⟨rs,q3,q4⟩:=hS;exact⟨ri,rs,q1,q3,.inr ⟨q2,q4⟩⟩
   by_cases hk:a+2<=(L t).length
   ·obtain⟨ri,rs,q1,q2,q3⟩:=ih (a+2) (rem.extract 2 (L rem).length) (b++ [AH.mk (((L t)[a+1]?.getD 0).toNat:Int) (((L t)[a].toNat:Int)-128)<|bs []]) (by omega) hk (d 2) (by grind);exact⟨ri,rs,by rw[Au];grind,by rw[Au];grind,q3⟩
   grind [Au]
  grind [Au,X9]
theorem wN (t:ByteArray) (hr:(L t).length<=1048576):∃li oi ls os pi ki ps ks,Pe t=some (li,oi)/\Nj t=some (ls,os)/\Oq li=some (pi,ki)/\G7 ls=some (ps,ks)/\((oi=os/\pi=ps/\ki=ks)\/((oi=false\/ki=false)/\(os=false\/ks=false))):=by
 obtain⟨ri,rs,q1,q2,q3⟩:=uV t hr ((L t).length) 0 t [] (by omega) (by omega) (by simp) (by simp);have e0:(([]:List AH),((0:Nat):Int))=([],0):=rfl;simp only[e0]at q2;unfold Pe Nj;rw[q1,q2,hJ];have none:∀l:List AH,l.length<=1048576->(∃x∈l,¬Qo x)->∃p,G7 l=some (p,false):=by
  rintro l hl ⟨x,hx,hn⟩;obtain⟨p,ok,h1,h2⟩:=PQ l hl
  cases ok with
  |false=>exact⟨p,h1⟩
  |true=>grind
 rcases q3 with⟨l,rfl,rfl,hl⟩|⟨hi,hs⟩
 ·obtain⟨p,ok,h1,_⟩:=PQ l hl;exact⟨l,true,l,true,p,ok,p,ok,rfl,rfl,h1,h1,.inl ⟨rfl,rfl,rfl⟩⟩
 have hI:∃li oi pi ki,(some ri).bind (Sum.elim (λv1=>some (v1,true)) some)=some (li,oi)/\G7 li=some (pi,ki)/\(oi=false\/ki=false):=by
  rcases hi with rfl|⟨l,rfl,hl,hb⟩
  ·obtain⟨p,ok,h1,_⟩:=PQ [] (by simp)
   grind
  obtain⟨p,h1⟩:=none l hl hb;simp_all
 have hS:∃li oi pi ki,(some rs).bind (Sum.elim (λv1=>some (v1,true)) some)=some (li,oi)/\G7 li=some (pi,ki)/\(oi=false\/ki=false):=by grind [PQ]
 obtain⟨li,oi,pi,ki,a1,a2,a3⟩:=hI;obtain⟨ls,os,ps,ks,b1,b2,b3⟩:=hS;exact⟨li,oi,ls,os,pi,ki,ps,ks,a1,b1,a2,b2,.inr ⟨a3,b3⟩⟩
theorem S4 (t:ByteArray) (hr:(L t).length<=1048576):∃u ok,Gb t=some (u,ok)/\LV t=some (u,ok)/\(ok=false->u=bs [])/\(ok=true->(L u).length<=64):=by
 unfold Gb LV;rw[Ba,PU,CB];by_cases h0:L t=[]
 ·simp_all
 have a:0<(L t).length:=by grind
 have e1:(((L t).length:Int)==0)=false:=by simp;exact h0
 rw[e1,Ah h0,Ad,Ad];have s1:sub t 1 ((L t).length:Int)=some (t.extract 1 (L t).length):=EU t (i:=1) (by omega)<|Ax _;have s0:sx t 0=some ((L t)[0].toNat:Int):=DT t (i:=0) a;rw[s1,s0];simp only[Aa];generalize hx:t.extract 1 (L t).length=x;have b:(L x).length<=1048576:=by grind [Jc]
 obtain⟨li,oi,ls,os,pi,ki,ps,ks,a1,a2,a3,a4,a5⟩:=wN x b;rw[a1,a2];simp only[Aa];rw[a3,a4];simp only[Aa];have back:∀j:ByteArray,∃u ok,((Dz j).bind λv3=>(cond (!v3.2) (some true) (some<|!(seq v3.1 t)):Option Bool).bind λj2=>cond j2 (some (bs [],false)) (some (j,true)):Option (ByteArray×Bool))=some (u,ok)/\
   ((Kw j).bind λv3=>(cond (!v3.2) (some true) (some<|!(seq v3.1 t)):Option Bool).bind λj2=>cond j2 (some (bs [],false)) (some (j,true)):Option (ByteArray×Bool))=some (u,ok)/\(ok=false->u=bs [])/\(ok=true->(L u).length<=64/\((L t)[0].toNat=122\/(L t)[0].toNat=114)):=by
  intro j;obtain⟨z,ok,p1,p2,p3,p4⟩:=WF j;rw[p1,p2];simp only[Aa]
  cases ok with
  |false=>simp
  |true=>
   simp only[Aj,Ad,Aa]
   cases hz:seq z t with
   |false=>simp
   |true=>
    have c:z=t:=by grind [Jo]
    obtain⟨p5,p6⟩:=p4 rfl;refine⟨_,true,rfl,rfl,by simp,λ_=>⟨p5,?_⟩⟩;rw[c,Ab a]at p6
    rcases p6 with p6|p6
    ·simp_all
    simp_all
 by_cases h122:(L t)[0].toNat=122
 ·have c1:((((L t)[0].toNat:Nat):Int)==122)=true:=by simp[h122]
  have c2:((((L t)[0].toNat:Nat):Int) !=114)=true:=by simp[h122]
  rw[c1,c2];simp only[Al]
  rcases a5 with⟨rfl,rfl,rfl⟩|⟨hi,hs⟩
  ·cases oi with
   |false=>simp
   |true=>
    cases ki with
    |false=>simp
    |true=>simp_all
  grind
 have c1:((((L t)[0].toNat:Nat):Int)==122)=false:=by simp;omega
 rw[c1];simp only[Ad,Aa,CX];by_cases h114:(L t)[0].toNat=114
 ·simp_all
 have c2:((((L t)[0].toNat:Nat):Int) !=114)=true:=by simp;omega
 rw[c2];simp only[Al];have nope:∀(j u:ByteArray) (ok:Bool),(ok=true->(L u).length<=64/\((L t)[0].toNat=122\/(L t)[0].toNat=114))->ok=false:=by grind
 obtain⟨u,ok,b1,b2,b3,b4⟩:=back x;have k1:=nope x u ok b4;subst k1;have k2:=b3 rfl;subst k2;refine⟨bs [],false,b1,?_,by simp,by simp⟩
 cases oi with
 |false=>rfl
 |true=>
  cases ki with
  |false=>rfl
  |true=>
   simp only[Aj,Ad,Aa,CX];obtain⟨u,ok,d1,d2,d3,d4⟩:=back pi
   grind
def VR (x:AZ):Nat:=x.Kids.length
def Xv (x:Arena):Nat:=zl VR x.Knots
def Jk (x:Store):Nat:=x.Vols.length+Xv x.Arena
def LD (x:Device):Nat:=N7 x.Flash+Jk x.Store
def Qj (x:Leaf):Nat:=bif x.Is==0 then 1 else 0
theorem zS (l:List Leaf):(l.map Qj).sum<=l.length:=by
 induction l with
 |nil=>simp
 |cons x l ih=>grind [Qj]
theorem VK (b:Block) (h:b.Leaves.length<=1048576):Hs b=some ((b.Leaves.map Qj).sum:Int):=by
 unfold Hs;obtain⟨v,h1,rfl⟩:=A4 (body:=λs:Int×Int=>FZ b s.1 s.2) (λ(s:Int) i=>(s,i)) b.Leaves.length (λk s=>s=(((b.Leaves.take k).map Qj).sum:Nat)) (λv=>v=((b.Leaves.map Qj).sum:Nat))
  (λs k hk hs=>by
   have hx:b.Leaves[k]?=some b.Leaves[k]:=Ab hk;have e:=Qr Qj b.Leaves k hk;have e2:=Nd Qj b.Leaves<|k+1;have e3:=zS b.Leaves;refine .inl ?_;simp only[FZ,Da hk,Ap,hx,Aa]
   grind [BW,Qj])
  (λs hs=>⟨s,by simp[CM,FZ],by grind⟩) (s:=0) (by simp)
 rw[h1];rfl
theorem VN (f:Flash) (hf:IC f) (hn:nl f.Blocks<=1048576):∃v:Int,Jy f=some v/\MK f=some v/\0<=v/\v<=nl f.Blocks:=by
 unfold Jy MK;obtain⟨v,h1,h2,h3⟩:=ME (body:=λs:Int×Int=>Hi f s.1 s.2) (body':=λs:Int×Int=>Lk f s.1 s.2) (λ(s:Int) i=>(s,i)) (λ(s:Int) i=>(s,i)) f.Blocks.length (λi n=>0<=n/\n<=(((f.Blocks.take i).map λb=>b.Leaves.length).sum:Nat)) (λv=>0<=v/\v<=nl f.Blocks)
  (λn i hi hs=>by
   have hb:f.Blocks[i]?=some f.Blocks[i]:=Ab hi;have hm:f.Blocks[i]∈f.Blocks:=Aq _;have d:=Qr (λb:Block=>b.Leaves.length) f.Blocks i hi;have g:=Nd (λb:Block=>b.Leaves.length) f.Blocks<|i+1;unfold nl at hn;have h:=hf.1;have c:=hf.2 _ hm;have j:=zS f.Blocks[i].Leaves;refine .inl ?_;simp only[Hi,Lk,Da hi,Ap,hb,Aa,VK _ c];obtain⟨u,q1,rfl⟩:=A4 (body:=λs:Int×Int=>Hh f (i:Int) s.1 s.2) (λ(s:Int) i=>(s,i)) f.Blocks[i].Leaves.length (λk s=>s=n+(bif f.Blocks[i].Bad then 0 else((f.Blocks[i].Leaves.take k).map Qj).sum:Nat)) (λv=>v=n+(bif f.Blocks[i].Bad then 0 else(f.Blocks[i].Leaves.map Qj).sum:Nat))
    (λs k hk hs=>by
     have hx:f.Blocks[i].Leaves[k]?=some f.Blocks[i].Leaves[k]:=Ab hk;have e:=Qr Qj f.Blocks[i].Leaves k hk;have e2:=Nd Qj f.Blocks[i].Leaves<|k+1;refine .inl ?_;simp only[Hh,Ap,hb,Aa,Da hk,hx]
     cases a:f.Blocks[i].Bad with
     |true=>
      rw[a]at hs;simp only[Aj,Ad,Al]at hs⊢;rw[ad1]
      grind
     |false=>
      rw[a]at hs;simp only[BQ,Ad,Al]at hs⊢;have e4:Qj f.Blocks[i].Leaves[k]=bif f.Blocks[i].Leaves[k].Is==0 then 1 else 0:=rfl
      cases hb:f.Blocks[i].Leaves[k].Is==0 with
      |true=>
       rw[hb]at e4;simp only[Al]at e4⊢;rw[ad1,BW]
       grind
      |false=>
       rw[hb]at e4;simp only[Ad]at e4⊢;rw[ad1]
       grind)
    (λs hs=>⟨s,by simp_all [Ap,CM,Hh],by grind⟩) (s:=n) (by grind)
   rw[q1];simp only[Aa]
   cases f.Blocks[i].Bad with
   |true=>
    simp only[Al,Aj,Ad];rw[ad1]
    grind
   |false=>
    simp only[Al,BQ,Ad];rw[ad1,BW]
    grind)
  (λn hs=>by
   rw[Et]at hs
   exact⟨n,by simp[CM,Hi],by simp[CM,Lk],hs⟩) (s:=0) (by simp)
 grind
def PL (a:Arena):Prop:=a.Knots.length<=1048576
theorem Wk (x a b:Int):By x a b=some (decide (a<=x/\x<=b)):=by
 rw[PZ];simp
theorem UX (a:Arena):HN a=GA a:=by
 unfold HN GA
 grind [Za,PB,Ea,gi,PA,Fi]
def QO (a:Arena) (i:Nat) (k:AZ) (n:Int):Prop:=if k.Leaf=true then 0<=n else n= -1\/(0<=n/\n<i/\∃k',gi a.Knots n=some k'/\k'.Leaf=true)
theorem pQ (a:Arena) (ha:PL a):∃v,GA a=some v/\(v=true->∀(i:Nat) k,a.Knots[i]?=some k->k.Kids.length=4/\∀n∈k.Kids,QO a i k n):=by
 unfold PL at ha;unfold GA;obtain⟨r,h1,h2⟩:=A4 (body:=λs:Int=>Ea a s) (λ(_:Unit) i=>i) a.Knots.length (λi _=>∀(j:Nat) k,j<i->a.Knots[j]?=some k->k.Kids.length=4/\∀n∈k.Kids,QO a j k n) (λr=>r= .inr false\/r= .inl ()/\∀(i:Nat) k,a.Knots[i]?=some k->k.Kids.length=4/\∀n∈k.Kids,QO a i k n)
  (λ_ i hi hs=>by
   obtain⟨k,hk⟩:∃k,a.Knots[i]?=some k:=⟨_,Ab hi⟩;simp only[Ea,Da hi,Ap,hk,Aa];by_cases h4:k.Kids.length=4
   ·have e1:(ln k.Kids !=4)=false:=by simp[ln,h4]
    simp only[e1,Ad];obtain⟨r,q1,q2⟩:=A4 (body:=λs:Int=>Fi a (i:Int) k s) (λ(_:Unit) j=>j) 4 (λj _=>∀(m:Nat) n,m<j->k.Kids[m]?=some n->QO a i k n) (λr=>r= .inr (.inr<|.inr false)\/r= .inl ()/\∀n∈k.Kids,QO a i k n)
     (λ_ j hj b=>by
      obtain⟨n,hn⟩:∃n,k.Kids[j]?=some n:=⟨_,Ab<|by omega⟩;simp only[Fi];rw[cT,Ap,hn];simp only[Aa]
      have good:QO a i k n->(∃s':Unit,(cond false (some<|.inr<|.inr<|.inr<|.inr false) (some<|.inl<|ad (j:Int) 1):Option (Int⊕Unit⊕Int⊕Unit⊕Bool))=some (.inl ((j+1:Nat):Int))/\∀(m:Nat) n,m<j+1->k.Kids[m]?=some n->QO a i k n):=λc=>by
       refine⟨(),by rw[Ad,ad1],λm n' hm d=>?_⟩
       grind
      cases hl:k.Leaf with
      |true=>
       simp only[Al,Aj,Ad];by_cases h0:n<0
       ·grind
       rw[Ah h0,Ad];exact .inl<|good<|by grind [QO]
      |false=>
       by_cases h1:n= -1
       ·have:(n != -1)=false:=by simp[h1]
        rw[this];exact .inl<|good (by unfold QO;grind)
       have:(n != -1)=true:=by simp[h1]
       rw[this];rw[BD,Wk];simp only[Aa];by_cases h2:0<=n/\n<=(i:Int)-1
       ·rw[Ac h2];rw[Kd h2.1<|by omega];simp only[Aa]
        cases e:(a.Knots[n.toNat]'(by omega)).Leaf with
        |true=>
         refine .inl<|good ?_
         grind [Kd,QO]
        |false=>grind
       grind)
     (λ_ b=>⟨_,by rfl,.inr ⟨rfl,λn hn=>by
      obtain⟨m,hm,rfl⟩:=Aw hn
      simp_all;grind⟩⟩) (s:=()) (λm n hm=>by omega)
    have q1':Ai (λs:Int=>Fi a (i:Int) k s) 0=some r:=q1;rw[q1']
    rcases q2 with rfl|⟨rfl,q2⟩
    ·grind
    rw[ad1];refine .inl ⟨(),rfl,λj k' hj f=>?_⟩
    grind
   grind [ln])
  (λ_ hs=>⟨_,by simp[CM,Ea],.inr ⟨rfl,λi k hk=>hs i k (Ae.1 hk).1 hk⟩⟩) (s:=()) (λj k hj=>by omega)
 have h1':Ai (λs:Int=>Ea a s) 0=some r:=h1;rw[h1']
 rcases h2 with rfl|⟨rfl,h2⟩
 ·simp
 exact⟨_,rfl,λ_=>h2⟩
theorem mB (a:Arena) (ha:PL a) (root:Int) (s:Nat) (hs:s<16):∃v,R3 a root (s:Int)=some v/\U5 a root (s:Int)=some v:=by
 have f:a.Knots.length<=1048576:=ha;obtain⟨ok,h1,h2⟩:=pQ a ha;unfold R3 U5;rw[UX,h1,Za];simp only[Aa,Wk];rw[Ac (by omega:(0:Int)<=(s:Int)/\(s:Int)<=15)];simp only[Aj,Ad,Aa];have d:∃b,FN a root=some b/\HC a root=some (b||root== -1)/\(b=true->0<=root/\∃k,gi a.Knots root=some k/\k.Leaf=false):=by
  unfold FN HC;rw[Za,BD (by rw[AY];omega) (by rw[AY];omega),AY,Wk]
  grind [Kd]
 obtain⟨b,r1,r2,r3⟩:=d;rw[r1,r2];simp only[Aa]
 cases ok with
 |false=>simp
 |true=>
  simp only[Aj,Ad]
  cases b with
  |false=>simp_all [NR];grind
  |true=>
   obtain⟨hr,k,hk,hl⟩:=r3 rfl;simp only[Bool.true_or,Aj,Ad,Aa,NR,SZ,hk];rw[cF];obtain⟨g1,g2⟩:=BK hk;obtain⟨k4,kk⟩:=h2 rfl root.toNat k g2;have eq4:qu (s:Int) 4=((s/4:Nat):Int):=by grind [MV,qu]
   have em:Int.tmod (s:Int) 4=((s %4:Nat):Int):=rfl;rw[eq4,em,Kd (by omega)<|by omega];simp only[Aa,B8];have e:k.Kids[s/4]'(by omega)∈k.Kids:=Aq _;have c:=kk _ e;unfold QO at c;rw[AT (by rw[hl];simp)]at c
   rcases c with c|⟨c1,c2,k',c3,c4⟩
   ·simp_all
   rw[cF,c3];simp only[Aa];obtain⟨g3,g4⟩:=BK c3;obtain⟨k4',_⟩:=h2 rfl _ k' g4;rw[Kd (by omega)<|by omega];simp
theorem Ru (a:Arena) (ha:PL a) (root:Int):∃l,J3 a root=some l/\N4 a root=some l/\l.length=16:=by
 unfold J3 N4;obtain⟨l,h1,h2,h3⟩:=ME (body:=λs:List Int×Int=>M8 a root s.1 s.2) (body':=λs:List Int×Int=>PC a root s.1 s.2) (λ(o:List Int) i=>(o,i)) (λ(o:List Int) i=>(o,i)) 16 (λi o=>o.length=i) (λo=>o.length=16)
  (λo i hi ho=>by
   obtain⟨v,g1,g2⟩:=mB a ha root i hi
   grind [AN,ad1,M8,PC])
  (λo ho=>⟨o,by rfl,by rfl,ho⟩) (s:=[]) rfl
 grind
theorem Tw (s:Store) (id:Int) (hs:s.Vols.length<=1048576):∃v:Int,C6 s id=some v/\I1 s id=some v/\(v<0\/0<=v/\v<s.Vols.length):=by
 have e:I1 s id=C6 s id:=rfl;rw[e];unfold C6;obtain⟨r,h1,h2⟩:=A4 (body:=λq:Int=>He s id q) (λ(_:Unit) i=>i) s.Vols.length (λ_ _=>True) (λr=>r= .inl ()\/∃v:Int,r= .inr v/\0<=v/\v<s.Vols.length)
  (λ_ i hi _=>by
   have hg:s.Vols[i]?=some s.Vols[i]:=Ab hi;simp only[He,Da hi,Ap,hg,Aa]
   cases s.Vols[i].Id==id with
   |true=>grind
   |false=>
    rw[ad1]
    simp)
  (λ_ _=>⟨_,by simp[CM,He],.inl rfl⟩) (s:=()) trivial
 have h1':Ai (λq:Int=>He s id q) 0=some r:=h1;rw[h1']
 rcases h2 with rfl|⟨v,rfl,h2⟩
 ·simp
 grind
theorem pP (s:Store) (hv:s.Vols.length<=1048576) (ha:PL s.Arena) (id:Int) (k:Nat) (hk:k<16):∃v,Mi s id (k:Int)=some v/\RP s id (k:Int)=some v:=by
 unfold Mi RP;obtain⟨v,h1,h2,h3⟩:=Tw s id hv;rw[h1,h2];simp only[Aa]
 rcases h3 with h3|⟨h3,h4⟩
 ·grind
 simp_all [Ah,Kd,mB]
def Rg:Ak:=Ak.mk 0 0<|Page.mk 0 0 0 0 0<|bs []
def HT (c:Int) (y:Ak):Bool:=y.Page.Kind==1&&y.Page.Tx==c
def JP (r:List Ak) (o:Option Nat):Ak:=match o with
 |some j=>r[j]?.getD Rg
 |none=>Rg
def PY (c:Int) (r:List Ak) (n:Nat) (o:Option Nat):Prop:=match o with
 |none=>∀(k:Nat) y,k<n->r[k]?=some y->HT c y=false
 |some j=>j<n/\(∃y,r[j]?=some y/\HT c y=true)/\∀(k:Nat) y,j<k->k<n->r[k]?=some y->HT c y=false
theorem Vy {c:Int} {r:List Ak} {o o':Option Nat} (h:PY c r r.length o) (h':PY c r r.length o'):o=o':=by
 cases o with
 |none=>
  cases o' with
  |none=>rfl
  |some j=>
   obtain⟨h1,⟨y,h2,h3⟩,_⟩:=h';rw[h j y h1 h2]at h3;cases h3
 |some j=>
  obtain⟨h1,⟨y,h2,h3⟩,h4⟩:=h
  cases o' with
  |none=>
   rw[h' j y h1 h2]at h3;cases h3
  |some i=>
   obtain⟨k1,⟨z,k2,k3⟩,k4⟩:=h'
   grind
theorem cK (r:List Ak) (hr:r.length<=1048576) (c:Int):∃o,Nh r c=some (JP r o,o.isSome)/\PY c r r.length o:=by
 unfold Nh;rw[BD (by rw[AY];omega) (by rw[AY];omega),AY];obtain⟨b,h1,h2⟩:=A4 (body:=λs:Int=>Jp r c s) (λ(_:Unit) i=>(r.length:Int)-1-i) r.length (λi _=>∀(k:Nat) y,r.length-i<=k->k<r.length->r[k]?=some y->HT c y=false) (λb=>(b= .inl ()/\PY c r r.length none)\/∃j,b= .inr (JP r<|some j,true)/\PY c r r.length (some j))
  (λ_ i hi hs=>by
   have e1:((r.length:Int)-1-(i:Int))=((r.length-1-i:Nat):Int):=by omega
   have a:r.length-1-i<r.length:=by omega
   have hg:r[r.length-1-i]?=some r[r.length-1-i]:=Ab a;simp only[Jp,e1];rw[cT];simp only[Ap,hg,Aa]
   have next:HT c r[r.length-1-i]=false->∃s':Unit,(some (.inl<|sb ((r.length-1-i:Nat):Int) 1):Option (Int⊕Unit⊕(Ak×Bool)))=some (.inl<|(r.length:Int)-1-((i+1:Nat):Int))/\∀(k:Nat) y,r.length-(i+1)<=k->k<r.length->r[k]?=some y->HT c y=false:=λd=>by
    refine⟨(),by grind [BD],λk y h1 h2 h3=>?_⟩
    grind
   cases hk:r[r.length-1-i].Page.Kind==1 with
   |false=>
    exact .inl<|next (by grind [HT])
   |true=>
    simp only[Al,Aa]
    cases ht:r[r.length-1-i].Page.Tx==c with
    |false=>
     exact .inl<|next (by unfold HT;grind)
    |true=>
     refine .inr ⟨_,rfl,.inr ⟨r.length-1-i,?_,a,⟨_,hg,by grind [HT]⟩,λk y h1 h2 h3=>hs k y (by omega) h2 h3⟩⟩
     grind [JP])
  (λ_ hs=>⟨_,by grind [Jp],.inl ⟨rfl,λk y h1 h2=>hs k y (by omega) h1 h2⟩⟩) (s:=()) (λk y h1 h2=>by omega)
 have e0:((r.length:Int)-1-0)=(r.length:Int)-1:=by omega
 rw[e0]at h1;rw[h1]
 rcases h2 with⟨rfl,h2⟩|⟨j,rfl,h2⟩
 ·exact⟨none,rfl,h2⟩
 grind
theorem AAt {r:List Ak} {x:Ak} (h:srt Be r) (a:j<i) (hx:r[j]?=some x) (hy:r[i]?=some y):x.Page.Seq<=y.Page.Seq:=by
 unfold srt at h;obtain⟨h1,h2⟩:=Ae.1 hx;obtain⟨h3,h4⟩:=Ae.1 hy;rw[<-h2,<-h4];exact Cy.1 h j i h1 h3 a
theorem VC (f:Flash) (r:List Ak) (d:ER f=some r) (hr:r.length<=1048576) (g:srt Be r) (c:Int):∃o,QU f c=some (JP r o,o.isSome)/\PY c r r.length o:=by
 unfold QU;rw[d];simp only[Aa];obtain⟨b,h1,o,rfl,h2⟩:=A4 (body:=λs:Bool×Int×Int×Int×Int×Int×Int×Int×Int×ByteArray=>IT c r s.1 s.2.1 s.2.2.1 s.2.2.2.1 s.2.2.2.2.1 s.2.2.2.2.2.1 s.2.2.2.2.2.2.1 s.2.2.2.2.2.2.2.1 s.2.2.2.2.2.2.2.2.1 s.2.2.2.2.2.2.2.2.2)
  (λ(o:Option Nat) i=>(o.isSome,i,(JP r o).Block,(JP r o).Leaf,(JP r o).Page.Kind,(JP r o).Page.Seq,(JP r o).Page.Tx,(JP r o).Page.Part,(JP r o).Page.Count,(JP r o).Page.Text)) r.length (λi o=>PY c r i o)
  (λb=>∃o,b=(o.isSome,(JP r o).Block,(JP r o).Leaf,(JP r o).Page.Kind,(JP r o).Page.Seq,(JP r o).Page.Tx,(JP r o).Page.Part,(JP r o).Page.Count,(JP r o).Page.Text)/\PY c r r.length o)
  (λo i hi ho=>by
   have hg:r[i]?=some r[i]:=Ab hi;refine .inl ?_;simp only[IT,Da hi,Ap,hg,Aa]
   have keep:HT c r[i]=false->PY c r (i+1) o:=λm=>by
    cases o with
    |none=>
     intro k y h1 h2;by_cases e:k=i
     ·grind
     exact ho k y (by omega) h2
    |some j=>
     obtain⟨h1,h2,h3⟩:=ho;refine⟨by omega,h2,λk y h4 h5 h6=>?_⟩
     grind
   cases hk:r[i].Page.Kind==1 with
   |false=>
    rw[ad1];exact⟨o,rfl,keep (by unfold HT;rw[hk];rfl)⟩
   |true=>
    cases ht:r[i].Page.Tx==c with
    |false=>
     rw[ad1];exact⟨o,rfl,keep (by unfold HT;grind)⟩
    |true=>
     have a:HT c r[i]=true:=by unfold HT;rw[hk,ht];rfl
     have l:PY c r (i+1) (some i):=⟨by omega,⟨_,hg,a⟩,λk y h1 h2=>by omega⟩;have n:JP r (some i)=r[i]:=by simp only[JP,hg,Er]
     cases o with
     |none=>
      rw[ad1]
      grind
     |some j=>
      obtain⟨h1,⟨y,h2,h3⟩,_⟩:=ho;have h:JP r (some j)=y:=by simp only[JP,h2,Er]
      have p:=AAt g h1 h2 hg;simp only[Option.isSome_some,Aj,Ad,Aa,h];rw[Ac (by omega:r[i].Page.Seq>=y.Page.Seq)];rw[ad1]
      grind)
  (λo ho=>⟨_,by simp only[IT,CM],o,rfl,ho⟩) (s:=none) (λk y h1=>by omega)
 have h1':Ai (λs:Bool×Int×Int×Int×Int×Int×Int×Int×Int×ByteArray=>IT c r s.1 s.2.1 s.2.2.1 s.2.2.2.1 s.2.2.2.2.1 s.2.2.2.2.2.1 s.2.2.2.2.2.2.1 s.2.2.2.2.2.2.2.1 s.2.2.2.2.2.2.2.2.1 s.2.2.2.2.2.2.2.2.2) (false,0,0,0,0,0,0,0,0,bs [])=_:=h1;rw[h1'];exact⟨o,rfl,h2⟩
theorem jL (hT:∀b∈f.Blocks,∀x∈b.Leaves,(L x.Text).length<=1048576) (h:QP f y):(L y.Page.Text).length<=90:=by
 obtain⟨b,x,h1,h2,_,h3⟩:=h;obtain⟨_,g1⟩:=BK h1;obtain⟨_,g2⟩:=BK h2;obtain⟨p,ok,k1,_,_,k2⟩:=H6 x.Text (by grind);rw[h3]at k1
 injection k1 with k1
 injection k1 with k1 k3
 have hp:=k2 k3.symm;obtain⟨v,q1,_,q2⟩:=Sh p
 grind [Ba]
structure aN (f:Flash) (r:List Ak):Prop where
 s:EL f=some r
 i:ER f=some r
 len:r.length<=1048576
 page:∀y∈r,QP f y
 text:∀y∈r,(L y.Page.Text).length<=90
 srt:srt Be r
theorem g7 (f:Flash) (hz:N7 f<=1048576):∃r,aN f r:=by
 obtain⟨hf,hT⟩:=ABp f hz;have hn:nl f.Blocks<=1048576:=Ir (ADp f) hz;obtain⟨r,h1,h2,h3,h4,h5⟩:=Zu f hf hT hn;exact⟨r,h1,h2,by omega,h4,λy hy=>jL hT<|h4 y hy,h5⟩
theorem UW {r:List Ak} (h:aN f r) (c:Int):∃u ok,Md r c=some (u,ok)/\Lo f c=some (u,ok):=by
 obtain⟨o,h1,h2⟩:=cK r h.len c;obtain⟨o',h3,h4⟩:=VC f r h.i h.len h.srt c;obtain rfl:=Vy h2 h4;unfold Md Lo;rw[h1,h3]
 cases o with
 |none=>simp
 |some j=>
  obtain⟨_,⟨y,k1,_⟩,_⟩:=h2;have a:JP r (some j)=y:=by grind [JP]
  obtain⟨u,ok,p1,p2,_⟩:=S4 y.Page.Text (by have:=h.text y<|An k1;omega)
  grind
end Go.TI
