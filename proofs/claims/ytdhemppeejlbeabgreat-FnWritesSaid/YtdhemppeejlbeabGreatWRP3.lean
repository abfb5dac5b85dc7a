/- What is planned for a drawn device is written. No condition; no program is in sight. -/
import Derived.Test.YtdhemppeejlbeabGreatWRP2
set_option linter.unusedVariables false
set_option linter.unusedSimpArgs false
namespace Go.TI
open Go
theorem Ve:∀n:Nat,∃ds x,Cy n=ds++ [x]/\(∀d∈ds,128<=d.toNat)/\x.toNat<128/\Ff (Cy n)=n
 |n=>by
  by_cases h:n<=127
  ·rw [Jt h];have:(UInt8.ofNat n).toNat=n:=by rw [GR];omega
   exact⟨[],_,rfl,by simp,by omega,by simp only [Ff];omega⟩
  obtain⟨ds,x,h1,h2,h3,h4⟩:=Ve (n/128);rw [Rb h];have e:(UInt8.ofNat (n %128+128)).toNat=n %128+128:=by rw [GR];omega
  refine⟨UInt8.ofNat (n %128+128)::ds,x,by rw [h1];rfl,?_,h3,?_⟩
  ·intro d hd
   rcases BA.1 hd with rfl|hd
   ·omega
   exact h2 d hd
  simp only [Ff];rw [h4,e];omega
termination_by n=>n
decreasing_by omega
theorem It {n:Nat} (h:n<=1000000000):1<=(Cy n).length/\(Cy n).length<=5:=by
 have a:∀(k n:Nat),n<128^(k+1)->(Cy n).length<=k+1:=by
  intro k
  induction k with
  |zero=>intro n hn;rw [Jt (by omega)];simp
  |succ k ih=>
   intro n hn;by_cases h:n<=127
   ·rw [Jt h];simp
   rw [Rb h,A0];have:=ih (n/128) (by rw [Wd]at hn;omega);omega
 refine⟨?_,a 4 n (by omega)⟩;obtain⟨ds,x,h1,_⟩:=Ve n;rw [h1];simp
theorem iS (t:ByteArray) (ht:(L t).length<=20000) (a n:Nat) (hn:n<=1000000000) (rest:List UInt8) (h:(L t).drop a=Cy n++rest):JA t (a:Int)=some ((n:Int),((a+(Cy n).length:Nat):Int),true):=by
 obtain⟨ds,x,hD,u,hx,hv⟩:=Ve n;obtain⟨h1,h2⟩:=It hn;have h0:(L t).length-a=(Cy n).length+rest.length:=by
  have:=BR List.length h;rw [B7,Ag]at this;exact this
 have h3:(Cy n).length=ds.length+1:=by rw [hD];simp
 have f:∀k,k<=(Cy n).length->((L t).drop a).take k=(Cy n).take k:=λk hk=>by rw [h,F6 hk]
 have v:∀(m k:Nat),k+m=ds.length->Au (λs:Int×Int×Int=>DP t (a:Int) s.1 s.2.1 s.2.2) (((Ff ((Cy n).take k):Nat):Int),((128^k:Nat):Int),((a+k:Nat):Int))=some (.inr ((n:Int),((a+(Cy n).length:Nat):Int),true)):=by
  intro m
  induction m with
  |zero=>
   intro k hk;have g:k=ds.length:=by omega
   suffices d:DP t (a:Int) ((Ff ((Cy n).take k):Nat):Int) ((128^k:Nat):Int) ((a+k:Nat):Int)=some (.inr (.inr ((n:Int),((a+(Cy n).length:Nat):Int),true))) by
    rw [A7];simp only [d]
   simp only [DP];have e:a+k<(L t).length:=by omega
   rw [CA (b:=5) (by omega) (by omega),BH,Ad (by omega:((a+k:Nat):Int)<(a:Int)+5),Ad (by omega:((a+k:Nat):Int)<((L t).length:Int))];simp only [Ae,Aa,EU t e];have hb:(L t)[a+k]=x:=by
    have:((L t).drop a)[k]?=some x:=by
     rw [h,hD,AM (by simp;omega),g,AU (A4 _),Rk];rfl
    rw [BP,Ac e]at this;injection this
   rw [hb];have c:=Np ds [x];rw [<-hD,hv]at c;have w:(Cy n).take k=ds:=by rw [hD,g,PT rfl]
   rw [w];simp only [Ff,Nat.mul_zero,Gy]at c;have hp:=cK k (by omega);have hw:IntKind.i64.wrap (x.toNat:Int)=x.toNat:=NK (by omega) (by omega);have l:x.toNat %128*128^k<=127*268435456:=Zl (by omega) hp;have emul:ml ((x.toNat %128:Nat):Int) ((128^k:Nat):Int)=((x.toNat %128*128^k:Nat):Int):=by
    have ec:((x.toNat %128:Nat):Int)*((128^k:Nat):Int)=((x.toNat %128*128^k:Nat):Int):=by norm_cast
    rw [On (by rw [ec];omega) (by rw [ec];omega),ec]
   have i:=Wi ds;rw [<-g]at i c;have enew:ad ((Ff ds:Nat):Int) ((x.toNat %128*128^k:Nat):Int)=(n:Int):=by
    rw [CA (by omega) (by omega),c,mJ (128^k)];omega
   rw [hw,bC,emul,enew,Ad (by omega:(x.toNat:Int)<128),Af (by omega:¬(n:Int)>1000000000),ad1 (by omega)];simp only [Ae,Ab];obtain⟨s,y,z⟩:=IB n (by omega);rw [EV t (by omega) (by omega),y];simp only [Aa];have o:seq s (t.extract a (a+k+1))=true:=by
    rw [Qm,z,HM,show a+k+1-a=k+1 by omega,f _ (by omega),AO (by omega)];simp
   rw [o];simp only [Ai,Ab];rw [show a+k+1=a+(Cy n).length by omega]
  |succ m ih=>
   intro k hk;suffices d:DP t (a:Int) ((Ff ((Cy n).take k):Nat):Int) ((128^k:Nat):Int) ((a+k:Nat):Int)=some (.inl (((Ff ((Cy n).take (k+1)):Nat):Int),((128^(k+1):Nat):Int),((a+(k+1):Nat):Int))) by
    rw [A7];simp only [d];exact ih (k+1) (by omega)
   simp only [DP];have e:a+k<(L t).length:=by omega
   rw [CA (b:=5) (by omega) (by omega),BH,Ad (by omega:((a+k:Nat):Int)<(a:Int)+5),Ad (by omega:((a+k:Nat):Int)<((L t).length:Int))];simp only [Ae,Aa,EU t e];have j:k<ds.length:=by omega
   have p:(Cy n)[k]?=some ds[k]:=by rw [hD,AM j,Ac j]
   have hb:(L t)[a+k]=ds[k]:=by
    have:((L t).drop a)[k]?=some ds[k]:=by
     rw [h,AM (by omega),p]
    rw [BP,Ac e]at this;injection this
   rw [hb];have h128:=u _ (AE j);have hx:=eM ds[k];have q:(Cy n).take (k+1)=(Cy n).take k++ [ds[k]]:=by rw [DY,p];rfl
   have r:((Cy n).take k).length=k:=by rw [AH];omega
   have c:=Np ((Cy n).take k) [ds[k]];rw [<-q,r]at c;have i:=Wi ((Cy n).take k);rw [r]at i;have hp:=cK k (by omega);generalize ds[k]=x at hx q c h128;simp only [Ff,Nat.mul_zero,Gy]at c;have hw:IntKind.i64.wrap (x.toNat:Int)=x.toNat:=NK (by omega) (by omega);have l:x.toNat %128*128^k<=127*268435456:=Zl (by omega) hp;have emul:ml ((x.toNat %128:Nat):Int) ((128^k:Nat):Int)=((x.toNat %128*128^k:Nat):Int):=by
    have ec:((x.toNat %128:Nat):Int)*((128^k:Nat):Int)=((x.toNat %128*128^k:Nat):Int):=by norm_cast
    rw [On (by rw [ec];omega) (by rw [ec];omega),ec]
   have enew:ad (((Ff ((Cy n).take k):Nat)):Int) ((x.toNat %128*128^k:Nat):Int)=((Ff ((Cy n).take (k+1)):Nat):Int):=by
    rw [CA (by omega) (by omega),c,mJ (128^k)];omega
   have e1:ml ((128^k:Nat):Int) 128=((128^(k+1):Nat):Int):=by
    rw [On (by omega) (by omega),Wd];norm_cast
   rw [hw,bC,emul,enew,Af (by omega:¬(x.toNat:Int)<128),e1,ad1 (by omega)];rfl
 unfold JA;rw [BH,E4,Ad (by omega)];simp only [Aa,Ai,Ab];have k0:=v ds.length 0 (by omega);simp only [IN,Ff,Nat.pow_zero,Gy]at k0;rw [show((0:Nat):Int)=0 from rfl,show((1:Nat):Int)=1 from rfl]at k0;rw [k0];rfl
theorem KK (t:ByteArray) (ht:(L t).length<=20000) (a n:Nat) (hn:n<=1000000000) (rest:List UInt8) (h:(L t).drop a=Cy n++rest):Du (E0.mk t (a:Int) false)=some ((n:Int),E0.mk t ((a+(Cy n).length:Nat):Int) false):=by
 rw [JF t _ ht (iS t ht a n hn rest h)];rfl
def kC (r:De):List UInt8:=UInt8.ofNat (16*r.Kind+r.Vol).toNat::(Cy r.Arg.toNat++Cy r.Chunk.toNat)
theorem cI {r:De} (h:Gx r=true):1<=r.Kind/\r.Kind<=5/\0<=r.Vol/\r.Vol<=9/\0<=r.Arg/\r.Arg<=1000000000/\0<=r.Chunk/\r.Chunk<=1000000000:=by
 unfold Gx at h
 cases k1:(r.Kind==1)with
 |true=>
  have e1:r.Kind=1:=by simpa using k1
  rw [k1]at h;simp at h;omega
 |false=>
  rw [k1]at h;cases k2:(r.Kind==2)<;>cases k3:(r.Kind==3)<;>cases k4:(r.Kind==4)<;>rw [k2,k3,k4]at h<;>simp at h k2 k3 k4<;>omega
theorem bV {r:De} (h:Gx r=true):∃t,Mt r=some (t,true)/\L t=kC r:=by
 obtain⟨h1,h2,h3,h4,h5,h6,h7,h8⟩:=cI h;obtain⟨sa,a1,a2⟩:=IB r.Arg.toNat (by omega);obtain⟨sc,c1,c2⟩:=IB r.Chunk.toNat (by omega);rw [Bm h5]at a1;rw [Bm h7]at c1;unfold Mt J4;rw [Mu,h];simp only [Aa,Ai,Ab];rw [On (by omega) (by omega),CA (by omega) (by omega),a1];simp only [Aa];have l1:=(It (show r.Arg.toNat<=1000000000 by omega)).2;have l2:=(It (show r.Chunk.toNat<=1000000000 by omega)).2;have hb:∀x,(L (EG [x])).length=1:=Qg;rw [FE _ _ (by rw [hb,a2];omega),c1];simp only [Aa];rw [FE _ _ (by rw [DC,Ag,hb,a2,c2];omega)];simp only [Aa];refine⟨_,rfl,?_⟩;rw [DC,DC,Jw,a2,c2];unfold kC;have hw:IntKind.u8.wrap (16*r.Kind+r.Vol)=16*r.Kind+r.Vol:=by
  rw [IntKind.wrap_u8];omega
 simp only [Cb,mK,hw,Cm,BF,A6]
def GX (l:List De):List UInt8:=l.flatMap kC
theorem sH {r:De} (h:Gx r=true):3<=(kC r).length/\(kC r).length<=11:=by
 obtain⟨h1,h2,h3,h4,h5,h6,h7,h8⟩:=cI h;have l1:=It (show r.Arg.toNat<=1000000000 by omega);have l2:=It (show r.Chunk.toNat<=1000000000 by omega);unfold kC;rw [A0,Ag];omega
theorem ZJ (t:ByteArray) (ht:(L t).length<=20000):∀(l:List De) (a:Nat) (b:List De),(∀r∈l,Gx r=true)->(L t).drop a=GX l->a<=(L t).length->b.length<=a->Au (λs:List De×ByteArray×Int×Bool=>DM t s.1 s.2.1 s.2.2.1 s.2.2.2) (b,t,(a:Int),false)=some (.inl (b++l))
 |[],a,b,hl,h,ha,ho=>by
  have:(L t).length=a:=by
   have:=BR List.length h;rw [B7]at this;simp [GX]at this;omega
  rw [A7];simp only [DM];rw [BH,Af (by omega),Az];rfl
 |r::l,a,b,hl,h,ha,ho=>by
  have hr:=hl r (by simp);obtain⟨h1,h2,h3,h4,h5,h6,h7,h8⟩:=cI hr;have h':(L t).drop a=UInt8.ofNat (16*r.Kind+r.Vol).toNat::(Cy r.Arg.toNat++(Cy r.Chunk.toNat++GX l)):=by
   rw [h];simp only [GX,HJ,kC,BF,Ap]
  have c:a<(L t).length:=by
   have:=BR List.length h';rw [B7,A0]at this;omega
  have d:=Bj c;rw [h']at d
  injection d with hx hd
  rw [A7];simp only [DM];rw [BH,Ad (by omega)];simp only [Ae,Aa,AG];rw [EU t c,ad1 (by omega)];simp only [Aa];rw [KK t ht (a+1) r.Arg.toNat (by omega) _ hd.symm];simp only [Aa];have e:(L t).drop (a+1+(Cy r.Arg.toNat).length)=Cy r.Chunk.toNat++GX l:=by
   rw [<-CJ,<-hd,EO rfl]
  rw [KK t ht _ r.Chunk.toNat (by omega) _ e];simp only [Aa,Ab];have hw:IntKind.i64.wrap (((L t)[a]).toNat:Int)=16*r.Kind+r.Vol:=by
   rw [<-hx,GR];rw [NK (by omega) (by omega)];omega
  have e1:qu (IntKind.i64.wrap (((L t)[a]).toNat:Int)) 16=r.Kind:=by
   rw [hw];unfold qu;rw [Int.tdiv_eq_ediv_of_nonneg (by omega),NK (by omega) (by omega)];omega
  have e2:Int.tmod (IntKind.i64.wrap (((L t)[a]).toNat:Int)) 16=r.Vol:=by
   rw [hw,Kx (by omega)];omega
  rw [e1,e2,Bm h5,Bm h7];have f:De.mk r.Kind r.Vol r.Arg r.Chunk=r:=rfl;rw [f,Mu,hr];simp only [Aa,Ai,Ab];rw [Cn (by simp only [Ak];omega)];simp only [Aa];have l1:=It (show r.Arg.toNat<=1000000000 by omega);have l2:=It (show r.Chunk.toNat<=1000000000 by omega);have g:(L t).drop (a+1+(Cy r.Arg.toNat).length+(Cy r.Chunk.toNat).length)=GX l:=by
   rw [<-CJ,e,EO rfl]
  have i:a+1+(Cy r.Arg.toNat).length+(Cy r.Chunk.toNat).length<=(L t).length:=by
   have h9:=BR List.length h';rw [B7,A0,Ag,Ag]at h9;omega
  have:=ZJ t ht l _ (b++ [r]) (λx hx=>hl x (by simp [hx])) g i (by simp;omega);rw [Ap,Cm]at this;exact this
theorem kA {l:List De} (hl:∀r∈l,Gx r=true) (a:(GX l).length<=20000):ZK (bs (GX l))=some l:=by
 have h:=ZJ (bs (GX l)) (by rw [DV];exact a) l 0 [] hl (by rw [DV];rfl) (by omega) (by simp);unfold ZK Ic;have h':Au (λs:List De×ByteArray×Int×Bool=>DM (bs (GX l)) s.1 s.2.1 s.2.2.1 s.2.2.2) ([],bs (GX l),0,false)=some (.inl ([]++l)):=h;rw [h',A6];rfl
theorem l9 {v:Int} (u:ByteArray) (hu:(L u).length<=20000) (hv:Nu u=some v):KD (u++four v)=some (u,true):=by
 have a:(L (u++four v)).length=(L u).length+4:=by rw [DC,Ag,TY]
 have e4:sb (Fz (u++four v)) 4=((L u).length:Int):=by rw [BH,a,Cw (by omega) (by omega)];omega
 unfold KD;rw [e4,Af (by omega),Af (by omega)];simp only [Ab];have c:sub (u++four v) 0 ((L u).length:Int)=some u:=by
  rw [show(0:Int)=((0:Nat):Int)from rfl,EV _ (by omega) (by omega)];congr 1;apply Iw;rw [HM,DC];simp
 have b:sub (u++four v) ((L u).length:Int) (Fz (u++four v))=some (four v):=by
  rw [BH,EV _ (by omega) (by omega)];congr 1;apply Iw;rw [HM,a,DC,EO rfl,AO (by rw [TY];omega)]
 rw [c,b];simp only [Aa];rw [hv];have h3:KC v=some (four v):=rfl;simp only [Aa,h3];have:seq (four v) (four v)=true:=by rw [JT];simp
 rw [this];rfl
def JE (p:Page):Prop:=(p.Kind=1\/p.Kind=2)/\(1<=p.Seq/\p.Seq<=1000000000)/\(1<=p.Tx/\p.Tx<=1000000000)/\(1<=p.Count/\p.Count<=9)/\(0<=p.Part/\p.Part<p.Count)/\(L p.Text).length<=90/\(p.Kind=2\/p.Count=1)
theorem Xi (p:Page):∃v,Kc p=some v/\(v=true↔JE p):=by
 unfold Kc JE;rw [E4,E4,E4,E4,BH];simp only [Aa];by_cases h1:1<=p.Kind/\p.Kind<=2
 ·rw [Ad h1];by_cases h2:1<=p.Seq/\p.Seq<=1000000000
  ·rw [Ad h2];by_cases h3:1<=p.Tx/\p.Tx<=1000000000
   ·rw [Ad h3];by_cases h4:1<=p.Count/\p.Count<=9
    ·rw [Ad h4];simp only [Ai,Ab];rw [Cw (by omega) (by omega),E4];simp only [Aa];by_cases h5:0<=p.Part/\p.Part<=p.Count-1
     ·rw [Ad h5];simp only [Ai,Ab,Aa];by_cases h6:((L p.Text).length:Int)>90
      ·rw [Ad h6];exact⟨_,rfl,by simp only [BQ,RJ];omega⟩
      rw [Af h6];simp only [Ab];by_cases h7:p.Kind=2
      ·rw [show(p.Kind==2)=true by simpa using h7];exact⟨_,rfl,by simp only [true_iff];omega⟩
      rw [show(p.Kind==2)=false by simpa using h7];refine⟨_,rfl,?_⟩;rw [Dt];omega
     rw [Af h5];exact⟨_,rfl,by simp only [BQ,RJ];omega⟩
    rw [Af h4];exact⟨_,rfl,by simp only [BQ,RJ];omega⟩
   rw [Af h3];exact⟨_,rfl,by simp only [BQ,RJ];omega⟩
  rw [Af h2];exact⟨_,rfl,by simp only [BQ,RJ];omega⟩
 rw [Af h1];exact⟨_,rfl,by simp only [BQ,RJ];omega⟩
variable {r r' m:List A8} {d d':Bc} {y:A8} {g f:Flash} {c nx n b nx':Int} {s:Store} {P:Int->Prop} {l l':Vs} {t:Bp} {p:Page} {ps:List Page} {j:Nat} {a ss:List Bu} {T:List ByteArray} {x:De}
theorem sW (h:JE p):Kc p=some true:=by
 obtain⟨v,h1,h2⟩:=Xi p;rw [h1,h2.2 h]
theorem pG (h:JE p):∃t,Ez p=some (t,true)/\1<=(L t).length/\(L t).length<=120/\Fq t=some (p,true):=by
 obtain⟨h1,h2,h3,h4,h5,h6,h7⟩:=h
 let k:UInt8:=UInt8.ofNat p.Kind.toNat
 have hk:(k.toNat:Int)=p.Kind:=by
  show((UInt8.ofNat p.Kind.toNat).toNat:Int)=p.Kind;rw [GR];omega
 let u:=bs ([k]++Cy p.Seq.toNat++Cy p.Tx.toNat++Cy p.Part.toNat++Cy p.Count.toNat++L p.Text)
 have hu:L u=[k]++Cy p.Seq.toNat++Cy p.Tx.toNat++Cy p.Part.toNat++Cy p.Count.toNat++L p.Text:=DV _;have l1:=It (show p.Seq.toNat<=1000000000 by omega);have l2:=It (show p.Tx.toNat<=1000000000 by omega);have l3:=It (show p.Part.toNat<=1000000000 by omega);have l4:=It (show p.Count.toNat<=1000000000 by omega);have e:(L u).length=1+(Cy p.Seq.toNat).length+(Cy p.Tx.toNat).length+(Cy p.Part.toNat).length+(Cy p.Count.toNat).length+(L p.Text).length:=by
  rw [hu];simp only [Ag,Ak]
 have l5:(L u).length<=116:=by omega
 obtain⟨v,hv,hs⟩:=(RQ u).2 (by omega);have c:=sW ⟨h1,h2,h3,h4,h5,h6,h7⟩;have a:=VP p u k p.Seq.toNat p.Tx.toNat p.Part.toNat p.Count.toNat c hk.symm (by omega) (by omega) (by omega) (by omega) (by omega) (by omega) (by omega) (by omega) (by omega) hu;rw [hs]at a;refine⟨u++four v,a,by rw [DC,Ag];omega,by rw [DC,Ag,TY];omega,?_⟩;unfold Fq;rw [l9 u (by omega) hv];simp only [Aa,Ai,Ab];rw [BH,Af (by omega)];have d0:(L u).drop 1=Cy p.Seq.toNat++(Cy p.Tx.toNat++(Cy p.Part.toNat++(Cy p.Count.toNat++L p.Text))):=by
  rw [hu];simp only [Ap,Cm,BF,List.drop_succ_cons,List.drop_zero,A6]
 rw [show(1:Int)=((1:Nat):Int)from rfl,KK u (by omega) 1 p.Seq.toNat (by omega) _ d0];simp only [Aa];have d1:(L u).drop (1+(Cy p.Seq.toNat).length)=Cy p.Tx.toNat++(Cy p.Part.toNat++(Cy p.Count.toNat++L p.Text)):=by rw [<-CJ,d0,EO rfl]
 rw [KK u (by omega) _ p.Tx.toNat (by omega) _ d1];simp only [Aa];have d2:(L u).drop (1+(Cy p.Seq.toNat).length+(Cy p.Tx.toNat).length)=Cy p.Part.toNat++(Cy p.Count.toNat++L p.Text):=by rw [<-CJ,d1,EO rfl]
 rw [KK u (by omega) _ p.Part.toNat (by omega) _ d2];simp only [Aa];have d3:(L u).drop (1+(Cy p.Seq.toNat).length+(Cy p.Tx.toNat).length+(Cy p.Part.toNat).length)=Cy p.Count.toNat++L p.Text:=by rw [<-CJ,d2,EO rfl]
 rw [KK u (by omega) _ p.Count.toNat (by omega) _ d3];simp only [Aa,Ab];have d4:(L u).drop (1+(Cy p.Seq.toNat).length+(Cy p.Tx.toNat).length+(Cy p.Part.toNat).length+(Cy p.Count.toNat).length)=L p.Text:=by rw [<-CJ,d3,EO rfl]
 have d:sx u 0=some ((k.toNat:Nat):Int):=by
  rw [show(0:Int)=((0:Nat):Int)from rfl,EU u (by omega)];have:(L u)[0]?=some k:=by rw [hu];simp
  rw [Ac (by omega)]at this
  injection this with this
  rw [this]
 rw [d];simp only [Aa];have b:sub u ((1+(Cy p.Seq.toNat).length+(Cy p.Tx.toNat).length+(Cy p.Part.toNat).length+(Cy p.Count.toNat).length:Nat):Int) ((L u).length:Int)=some p.Text:=by
  rw [EV u (by omega) (by omega)];congr 1;apply Iw;rw [HM,d4,AO (by omega)]
 rw [b];simp only [Aa];rw [NK (by omega) (by omega),hk,Bm (by omega),Bm (by omega),Bm (by omega),Bm (by omega)];have hp:Page.mk p.Kind p.Seq p.Tx p.Part p.Count p.Text=p:=rfl;rw [hp,a];simp only [Aa,Ai,Ab];have:seq (u++four v) (u++four v)=true:=by rw [JT];simp
 rw [this];rfl
theorem sV (h:¬JE p):Ez p=some (bs [],false):=by
 obtain⟨v,h1,h2⟩:=Xi p;unfold Ez;rw [h1]
 cases v with
 |true=>exact absurd (h2.1 rfl) h
 |false=>rfl
theorem o6 (s:ByteArray) (f a:Nat) (hf:f<a) (ha:a<=(L s).length) (hs:(L s).length<=64):∃k:Nat,MC s (f:Int) (a:Int)=some (k:Int)/\k<=31/\a+k<=(L s).length/\∀j,j<k->(L s)[f+j]?=(L s)[a+j]? :=by
 obtain⟨b,h1,k,rfl,h2,h3,h4⟩:=Bg (body:=λn:Int=>Hy s (f:Int) (a:Int) n) (λ(_:Unit) i=>i) 31 (λi _=>a+i<=(L s).length/\∀j,j<i->(L s)[f+j]?=(L s)[a+j]?) (λb=>∃k:Nat,b=(k:Int)/\k<=31/\a+k<=(L s).length/\∀j,j<k->(L s)[f+j]?=(L s)[a+j]?)
  (λ_ i hi hs=>by
   simp only [Hy];rw [Ad (by omega:(i:Int)<31),Ae,CA (by omega) (by omega),CA (by omega) (by omega),BH];by_cases c:a+i<(L s).length
   ·rw [Ad (by omega:((a:Int)+(i:Int))<((L s).length:Int)),Ae];have e1:((f:Int)+(i:Int))=((f+i:Nat):Int):=by omega
    have e2:((a:Int)+(i:Int))=((a+i:Nat):Int):=by omega
    rw [e1,e2,EU s (by omega),EU s c];simp only [Aa]
    cases hq:((((L s)[f+i]).toNat:Int)==(((L s)[a+i]).toNat:Int))with
    |true=>
     simp only [Ae];rw [ad1 (by omega)];refine .inl ⟨(),rfl,by omega,λj hj=>?_⟩;by_cases e:j=i
     ·subst e;rw [Ac (by omega),Ac c];congr 1;apply UInt8.toNat_inj.1;have:(((L s)[f+j]).toNat:Int)=(((L s)[a+j]).toNat:Int):=by simpa using hq
      omega
     exact hs.2 j (by omega)
    |false=>exact .inr ⟨_,rfl,i,rfl,by omega,hs.1,hs.2⟩
   rw [Af (by omega:¬((a:Int)+(i:Int))<((L s).length:Int)),Ab]
   exact .inr ⟨_,rfl,i,rfl,by omega,hs.1,hs.2⟩)
  (λ_ hs=>by
   simp only [Hy];rw [Af (by omega:¬((31:Nat):Int)<31),Ab]
   exact⟨_,rfl,31,rfl,by omega,hs.1,hs.2⟩) (s:=()) ⟨by omega,λj hj=>by omega⟩
 refine⟨k,?_,h2,h3,h4⟩;unfold MC;have h1':Au (λn:Int=>Hy s (f:Int) (a:Int) n) 0=some (k:Int):=h1;rw [h1'];rfl
def u9 (s:ByteArray) (a z b:Nat):Prop:=z<=31/\a+z<=(L s).length/\(z=0\/(4<=z/\1<=b/\b<=a/\∀j,j<z->(L s)[a-b+j]?=(L s)[a+j]?))
theorem rZ (s:ByteArray) (a:Nat) (ha:a<=(L s).length) (hs:(L s).length<=64):∃z b:Nat,Au (λq:Int×Int×Int=>E9 s (a:Int) q.1 q.2.1 q.2.2) (0,0,(sb (a:Int) 1))=some ((z:Int),(b:Int))/\u9 s a z b:=by
 rw [Cw (by omega) (by omega)];obtain⟨r,h1,z,b,rfl,h2⟩:=Bg (body:=λq:Int×Int×Int=>E9 s (a:Int) q.1 q.2.1 q.2.2) (λ(q:Nat×Nat) i=>((q.1:Int),(q.2:Int),(a:Int)-1-i)) a (λi q=>u9 s a q.1 q.2) (λr=>∃z b:Nat,r=((z:Int),(b:Int))/\u9 s a z b)
  (λq i hi hq=>by
   obtain⟨k,m1,m2,m3,m4⟩:=o6 s (a-1-i) a (by omega) ha hs;have e1:((a:Int)-1-(i:Int))=((a-1-i:Nat):Int):=by omega
   simp only [E9,e1];rw [Ad (by omega:(((a-1-i:Nat)):Int)>=0),Ae,m1];simp only [Aa];rw [Cw (by omega) (by omega),Cw (by omega) (by omega)];refine .inl ?_;have e2:(((a-1-i:Nat):Int)-1)=(a:Int)-1-((i+1:Nat):Int):=by omega
   have e3:((a:Int)-((a-1-i:Nat):Int))=((1+i:Nat):Int):=by omega
   rw [e2,e3];by_cases h4:4<=k
   ·rw [Ad (by omega:(k:Int)>=4),Ae];by_cases h5:q.1<k
    ·rw [Ad (by omega:(k:Int)>(q.1:Int))];exact⟨(k,1+i),rfl,m2,m3,.inr ⟨h4,by omega,by omega,λj hj=>by rw [show a-(1+i)=a-1-i by omega];exact m4 j hj⟩⟩
    rw [Af (by omega:¬(k:Int)>(q.1:Int))];exact⟨q,rfl,hq⟩
   rw [Af (by omega:¬(k:Int)>=4),Ab]
   exact⟨q,rfl,hq⟩)
  (λq hq=>by
   simp only [E9];rw [Af (by omega:¬((a:Int)-1-(a:Int))>=0),Ab]
   exact⟨_,rfl,q.1,q.2,rfl,hq⟩) (s:=(0,0)) ⟨by omega,by omega,.inl rfl⟩
 have e0:(((0:Nat):Int),((0:Nat):Int),(a:Int)-1-0)=((0:Int),(0:Int),(a:Int)-1):=by simp
 simp only [e0]at h1;exact⟨z,b,h1,h2⟩
def Ug:Nat->Nat->List UInt8->List UInt8
 |0,_,out=>out
 |n+1,b,out=>Ug n b (out++ [(out[out.length-b]?).getD 0])
def Vb (a:List UInt8) (t:Bp):List UInt8:=if t.Back=0 then a++L t.Text else Ug t.Size.toNat t.Back.toNat a
def Fs (l:List Bp):List UInt8:=l.foldl Vb []
def okT (a:List UInt8) (t:Bp):Prop:=(t.Back=0/\t.Size=0/\1<=(L t.Text).length/\(L t.Text).length<=31)\/(1<=t.Back/\t.Back<=(a.length:Int)/\1<=t.Size/\t.Size<=31/\L t.Text=[])
def tG (l:List Bp):Prop:=∀(i:Nat) t,l[i]?=some t->okT (Fs (l.take i)) t
theorem Oj (l:List Bp) (t:Bp):Fs (l++ [t])=Vb (Fs l) t:=by unfold Fs;rw [HI];rfl
theorem cQ {l:List Bp} (h:tG l) (ht:okT (Fs l) t):tG (l++ [t]):=by
 intro i x hx;by_cases e:i<l.length
 ·rw [AM e]at hx;rw [F6 (by omega)];exact h i x hx
 have hi:=(Ah.1 hx).1;rw [Ag,Ak]at hi;obtain rfl:i=l.length:=by omega
 rw [AU (A4 _),Rk]at hx;simp only [CO,An]at hx;rw [PT rfl,<-hx];exact ht
theorem tF {l:List Bp} (h:tG (l++ [t])):tG l/\okT (Fs l) t:=by
 refine⟨λi x hx=>?_,?_⟩
 ·have hi:=(Ah.1 hx).1;have:=h i x (by rw [AM hi];exact hx);rw [F6 (by omega)]at this;exact this
 have:=h l.length t (by rw [AU (A4 _),Rk];rfl);rw [PT rfl]at this;exact this
theorem aI (S:List UInt8):∀(n a b:Nat),a+n<=S.length->1<=b->b<=a->(∀j,j<n->S[a-b+j]?=S[a+j]?)->Ug n b (S.take a)=S.take (a+n)
 |0,a,b,_,_,_,_=>rfl
 |n+1,a,b,h1,h2,h3,h4=>by
  rw [Ug];have hl:(S.take a).length=a:=by rw [AH];omega
  have e:((S.take a)[(S.take a).length-b]?).getD 0=S[a]'(by omega):=by
   rw [hl,List.getElem?_take_of_lt (by omega)];have:=h4 0 (by omega);rw [Gy,Gy]at this;rw [this,Ac (by omega)];rfl
  rw [e,<-Av (by omega),aI S n (a+1) b (by omega) h2 (by omega) (λj hj=>by
   have:=h4 (j+1) (by omega);rw [show a+1-b+j=a-b+(j+1) by omega,this];congr 1
   omega)]
  congr 1;omega
theorem iD:∀(n b:Nat) (a:List UInt8),(Ug n b a).length=a.length+n
 |0,_,_=>rfl
 |n+1,b,a=>by rw [Ug,iD];simp;omega
theorem Tj (s:ByteArray) (hs:(L s).length<=64):∀(n a:Nat) (c:List Bp),(L s).length-a<=n->a<=(L s).length->c.length<=a->tG c->Fs c=(L s).take a->∃l,Au (λq:List Bp×Int=>Cx s q.1 q.2) (c,(a:Int))=some l/\tG l/\Fs l=L s/\l.length<=64
 |n,a,c,hn,ha,h,g,d=>by
  by_cases i:a<(L s).length
  ·obtain⟨z,b,h1,h2,h3,h4⟩:=rZ s a ha hs
   match n,hn with
   |0,hn=>omega
   |n+1,hn=>
   have j:((L s).take a).length=a:=by rw [AH];omega
   rcases h4 with rfl|⟨h4,h5,h6,h7⟩
   ·
    have f:sub s (a:Int) ((a+1:Nat):Int)=some (s.extract a (a+1)):=EV s (by omega) (by omega);have hx:L (s.extract a (a+1))=[(L s)[a]]:=by
     rw [HM,show a+1-a=1 by omega,Bj i];rfl
    have fresh:∃l,Au (λq:List Bp×Int=>Cx s q.1 q.2) (c++ [Bp.mk 0 0 (s.extract a (a+1))],((a+1:Nat):Int))=some l/\tG l/\Fs l=L s/\l.length<=64:=
     Tj s hs n (a+1) _ (by omega) (by omega) (by simp;omega) (cQ g (.inl ⟨rfl,rfl,by rw [hx];simp,by rw [hx];simp⟩)) (by
      rw [Oj];unfold Vb
      rw [Ax rfl,d,hx,Av i])
    rcases Hc c with e|⟨out0,t0,e⟩
    ·subst e;obtain⟨l,f1,f2⟩:=fresh;refine⟨l,?_,f2⟩;rw [A7];have hb:Cx s [] (a:Int)=some (.inl ([Bp.mk 0 0 (s.extract a (a+1))],((a+1:Nat):Int))):=by
      simp only [Cx];rw [BH,Ad (by omega),Ae,h1];simp only [Aa];rw [show decide ((((0:Nat):Int))>0)=false from rfl,Ab,ad1 (by omega),f,show decide ((sb (ln ([]:List Bp)) 1)>=0)=false from rfl];simp only [Ab,Aa];rw [Cn (by simp)];rfl
     simp only [hb];exact f1
    rw [Hd]at e;subst e;obtain⟨ok0,okt0⟩:=tF g;have hol':out0.length+1<=a:=by simpa using h
    have p:ln (out0++ [t0])=((out0.length+1:Nat):Int):=by rw [BG];simp
    have k:sb (ln (out0++ [t0])) 1=(out0.length:Int):=by rw [p,Cw (by omega) (by omega)];omega
    have m:gi (out0++ [t0]) (out0.length:Int)=some t0:=Ha _ _;by_cases hm:t0.Back=0/\(L t0.Text).length<31
    ·have o:HO t0.Text (s.extract a (a+1))=some (t0.Text++s.extract a (a+1)):=FE _ _ (by rw [hx];simp;omega);have hb:Cx s (out0++ [t0]) (a:Int)=some (.inl (out0++ [Bp.mk t0.Back t0.Size (t0.Text++s.extract a (a+1))],((a+1:Nat):Int))):=by
      simp only [Cx];rw [BH,Ad (by omega),Ae,h1];simp only [Aa];rw [show decide ((((0:Nat):Int))>0)=false from rfl,Ab,ad1 (by omega),f,k,Ad (by omega),Ae,m];simp only [Aa];rw [show(t0.Back==0)=true by simpa using hm.1,Ae,BH,Ad (by omega)];simp only [Aa,Ae];rw [o];simp only [Aa];rw [Jz]
     have hX:L (t0.Text++s.extract a (a+1))=L t0.Text++ [(L s)[a]]:=by rw [DC,hx]
     obtain⟨l,f1,f2⟩:=Tj s hs n (a+1) (out0++ [Bp.mk t0.Back t0.Size (t0.Text++s.extract a (a+1))]) (by omega) (by omega) (by simp at h⊢;omega) (cQ ok0 (by
      rcases okt0 with⟨k1,k2,k3,k4⟩|⟨k1,_⟩
      ·exact .inl ⟨k1,k2,by rw [hX];simp,by rw [hX];simp;omega⟩
      ·omega)) (by
      rw [Oj]at d⊢;unfold Vb at d⊢;rw [Ax hm.1]at d⊢
      rw [hX,<-Ap,d,Av i])
     refine⟨l,?_,f2⟩;rw [A7];simp only [hb];exact f1
    have hb:Cx s (out0++ [t0]) (a:Int)=some (.inl (out0++ [t0]++ [Bp.mk 0 0 (s.extract a (a+1))],((a+1:Nat):Int))):=by
     simp only [Cx];rw [BH,Ad (by omega),Ae,h1];simp only [Aa];rw [show decide ((((0:Nat):Int))>0)=false from rfl,Ab,ad1 (by omega),f,k,Ad (by omega),Ae,m];simp only [Aa];have hj:(bif t0.Back==0 then some (decide (Fz t0.Text<31))else some false:Option Bool)=some false:=by
      by_cases e0:t0.Back=0
      ·rw [show(t0.Back==0)=true by simpa using e0,Ae,BH,Af (by
       intro hh;exact hm ⟨e0,by omega⟩)]
      rw [show(t0.Back==0)=false by simpa using e0];rfl
     rw [hj];simp only [Aa,Ab];rw [Cn (by simp at h⊢;omega)];rfl
    obtain⟨l,f1,f2⟩:=fresh;refine⟨l,?_,f2⟩;rw [A7];simp only [hb];exact f1
   have hb:Cx s c (a:Int)=some (.inl (c++ [Bp.mk (b:Int) (z:Int) (bs [])],((a+z:Nat):Int))):=by
    simp only [Cx];rw [BH,Ad (by omega),Ae,h1];simp only [Aa];rw [Ad (by omega),Ae,Cn (by simp;omega),CA (by omega) (by omega)];simp only [Aa];congr 3
   obtain⟨l,f1,f2⟩:=Tj s hs n (a+z) (c++ [Bp.mk (b:Int) (z:Int) (bs [])]) (by omega) h3 (by simp;omega) (cQ g (.inr ⟨by simp;omega,by rw [d,j];simp;omega,by simp;omega,by simp;omega,DV _⟩)) (by
    rw [Oj];unfold Vb;rw [Ay (by simp;omega),d];simp only [Ba]
    exact aI (L s) z a b h3 h5 h6 h7)
   refine⟨l,?_,f2⟩;rw [A7];simp only [hb];exact f1
  have ea:a=(L s).length:=by omega
  refine⟨c,?_,g,by rw [d,ea,AN],by omega⟩;rw [A7];have hb:Cx s c (a:Int)=some (.inr c):=by
   simp only [Cx];rw [BH,Af (by omega),Ab]
  simp only [hb]
theorem vF (s:ByteArray) (hs:(L s).length<=64):∃l,KE s=some l/\tG l/\Fs l=L s/\l.length<=64:=by
 obtain⟨l,h1,h2⟩:=Tj s hs (L s).length 0 [] (by omega) (by omega) (by simp) (λi t h=>by simp at h) (by simp [Fs]);refine⟨l,?_,h2⟩;unfold KE;rw [BH,Af (by omega),Ab];have h1':Au (λq:List Bp×Int=>Cx s q.1 q.2) ([],0)=some l:=h1;rw [h1'];rfl
def LM (t:Bp):List UInt8:=if t.Back=0 then UInt8.ofNat (L t.Text).length::L t.Text else [UInt8.ofNat (128+t.Size).toNat,UInt8.ofNat t.Back.toNat]
theorem nR {a:List UInt8} (h:okT a t) (ho:a.length<=64):(LM t).length<=32:=by
 unfold LM
 rcases h with⟨h1,h2,h3,h4⟩|⟨h1,h2,h3,h4,h5⟩
 ·rw [Ax h1,A0];omega
 rw [Ay (by omega)];simp
theorem yR {a:List UInt8} (h:okT a t):a.length<=(Vb a t).length:=by
 unfold Vb;split
 ·simp
 rw [iD];omega
theorem MM {l:List Bp} (h:tG l):∀i,i<=l.length->(Fs (l.take i)).length<=(Fs l).length:=by
 have step:∀i,i<l.length->(Fs (l.take i)).length<=(Fs (l.take (i+1))).length:=λi hi=>by
  rw [Av hi,Oj];exact yR (h i _ (Ac hi))
 intro i hi;have:∀k,i+k<=l.length->(Fs (l.take i)).length<=(Fs (l.take (i+k))).length:=by
  intro k
  induction k with
  |zero=>intro _;exact A4 _
  |succ k ih=>
   intro hk;exact HH (ih (by omega)) (step (i+k) (by omega))
 have:=this (l.length-i) (by omega);rw [show i+(l.length-i)=l.length by omega,AN]at this;exact this
theorem AAU (s:ByteArray) (hs:(L s).length<=64):∃l,tG l/\Fs l=L s/\l.length<=64/\((EM s=some (bs (122::l.flatMap LM),true))\/EM s=some (bs (114::L s),true)):=by
 obtain⟨l,h1,h2,h3,h4⟩:=vF s hs;refine⟨l,h2,h3,h4,?_⟩;unfold EM;rw [BH,Af (by omega),Ab,h1];simp only [Aa];obtain⟨b,q1,q2⟩:=Bg (body:=λq:ByteArray×Int=>EB l q.1 q.2) (λz i=>(z,i)) l.length (λi z=>L z=122::(l.take i).flatMap LM/\(L z).length<=1+32*i) (λz=>L z=122::l.flatMap LM/\(L z).length<=3000)
  (λz i hi hz=>by
   have hx:=Ac hi;have c:=h2 i _ hx;have a:=MM h2 i (by omega);rw [h3]at a;have d:=nR c (by omega);have et:(l.take (i+1)).flatMap LM=(l.take i).flatMap LM++LM l[i]:=by rw [Av hi,Qa];simp
   simp only [EB,AC,Ad hi,Ae,A9,hx,Aa];rw [ad1 (by omega)];refine .inl ?_
   rcases c with⟨k1,k2,k3,k4⟩|⟨k1,k2,k3,k4,k5⟩
   ·rw [show(l[i].Back==0)=true by simpa using k1,Ae,FE _ _ (by rw [Qg];omega)];simp only [Aa];rw [FE _ _ (by rw [DC,Ag,Qg];omega)];have hL:L (z++EG [IntKind.u8.wrap (Fz l[i].Text)]++l[i].Text)=L z++LM l[i]:=by
     rw [DC,DC,Jw];unfold LM;rw [Ax k1,BH];have:IntKind.u8.wrap ((L l[i].Text).length:Int)=((L l[i].Text).length:Int):=by rw [IntKind.wrap_u8];omega
     rw [this];simp
    refine⟨_,rfl,?_,?_⟩
    ·rw [hL,hz.1,et];rfl
    rw [hL,Ag];omega
   rw [show(l[i].Back==0)=false by simp;omega,Ab,CA (by omega) (by omega),FE _ _ (by rw [M6];simp;omega)];have hL:L (z++EG [IntKind.u8.wrap (128+l[i].Size),IntKind.u8.wrap l[i].Back])=L z++LM l[i]:=by
    rw [DC,Jw];unfold LM;rw [Ay (by omega)];have e1:IntKind.u8.wrap (128+l[i].Size)=128+l[i].Size:=by rw [IntKind.wrap_u8];omega
    have e2:IntKind.u8.wrap l[i].Back=l[i].Back:=by rw [IntKind.wrap_u8];omega
    rw [e1,e2];rfl
   refine⟨_,rfl,?_,?_⟩
   ·rw [hL,hz.1,et];rfl
   rw [hL,Ag];omega)
  (λz hz=>⟨z,by simp only [EB,AC,Ao,Aq,Ab],by rw [hz.1,AN],by omega⟩) (s:=bs [122]) ⟨by rw [DV];rfl,by rw [DV];simp⟩
 have q1':Au (λq:ByteArray×Int=>EB l q.1 q.2) (bs [122],0)=some b:=q1;rw [q1'];simp only [Aa];have hb:b=bs (122::l.flatMap LM):=Iw (by rw [q2.1,DV])
 cases decide (ad ((L s).length:Int) 1<=Fz b)with
 |false=>left;rw [hb];rfl
 |true=>
  right;simp only [Ae];rw [FE _ _ (by rw [DV];simp;omega)];simp only [Aa];have e:bs [114]++s=bs (114::L s):=Iw (by rw [DC,DV,DV];rfl);rw [e]
theorem Uz (t:ByteArray) (ht:(L t).length<=10000):∀(l:List Bp) (a:Nat) (c:List Bp),(∀x∈l,∃o:List UInt8,okT o x/\o.length<=64)->(L t).drop a=l.flatMap LM->a<=(L t).length->c.length<=a->Au (λq:List Bp×Int=>Cd t q.1 q.2) (c,(a:Int))=some (.inl (c++l))
 |[],a,c,hl,h,ha,ho=>by
  have:(L t).length=a:=by
   have:=BR List.length h;rw [B7]at this;simp at this;omega
  rw [A7];have hb:Cd t c (a:Int)=some (.inr (.inl c)):=by
   simp only [Cd];rw [BH,Af (by omega),Ab]
  simp only [hb];rw [Az]
 |x::l,a,c,hl,h,ha,ho=>by
  obtain⟨o,m,p⟩:=hl x (by simp);rw [HJ]at h;have d:=BR List.length h;rw [B7,Ag]at d
  rcases m with⟨k1,k2,k3,k4⟩|⟨k1,k2,k3,k4,k5⟩
  ·have he:LM x=UInt8.ofNat (L x.Text).length::L x.Text:=by unfold LM;rw [Ax k1]
   rw [he]at h d;rw [A0]at d;have f:a<(L t).length:=by omega
   have e:=Bj f;rw [h,BF]at e
   injection e with hx hd
   have i:(((L t)[a]).toNat:Int)=((L x.Text).length:Int):=by rw [<-hx,GR];omega
   have k:sub t ((a+1:Nat):Int) ((a+1+(L x.Text).length:Nat):Int)=some x.Text:=by
    rw [EV t (by omega) (by omega)];congr 1;apply Iw;rw [HM,<-hd,show a+1+(L x.Text).length-(a+1)=(L x.Text).length by omega,PT rfl]
   have hb:Cd t c (a:Int)=some (.inl (c++ [Bp.mk 0 0 x.Text],((a+1+(L x.Text).length:Nat):Int))):=by
    simp only [Cd];rw [BH,Ad (by omega),Ae,EU t f];simp only [Aa];rw [i,NK (by omega) (by omega),Af (by omega),Ab,ad1 (by omega),CA (by omega) (by omega),Af (by omega),Ab];rw [show((a+1:Nat):Int)+((L x.Text).length:Int)=((a+1+(L x.Text).length:Nat):Int) by omega,k];simp only [Aa];rw [Cn (by simp;omega)];rfl
   have j:Bp.mk 0 0 x.Text=x:=by
    cases x with
    |mk b z u=>simp only at k1 k2;rw [k1,k2]
   rw [j]at hb;rw [A7];simp only [hb];have:=Uz t ht l (a+1+(L x.Text).length) (c++ [x]) (λy hy=>hl y (by simp [hy])) (by rw [<-CJ,<-hd,EO rfl]) (by omega) (by simp;omega);rw [Ap,Cm]at this;exact this
  have he:LM x=[UInt8.ofNat (128+x.Size).toNat,UInt8.ofNat x.Back.toNat]:=by unfold LM;rw [Ay (by omega)]
  rw [he]at h d;simp only [A0,Bn]at d;have f:a<(L t).length:=by omega
  have e:=Bj f;rw [h]at e;simp only [BF,A6]at e
  injection e with hx hd
  have g:=Bj (show a+1<(L t).length by omega);rw [<-hd]at g
  injection g with hx2 hd2
  have i:(((L t)[a]).toNat:Int)=128+x.Size:=by rw [<-hx,GR];omega
  have n:(((L t)[a+1]'(by omega)).toNat:Int)=x.Back:=by rw [<-hx2,GR];omega
  have hb:Cd t c (a:Int)=some (.inl (c++ [Bp.mk x.Back x.Size (bs [])],((a+2:Nat):Int))):=by
   simp only [Cd];rw [BH,Ad (by omega),Ae,EU t f];simp only [Aa];rw [i,NK (by omega) (by omega),Ad (by omega),Ae,CA (b:=2) (by omega) (by omega),Af (by omega),Ab,ad1 (by omega),EU t (by omega)];simp only [Aa];rw [n,NK (by omega) (by omega),Cw (by omega) (by omega),Cn (by simp;omega)];simp only [Aa];rw [show 128+x.Size-128=x.Size by omega];rfl
  have j:Bp.mk x.Back x.Size (bs [])=x:=by
   cases x with
   |mk b z u=>simp only at k5⊢;rw [show bs []=u from Iw (by rw [k5,DV])]
  rw [j]at hb;rw [A7];simp only [hb];have:=Uz t ht l (a+2) (c++ [x]) (λy hy=>hl y (by simp [hy])) (by rw [show a+2=a+1+1 by omega];exact hd2.symm) (by omega) (by simp;omega);rw [Ap,Cm]at this;exact this
def GY (l:List UInt8):List Int:=l.map λc=>(c.toNat:Int)
theorem pN (l:List UInt8):L (EG (GY l))=l:=by
 rw [Jw,GY,Fy];have:((λn:Int=>UInt8.ofNat n.toNat)∘λc:UInt8=>(c.toNat:Int))=id:=by
  funext c;simp
 rw [this,SY]
theorem rY (b:ByteArray):jU b=GY (L b):=rfl
theorem Xx (x:Bp) (b:1<=x.Back) (hs:0<=x.Size/\x.Size<=31):∀(n k:Nat) (a:List UInt8),(k:Int)+n=x.Size->x.Back<=(a.length:Int)->a.length+n<=1000->Au (λq:List Int×Int=>Ed x q.1 q.2) (GY a,(k:Int))=some (GY (Ug n x.Back.toNat a))
 |0,k,a,hk,c,ho=>by
  rw [A7];have hb:Ed x (GY a) (k:Int)=some (.inr (GY a)):=by
   simp only [Ed];rw [Af (by omega),Ab]
  simp only [hb];rfl
 |n+1,k,a,hk,c,ho=>by
  have d:ln (GY a)=(a.length:Int):=by rw [BG,GY,Be]
  have e:gi (GY a) ((a.length:Int)-x.Back)=some (((a[a.length-x.Back.toNat]?).getD 0).toNat:Int):=by
   rw [show(a.length:Int)-x.Back=((a.length-x.Back.toNat:Nat):Int) by omega,A9,GY,AQ,Ac (by omega)];rfl
  have hb:Ed x (GY a) (k:Int)=some (.inl (GY (a++ [(a[a.length-x.Back.toNat]?).getD 0]),((k+1:Nat):Int))):=by
   simp only [Ed];rw [Ad (by omega),Ae,d,Cw (by omega) (by omega),e];simp only [Aa];rw [Cn (by simp [GY];omega),ad1 (by omega)];simp only [Aa,GY,Cq,Cb,mK]
  rw [A7];simp only [hb];rw [Ug];exact Xx x b hs n (k+1) _ (by omega) (by simp;omega) (by simp;omega)
theorem kE (l:List Bp) (hl:l.length<=64) (a:tG l) (h64:(Fs l).length<=64):Au (λq:List Int×Int=>Ee l q.1 q.2) ([],0)=some (.inl (GY (Fs l))):=by
 obtain⟨b,h1,h2⟩:=Bg (body:=λq:List Int×Int=>Ee l q.1 q.2) (λ(o:List UInt8) i=>(GY o,i)) l.length (λi o=>o=Fs (l.take i)) (λb=>b= .inl (GY (Fs l)))
  (λo i hi ho=>by
   have hx:=Ac hi;have hk:=a i _ hx;have hm:=MM a i (by omega);have d:=MM a (i+1) (by omega);have et:Fs (l.take (i+1))=Vb o l[i]:=by rw [Av hi,Oj,ho]
   rw [<-ho]at hk hm;rw [et]at d
   have c:∀q:List UInt8,ln (GY q)=(q.length:Int):=λq=>by rw [BG,GY,Be]
   simp only [Ee,AC,Ad hi,Ae,A9,hx,Aa];refine .inl ⟨Vb o l[i],?_,et.symm⟩
   rcases hk with⟨k1,k2,k3,k4⟩|⟨k1,k2,k3,k4,k5⟩
   ·rw [show(l[i].Back==0)=true by simpa using k1,Ae,BH,E4,Ad (by omega)];simp only [Aa,Ai,Ab];rw [show(l[i].Size !=0)=false by simp [k2],rY];simp only [Ab];have e1:ap 1 (GY o) (GY (L l[i].Text))=some (GY (Vb o l[i])):=by
     rw [Cn (by simp [GY];omega)];unfold Vb;rw [Ax k1];simp [GY]
    rw [e1];simp only [Aa,By];rw [c,Af (by omega),Ab,ad1 (by omega)]
   rw [show(l[i].Back==0)=false by simp;omega,Ab,c,E4,Ad (by omega)];simp only [Aa,Ai,Ab];rw [E4,Ad (by omega)];simp only [Aa,Ai,Ab];have e:seq l[i].Text (bs [])=true:=by rw [JT,A5];exact Iw (by rw [k5,DV])
   rw [e];simp only [Ai,Ab];have e1:=Xx l[i] k1 ⟨by omega,k4⟩ l[i].Size.toNat 0 o (by omega) k2 (by omega);rw [show((0:Nat):Int)=0 from rfl]at e1;rw [e1];have e2:Ug l[i].Size.toNat l[i].Back.toNat o=Vb o l[i]:=by unfold Vb;rw [Ay (by omega)]
   rw [e2];simp only [Aa,By]
   rw [c,Af (by omega),Ab,ad1 (by omega)])
  (λo ho=>⟨.inl (GY o),by simp only [Ee,AC,Ao,Aq,Ab],by rw [ho,AN]⟩) (s:=[]) rfl
 rw [<-h2];exact h1
theorem iP (s:ByteArray) (hs:(L s).length<=64):∃z,EM s=some (z,true)/\Ga z=some (s,true)/\1<=(L z).length:=by
 obtain⟨l,h1,h2,h3,h4⟩:=AAU s hs;have fin:∀z:ByteArray,EM s=some (z,true)->((EM s).bind λv3=>(bif(!v3.2)then(some true)else(some (!(seq v3.1 z))):Option (Bool)).bind λj2=>bif j2 then(some ((bs []),false))else(some (s,true)))=some (s,true):=by
  intro z hz;rw [hz];have:seq z z=true:=by rw [JT];simp
  simp only [Aa,Ai,Ab,this]
 rcases h4 with h4|h4
 ·refine⟨_,h4,?_,by rw [DV];simp⟩;have hf:=fin _ h4;generalize hz:bs (122::l.flatMap LM)=z at h4 hf;have hL:L z=122::l.flatMap LM:=by rw [<-hz,DV]
  have d:(L z).length<=3000:=by
   have:∀m:List Bp,(∀x∈m,∃o:List UInt8,okT o x/\o.length<=64)->(m.flatMap LM).length<=32*m.length:=by
    intro m
    induction m with
    |nil=>intro _;simp
    |cons x m ih=>
     intro hm;obtain⟨o,f,g⟩:=hm x (by simp);have:=nR f g;have:=ih (λy hy=>hm y (by simp [hy]));rw [HJ,Ag,A0];omega
   have:=this l (λx hx=>by
    obtain⟨i,hi,rfl⟩:=AI hx;have hm:=MM h1 i (by omega);rw [h2]at hm
    exact⟨_,h1 i _ (Ac hi),by omega⟩)
   rw [hL,A0];omega
  unfold Ga;have a:1<=(L z).length:=by rw [hL];simp
  rw [BH,show(((L z).length:Int)==0)=false by rw [CR];omega,Ab];have b:sub z 1 ((L z).length:Int)=some (bs (l.flatMap LM)):=by
   rw [show(1:Int)=((1:Nat):Int)from rfl,EV z a (A4 _)];congr 1;apply Iw;rw [HM,DV,AO (by rw [B7];omega),hL];rfl
  have c:sx z 0=some 122:=by
   rw [show(0:Int)=((0:Nat):Int)from rfl,EU z (i:=0) a];have:(L z)[0]?=some 122:=by rw [hL];rfl
   rw [Ac (by omega)]at this
   injection this with this
   rw [this];rfl
  rw [b,c];simp only [Aa];rw [show((122:Int)==122)=true from rfl];simp only [Ae];have h:(L (bs (l.flatMap LM))).length<=10000:=by rw [DV];rw [hL,A0]at d;omega
  have e:=Uz (bs (l.flatMap LM)) h l 0 [] (λx hx=>by
    obtain⟨i,hi,rfl⟩:=AI hx;have hm:=MM h1 i (by omega);rw [h2]at hm
    exact⟨_,h1 i _ (Ac hi),by omega⟩) (by rw [DV];rfl) (by omega) (by simp)
  rw [show((0:Nat):Int)=0 from rfl,A6]at e;have ht:J5 (bs (l.flatMap LM))=some (l,true):=by
   unfold J5;rw [e];rfl
  have hp:FL l=some (s,true):=by
   unfold FL;rw [kE l h3 h1 (by rw [h2];omega),h2];simp only [Aa,By];congr 2;apply Iw;rw [pN]
  rw [ht];simp only [Aa];rw [hp];simp only [Aa,Ai,Ab,By];exact hf
 refine⟨_,h4,?_,by rw [DV];simp⟩;have hf:=fin _ h4;generalize hz:bs (114::L s)=z at h4 hf;have hL:L z=114::L s:=by rw [<-hz,DV]
 unfold Ga;have a:1<=(L z).length:=by rw [hL];simp
 rw [BH,show(((L z).length:Int)==0)=false by rw [CR];omega,Ab];have b:sub z 1 ((L z).length:Int)=some s:=by
  rw [show(1:Int)=((1:Nat):Int)from rfl,EV z a (A4 _)];congr 1;apply Iw;rw [HM,AO (by rw [B7];omega),hL];rfl
 have c:sx z 0=some 114:=by
  rw [show(0:Int)=((0:Nat):Int)from rfl,EU z (i:=0) a];have:(L z)[0]?=some 114:=by rw [hL];rfl
  rw [Ac (by omega)]at this
  injection this with this
  rw [this];rfl
 rw [b,c];simp only [Aa];rw [show((114:Int)==122)=false from rfl];simp only [Ab,Aa,By];exact hf
theorem Ui (a b:List ByteArray):NW (a++b)=NW a++NW b:=by unfold NW;rw [Qa]
theorem pC (a b:List De):GX (a++b)=GX a++GX b:=by unfold GX;rw [Qa]
def CH (seq tx:Int) (T:List ByteArray):List Page:=T.mapIdx λi t=>Page.mk 2 (seq+i) tx i T.length t
theorem qO (a:List De) (hr:a.length<=1048576) (j:∀r∈a,Gx r=true):∃T:List ByteArray,Au (λs:List ByteArray×Int=>Ec a s.1 s.2) ([(bs [])],0)=some (.inl T)/\1<=T.length/\T.length<=1+a.length/\NW T=GX a/\∀t∈T,(L t).length<=90:=by
 obtain⟨b,h1,T,h2,h3⟩:=Bg (body:=λs:List ByteArray×Int=>Ec a s.1 s.2) (λ(o:List ByteArray) i=>(o,i)) a.length
  (λi T=>1<=T.length/\T.length<=1+i/\NW T=GX (a.take i)/\∀t∈T,(L t).length<=90)
  (λb=>∃T:List ByteArray,b= .inl T/\1<=T.length/\T.length<=1+a.length/\NW T=GX a/\∀t∈T,(L t).length<=90)
  (λT i hi hT=>by
   obtain⟨k,l,g,h⟩:=hT;have hx:=Ac hi;obtain⟨t,t1,t2⟩:=bV (j _ (AE hi));have m:=sH (j _ (AE hi));rw [<-t2]at m;have et:GX (a.take (i+1))=GX (a.take i)++L t:=by rw [Av hi,pC,t2];simp [GX]
   rcases Hc T with e|⟨T0,c,e⟩
   ·subst e;simp at k
   rw [Hd]at e;subst e;have n:ln (T0++ [c])=((T0.length+1:Nat):Int):=by rw [BG];simp
   rw [Ag,Ak]at k l;have p:sb (ln (T0++ [c])) 1=(T0.length:Int):=by rw [n,Cw (by omega) (by omega)];omega
   have q:gi (T0++ [c]) (T0.length:Int)=some c:=Ha _ _;have u:=h c (by simp);rw [Ui]at g;simp only [Ec,AC,Ad hi,Ae,A9,hx,Aa];rw [t1];simp only [Aa,Ai,Ab];rw [p,q];simp only [Aa];rw [BH,BH,CA (by omega) (by omega),ad1 (by omega)];refine .inl ?_;by_cases f:((L c).length:Int)+((L t).length:Int)>90
   ·rw [Ad f,Ae,Cn (by simp;omega)];refine⟨T0++ [c]++ [t],rfl,by simp,by simp;omega,?_,λx d=>?_⟩
    ·rw [Ui,Ui,et,g];simp [NW]
    rw [Aj,Aw]at d
    rcases d with d|rfl
    ·exact h x d
    omega
   rw [Af f,Ab,FE _ _ (by omega)];simp only [Aa];rw [Jz];refine⟨T0++ [c++t],rfl,by simp,by simp;omega,?_,λx d=>?_⟩
   ·rw [Ui,et,<-g];simp [NW,DC]
   rw [Aj,Aw]at d
   rcases d with d|rfl
   ·exact h x (by simp [d])
   rw [DC,Ag];omega)
  (λT hT=>⟨_,by simp only [Ec,AC,Ao,Aq,Ab],T,rfl,hT.1,hT.2.1,by rw [hT.2.2.1,AN],hT.2.2.2⟩) (s:=[bs []]) ⟨by simp,by simp,by simp [NW,GX,DV],λt ht=>by rw [Aw]at ht;rw [ht,DV];simp⟩
 subst h2;exact⟨T,h1,h3⟩
theorem qP (seq tx:Int) (a:List De) (hr:a.length<=1000) (c:∀r∈a,Gx r=true):∃T:List ByteArray,1<=T.length/\NW T=GX a/\(∀t∈T,(L t).length<=90)/\T.length<=1+a.length/\
  ((I3 seq tx a=some (CH seq tx T,true)/\T.length<=9/\1<=seq/\seq+T.length-1<=1000000000/\1<=tx/\tx<=1000000000)\/(I3 seq tx a=some ([],false)/\¬(T.length<=9/\1<=seq/\seq+T.length-1<=1000000000/\1<=tx/\tx<=1000000000))):=by
 obtain⟨T,h1,h2,h2',h3,h4⟩:=qO a (by omega) c;refine⟨T,h2,h3,h4,h2',?_⟩;unfold I3;rw [h1];simp only [Aa,By];rw [BG];by_cases h9:(T.length:Int)>9
 ·rw [Ad h9];exact .inr ⟨rfl,λhh=>by omega⟩
 rw [Af h9];simp only [Ab];rw [Cw (by omega) (by omega),CA (by omega) (by omega),E4,E4];simp only [Aa];by_cases hs:1<=seq/\seq<=1000000000-(T.length:Int)+1
 ·rw [Ad hs];simp only [Ai,Ab];by_cases ht:1<=tx/\tx<=1000000000
  ·rw [Ad ht];simp only [Ai,Ab,Aa];left;obtain⟨b,q1,q2⟩:=Bg (body:=λs:List Page×Int=>EW seq tx T s.1 s.2) (λ(o:List Page) i=>(o,i)) T.length (λi o=>o=(CH seq tx T).take i) (λb=>b=CH seq tx T)
    (λo i hi ho=>by
     have hx:=Ac hi;have e:o.length<=i:=by rw [ho,AH];omega
     simp only [EW,AC,Ad hi,Ae,A9,hx,Aa];rw [CA (by omega) (by omega),BG,Cn (by simp;omega)];simp only [Aa];rw [ad1 (by omega)];refine .inl ⟨_,rfl,?_⟩;have d:(CH seq tx T)[i]?=some (Page.mk 2 (seq+i) tx i T.length T[i]):=by unfold CH;rw [Kv,hx];rfl
     rw [DY,d,ho]
     rfl)
    (λo ho=>⟨o,by simp only [EW,AC,Ao,Aq,Ab],by rw [ho,AO];unfold CH;rw [Jg];exact A4 _⟩) (s:=[]) rfl
   have q1':Au (λs:List Page×Int=>EW seq tx T s.1 s.2) ([],0)=some b:=q1;rw [q1',q2];exact⟨rfl,by omega,by omega,by omega,ht.1,ht.2⟩
  rw [Af ht];exact .inr ⟨rfl,λhh=>ht ⟨hh.2.2.2.1,hh.2.2.2.2⟩⟩
 rw [Af hs];exact .inr ⟨rfl,λhh=>hs ⟨hh.2.1,by omega⟩⟩
def Steps:Flash->List Bu->Flash->Prop
 |f,[],g=>g=f
 |f,s::ss,g=>Qj f s/\Steps (Jy f s) ss g
theorem Mz:∀(f:Flash) (a b:List Bu) (g:Flash),Steps f (a++b) g↔∃m,Steps f a m/\Steps m b g
 |f,[],b,g=>⟨λh=>⟨f,rfl,h⟩,λ⟨m,h1,h2⟩=>by rw [h1]at h2;exact h2⟩
 |f,s::a,b,g=>by
  rw [BF];simp only [Steps,Mz];constructor
  ·rintro⟨h1,m,h2,h3⟩;exact⟨m,⟨h1,h2⟩,h3⟩
  rintro⟨m,⟨h1,h2⟩,h3⟩;exact⟨h1,m,h2,h3⟩
theorem Un:∀{f:Flash} {a:List Bu} {g:Flash},BN f->Steps f a g->BN g
 |f,[],g,hf,h=>by rw [h];exact hf
 |f,s::a,g,hf,h=>Un (m8 hf h.1) h.2
theorem mD {m:Flash} {s:Bu} (h:Steps f a m) (hs:Qj m s):Steps f (a++ [s]) (Jy m s):=(Mz f a [s] _).2 ⟨m,h,hs,rfl⟩
theorem Qv (hf:BN f) (h:Steps f a g) (ha:a.length<=1048576):H1 f a=some (g,(a.length:Int)):=by
 unfold H1;rw [Dp f hf.cap];simp only [Aa];obtain⟨b,h1,h2⟩:=Bg (body:=λs:Int×List Block=>D5 a s.1 s.2) (λ(o:List Block) i=>(i,o)) a.length (λi o=>Steps f (a.take i) (Flash.mk o)/\Steps (Flash.mk o) (a.drop i) g) (λb=>b= .inl g.Blocks)
  (λo i hi hs=>by
   have hx:=Ac hi;obtain⟨s1,s2⟩:=hs;rw [Bj hi]at s2;simp only [D5,AC,Ad hi,Ae,A9,hx,Aa];have hP:=Un hf s1
   rcases OV hP a[i]with⟨k1,k2⟩|⟨k1,k2⟩
   ·rw [k2];simp only [Aa,Ai,Ab];rw [ad1 (by omega)];refine .inl ⟨(Jy (Flash.mk o) a[i]).Blocks,rfl,?_,s2.2⟩;rw [Av hi];exact mD s1 k1
   exact absurd s2.1 k1)
  (λo hs=>⟨.inl o,by simp only [D5,AC,Ao,Aq,Ab],by
   have:=hs.2;rw [List.drop_length]at this
   rw [show g=Flash.mk o from this]⟩) (s:=f.Blocks) ⟨rfl,h⟩
 have h1':Au (λs:Int×List Block=>D5 a s.1 s.2) (0,f.Blocks)=some b:=h1;rw [h1',h2];rfl
def IS:Flash->List Bu->List Page->Flash->Prop
 |f,[],[],g=>g=f
 |f,s::ss,p::ps,g=>s.Kind=1/\gD f s.Block s.Leaf s.Text/\Fq s.Text=some (p,true)/\IS (Jy f s) ss ps g
 |_,_,_,_=>False
theorem Gk:∀{f:Flash} {ss:List Bu} {ps:List Page} {g:Flash},IS f ss ps g->Steps f ss g/\ss.length=ps.length
 |f,[],[],g,h=>⟨h,rfl⟩
 |f,s::ss,p::ps,g,h=>⟨⟨.inl ⟨h.1,h.2.1⟩,(Gk h.2.2.2).1⟩,by rw [A0,A0,(Gk h.2.2.2).2]⟩
 |f,[],p::ps,g,h=>h.elim
 |f,s::ss,[],g,h=>h.elim
theorem Yz:∀{f:Flash} {ss:List Bu} {ps:List Page} {g:Flash} {b l:Int} {t:ByteArray} {p:Page},IS f ss ps g->gD g b l t->Fq t=some (p,true)->IS f (ss++ [Bu.mk 1 b l t]) (ps++ [p]) (prog g b l (Leaf.mk 1 t))
 |f,[],[],g,b,l,t,p,h,h1,h2=>by
  have:g=f:=h;subst this;exact⟨rfl,h1,h2,by unfold Jy;rfl⟩
 |f,s::ss,q::ps,g,b,l,t,p,h,h1,h2=>⟨h.1,h.2.1,h.2.2.1,Yz h.2.2.2 h1 h2⟩
 |f,[],q::ps,g,b,l,t,p,h,h1,h2=>h.elim
 |f,s::ss,[],g,b,l,t,p,h,h1,h2=>h.elim
def C4 (ss:List Bu) (ps:List Page):List A8:=List.zipWith (λs p=>A8.mk s.Block s.Leaf p) ss ps
def Gj:Int->List Page->Prop
 |_,[]=>True
 |n,p::ps=>n<=p.Seq/\Gj (p.Seq+1) ps
theorem Y0:∀{f:Flash} {ss:List Bu} {ps:List Page} {g:Flash} {r:List A8} {n:Int},BN f->SR (Kg 0 f.Blocks) r->IS f ss ps g->(∀y∈r,y.Page.Seq<n)->Gj n ps->SR (Kg 0 g.Blocks) (r++C4 ss ps)
 |f,[],[],g,r,n,hf,a,h,hn,ha=>by
  have:g=f:=h;subst this;unfold C4;simpa using a
 |f,s::ss,p::ps,g,r,n,hf,a,h,hn,ha=>by
  obtain⟨h1,h2,h3,h4⟩:=h;obtain⟨k1,_,A,B,k2,k3,_⟩:=Pg hf h2;have c:Jy f s=prog f s.Block s.Leaf (Leaf.mk 1 s.Text):=by unfold Jy;rw [Ax h1]
  rw [c]at h4;have b:SR (Kg 0 (prog f s.Block s.Leaf (Leaf.mk 1 s.Text)).Blocks) (r++ [A8.mk s.Block s.Leaf p]):=by
   rw [k3 p (fW h3)]
   refine SR.add (by rw [<-k2];exact a) λx hx=>?_
   have:=hn x hx;have:=ha.1;show x.Page.Seq<p.Seq;omega
  have:=Y0 k1 b h4 (n:=p.Seq+1) (λy hy=>by
   rw [Aj,Aw]at hy
   rcases hy with hy|rfl
   ·have:=hn y hy;have:=ha.1;omega
   show p.Seq<p.Seq+1;omega) ha.2
  rw [Ap]at this;exact this
 |f,[],q::ps,g,r,n,hf,a,h,hn,ha=>h.elim
 |f,s::ss,[],g,r,n,hf,a,h,hn,ha=>h.elim
theorem SS:∀{f:Flash} {ss:List Bu} {ps:List Page} {g:Flash} (k:Nat),IS f ss ps g->∃m,IS f (ss.take k) (ps.take k) m
 |f,[],[],g,k,h=>⟨f,by simp [IS]⟩
 |f,s::ss,p::ps,g,0,h=>⟨f,rfl⟩
 |f,s::ss,p::ps,g,k+1,h=>by
  obtain⟨m,hm⟩:=SS k h.2.2.2;exact⟨m,h.1,h.2.1,h.2.2.1,hm⟩
 |f,[],q::ps,g,k,h=>h.elim
 |f,s::ss,[],g,k,h=>h.elim
theorem sQ (hg:BN g) (h:IS f ss ps g) (hs:ss.length<=1000) (p:Page):
  (∃s g',Hl g ss p=some (g',ss++ [s],true)/\IS f (ss++ [s]) (ps++ [p]) g'/\BN g'/\JE p/\S7 g s.Block s.Leaf)\/Hl g ss p=some (g,ss,false):=by
 by_cases hp:JE p
 ·obtain⟨t,t1,t2,t3,t4⟩:=pG hp
  rcases Xa hg ss (by omega) p t1 (λ_=>⟨t2,t3⟩)with⟨_,b,l,q1,_,q2⟩|q
  ·left;have hm:gD g b l t:=by
    obtain⟨x,a1,a2,a3,a4⟩:=q1;exact⟨x,a1,a2,a3,a4,t2,t3⟩
   exact⟨_,_,q2,Yz h hm t4,(Pg hg hm).1,hp,q1⟩
  exact .inr q
 rcases Xa hg ss (by omega) p (sV hp) (λhh=>by cases hh)with⟨hh,_⟩|q
 ·cases hh
 exact .inr q
theorem Xy (hf:BN f) (ps:List Page) (rt:Bool) (c:ps.length<=9) (a:List Page) (ss0:List Bu) (g0:Flash) (ok0:Bool) (h0:ok0=true->IS f ss0 a g0/\BN g0/\ss0.length<=1):
  ∃ss ok,Au (λs:List Bu×Bool×Int×List Block=>Ci (ps,rt) s.1 s.2.1 s.2.2.1 s.2.2.2) (ss0,ok0,0,g0.Blocks)=some (ss,ok)/\(ok=true->ok0=true/\∃g,IS f ss (a++ps) g/\BN g/\∀p∈ps,JE p):=by
 obtain⟨b,h1,h2⟩:=Bg (body:=λs:List Bu×Bool×Int×List Block=>Ci (ps,rt) s.1 s.2.1 s.2.2.1 s.2.2.2) (λ(o:List Bu×Bool×List Block) i=>(o.1,o.2.1,i,o.2.2)) ps.length
  (λi o=>o.2.1=true->ok0=true/\IS f o.1 (a++ps.take i) (Flash.mk o.2.2)/\BN (Flash.mk o.2.2)/\o.1.length<=i+1/\∀p∈ps.take i,JE p)
  (λb=>b.2=true->ok0=true/\∃g,IS f b.1 (a++ps) g/\BN g/\∀p∈ps,JE p)
  (λo i hi hs=>by
   obtain⟨ss,ok,bl⟩:=o;have hx:=Ac hi;simp only [Ci,AC,Ad hi,Ae,Aa]
   cases ok with
   |false=>
    simp only [Ab];exact .inr ⟨_,rfl,λhh=>by cases hh⟩
   |true=>
    obtain⟨k0,k1,k2,k3,k4⟩:=hs rfl;simp only at k1 k2 k3;simp only [Ae,A9,hx,Aa];refine .inl ?_
    rcases sQ k2 k1 (by omega) ps[i]with⟨s,g',q1,q2,q3,q4,_⟩|q
    ·rw [q1];simp only [Aa];rw [ad1 (by omega)];refine⟨(ss++ [s],true,g'.Blocks),rfl,λ_=>⟨k0,?_,q3,by simp;omega,λp hp=>?_⟩⟩
     ·rw [Av hi,<-Ap];exact q2
     rw [Av hi,Aj,Aw]at hp
     rcases hp with hp|rfl
     ·exact k4 p hp
     exact q4
    rw [q];simp only [Aa];rw [ad1 (by omega)]
    exact⟨(ss,false,bl),rfl,λhh=>by cases hh⟩)
  (λo hs=>⟨(o.1,o.2.1),by simp only [Ci,AC,Ao,Aq,Ab,Aa],λhh=>by
   obtain⟨k0,k1,k2,_,k4⟩:=hs hh;rw [AN]at k1 k4
   exact⟨k0,_,k1,k2,k4⟩⟩) (s:=(ss0,ok0,g0.Blocks)) (λhh=>by
    obtain⟨a1,a2,a3⟩:=h0 hh
    exact⟨hh,by rw [IN,Az];exact a1,a2,by simpa using a3,λp hp=>by simp at hp⟩)
 exact⟨b.1,b.2,h1,h2⟩
def D8 (d:Bc) (c:Int) (a:ByteArray):List Page:=if L a=[]then []else [Page.mk 1 d.Seq c 0 1 a]
def JU (d:Bc) (a:ByteArray):Int:=if L a=[]then d.Seq else d.Seq+1
theorem Ul (hf:BN d.Flash) (k:0<=d.Seq/\d.Seq<=1000000001) (b:List De) (i:b≠ []) (hr:b.length<=1000) (j:∀r∈b,Gx r=true) (a:ByteArray):
  D4 d b a=some ([],false)\/∃steps T g c,b[b.length-1]?=some c/\D4 d b a=some (steps,true)/\1<=T.length/\T.length<=9/\NW T=GX b/\(∀t∈T,(L t).length<=90)/\
   IS d.Flash steps (D8 d c.Chunk a++CH (JU d a) d.Tx T) g/\BN g/\∀p∈D8 d c.Chunk a++CH (JU d a) d.Tx T,JE p:=by
 have l:0<b.length:=Iz.2 i;obtain⟨c,h⟩:∃c,b[b.length-1]?=some c:=⟨_,Ac (by omega)⟩;unfold D4;rw [show(ln b==0)=false by rw [CR,BG];omega];simp only [Ab];have first:∃ss0 g0 ok0,(bif(!(seq a (bs [])))then(((gi b (sb (ln b) 1)).bind λx1=>(Hl d.Flash [] (Page.mk 1 d.Seq x1.Chunk 0 1 a)).bind λv1=>some (v1.2.1,v1.2.2,v1.1.Blocks):Option (List Bu×Bool×List Block)).bind λj2=>some (j2.1,(ad d.Seq 1),j2.2.1,j2.2.2))else(some ([],d.Seq,true,d.Flash.Blocks)):Option (List Bu×Int×Bool×List Block))=some (ss0,JU d a,ok0,Flash.Blocks g0)/\(ok0=true->IS d.Flash ss0 (D8 d c.Chunk a) g0/\BN g0/\ss0.length<=1/\∀p∈D8 d c.Chunk a,JE p):=by
  by_cases ht:L a=[]
  ·have:seq a (bs [])=true:=by rw [JT,A5];exact Iw (by rw [ht,DV])
   rw [this];refine⟨[],d.Flash,true,?_,λ_=>⟨?_,hf,by simp,?_⟩⟩
   ·unfold JU;rw [Ax ht];rfl
   ·unfold D8;rw [Ax ht];rfl
   unfold D8;rw [Ax ht];intro p hp;cases hp
  have:seq a (bs [])=false:=by
   rw [JT,AY];intro e;exact ht (by rw [e,DV])
  rw [this];simp only [AG,Ae];rw [BG,Cw (by omega) (by omega),show(b.length:Int)-1=((b.length-1:Nat):Int) by omega,A9,h];simp only [Aa];rw [CA (by omega) (by omega)];have e1:JU d a=d.Seq+1:=by unfold JU;rw [Ay ht]
  have e2:D8 d c.Chunk a=[Page.mk 1 d.Seq c.Chunk 0 1 a]:=by unfold D8;rw [Ay ht]
  rw [e1,e2]
  rcases sQ (f:=d.Flash) (ss:=[]) (ps:=[]) hf rfl (by simp) (Page.mk 1 d.Seq c.Chunk 0 1 a)with⟨s,g',q1,q2,q3,q4,_⟩|q
  ·rw [q1];refine⟨_,g',true,rfl,λ_=>⟨q2,q3,by simp,λp hp=>?_⟩⟩;rw [Aw]at hp;rw [hp];exact q4
  rw [q];exact⟨_,d.Flash,false,rfl,λhh=>by cases hh⟩
 obtain⟨ss0,g0,ok0,e0,h0⟩:=first
 rw [e0];simp only [Aa];obtain⟨T,t1,t2,t3,_,t4⟩:=qP (JU d a) d.Tx b hr j
 rcases t4 with⟨t4,t5,t6,t7,t8,t9⟩|⟨t4,_⟩
 ·rw [t4];simp only [Aa];obtain⟨ss,ok,q1,q2⟩:=Xy hf (CH (JU d a) d.Tx T) true (by unfold CH;rw [Jg];exact t5) (D8 d c.Chunk a) ss0 g0 ok0 (λhh=>⟨(h0 hh).1,(h0 hh).2.1,(h0 hh).2.2.1⟩);rw [q1];simp only [Aa]
  cases ok with
  |false=>exact .inl rfl
  |true=>
   obtain⟨k0,g,k1,k2,k3⟩:=q2 rfl;refine .inr ⟨ss,T,g,c,h,rfl,t1,t5,t2,t3,k1,k2,λp hp=>?_⟩
   rcases Aj.1 hp with hp|hp
   ·exact(h0 k0).2.2.2 p hp
   exact k3 p hp
 rw [t4];simp only [Aa];obtain⟨ss,ok,q1,q2⟩:=Xy hf [] false (by simp) (D8 d c.Chunk a) ss0 g0 ok0 (λhh=>⟨(h0 hh).1,(h0 hh).2.1,(h0 hh).2.2.1⟩);rw [q1];simp only [Aa];cases ok<;>exact .inl rfl
def Kh (r:List A8) (c:Int):Option A8:=(r.filter (Mh c)).getLast?
noncomputable def Ux (t:ByteArray):Option ByteArray:=match Ga t with
 |some (s,true)=>some s
 |_=>none
noncomputable def Df (r:List A8) (c:Int):Option ByteArray:=(Kh r c).bind λy=>Ux y.Page.Text
theorem QK:Mh c y=true↔y.Page.Kind=1/\y.Page.Tx=c:=by
 unfold Mh;rw [Al,Dt,Dt]
theorem TL (h:Kh r c=some y):y∈r/\y.Page.Kind=1/\y.Page.Tx=c:=by
 have:=List.mem_of_getLast? h;rw [AT,QK]at this;exact this
theorem MQ (r:List A8) (y:A8) (c:Int):Kh (r++ [y]) c=if y.Page.Kind=1/\y.Page.Tx=c then some y else Kh r c:=by
 unfold Kh;rw [AS];by_cases e:y.Page.Kind=1/\y.Page.Tx=c
 ·rw [Ax e,Cc (QK.2 e),Gl,PI]
 rw [Ay e,Cj (λhh=>e (QK.1 hh)),Gl,Az]
theorem pR (r m:List A8) (h:∀y∈m,y.Page.Kind≠1) (c:Int):Kh (r++m) c=Kh r c:=by
 unfold Kh;rw [AS,B8.2 (λy hy hh=>h y hy (QK.1 hh).1),Az]
theorem XS {α:Type} {y:α} (l:List α) (p:α->Bool) (h:l.getLast? =some y) (hp:p y=true):(l.filter p).getLast? =some y:=by
 rcases Hc l with e|⟨m,x,e⟩
 ·rw [e]at h;cases h
 rw [Hd]at e;rw [e,PI]at h
 injection h with h
 subst h;rw [e,AS,Cc hp,Gl,PI]
theorem gA (p:A8->Bool) (h:Kh r c=some y) (hp:p y=true):Kh (r.filter p) c=some y:=by
 unfold Kh at h⊢;rw [Ew];have:r.filter (λa=>Mh c a&&p a)=(r.filter (Mh c)).filter p:=by
  rw [Ew];congr 1;funext a;exact Bool.and_comm _ _
 rw [this];exact XS _ p h hp
theorem X4 {o:Option Nat} (h:gF c r r.length o):Kh r c=o.bind λj=>r[j]? :=by
 cases o with
 |none=>
  unfold Kh;have:r.filter (Mh c)=[]:=by
   rw [B8];intro y hy;obtain⟨j,hj,rfl⟩:=AI hy;have:=h j r[j] hj (Ac hj);rw [this];simp
  rw [this];rfl
 |some j=>
  obtain⟨h1,⟨y,h2,h3⟩,h4⟩:=h;simp only [Aa,h2];unfold Kh;obtain⟨e1,e2⟩:=Jr h2;rw [e1,AS,Cc h3];have:(r.drop (j+1)).filter (Mh c)=[]:=by
   rw [B8];intro z hz;obtain⟨k,hk,rfl⟩:=AI hz;rw [B7]at hk;rw [SZ];have:=h4 (j+1+k) _ (by omega) (by omega) (Ac (by omega));rw [this];simp
  rw [this,PI]
theorem j9 (hr:r.length<=1048576) (c:Int):∃y ok,Lp r c=some (y,ok)/\Kh r c=(if ok=true then some y else none):=by
 obtain⟨o,h1,h2⟩:=pQ r hr c;have h3:=X4 h2
 cases o with
 |none=>exact⟨_,false,h1,h3⟩
 |some j=>
  obtain⟨_,⟨y,k1,_⟩,_⟩:=h2;refine⟨y,true,?_,by rw [h3];simp only [Aa,k1];rfl⟩;rw [h1];simp only [yQ,k1,B6];rfl
theorem fF (hr:Gs r) (c:Int):∃u ok,Od r c=some (u,ok)/\Df r c=(if ok=true then some u else none):=by
 obtain⟨y,ok,h1,h2⟩:=j9 hr.len c;unfold Od Df;rw [h1,h2]
 cases ok with
 |false=>exact⟨_,_,rfl,rfl⟩
 |true=>
  have hy:=(TL (by rw [h2];rfl)).1;obtain⟨u,ok2,k1,_,_⟩:=Zi y.Page.Text (by have:=hr.text y hy;omega);simp only [Aa,Ai,Ab,BW];rw [k1];unfold Ux;rw [k1]
  cases ok2 with
  |false=>exact⟨_,_,rfl,rfl⟩
  |true=>exact⟨_,_,rfl,rfl⟩
structure Jj (r:List A8):Prop where
 pages:Gs r
 inc:r.Pairwise λx y=>x.Page.Seq<y.Page.Seq
 mu:iX r
def ER (l:Vs) (c:Int):Prop:=0<c/\∃p∈l,c∈p.2
structure GP (r:List A8) (P:Int->Prop):Prop where
 data:∀c,P c->∃s,Df r c=some s
 dist:∀c c',P c->P c'->Df r c=Df r c'->c=c'
theorem GP.mono {Q:Int->Prop} (h:GP r P) (hq:∀c,Q c->P c):GP r Q:=⟨λc hc=>h.data c (hq c hc),λc c' hc hc'=>h.dist c c' (hq c hc) (hq c' hc')⟩
theorem GP.congr (h:GP r P) (he:∀c,P c->Df r' c=Df r c):GP r' P:=⟨λc hc=>by rw [he c hc];exact h.data c hc,λc c' hc hc' e=>h.dist c c' hc hc' (by rw [<-he c hc,<-he c' hc'];exact e)⟩
theorem GP.metas (h:GP r P) (hm:∀y∈m,y.Page.Kind≠1):GP (r++m) P:=h.congr λc _=>by unfold Df;rw [pR r m hm]
theorem i9 (h:GP r P) (hy:¬P y.Page.Tx):GP (r++ [y]) P:=h.congr λc hc=>by
 unfold Df;rw [MQ,Ay (λhh=>hy (by rw [hh.2];exact hc))]
theorem jA (h:GP r P) (hy:Ux y.Page.Text=Df r y.Page.Tx):GP (r++ [y]) P:=h.congr λc hc=>by
 by_cases e:y.Page.Kind=1/\y.Page.Tx=c
 ·have:Df (r++ [y]) c=Ux y.Page.Text:=by unfold Df;rw [MQ,Ax e];rfl
  rw [this,hy,e.2]
 unfold Df;rw [MQ,Ay e]
theorem qV {s:ByteArray} (h:GP r P) (hk:y.Page.Kind=1) (hn:¬P y.Page.Tx) (ht:Ux y.Page.Text=some s) (hs:∀c,P c->Df r c≠some s):GP (r++ [y]) (λc=>P c\/c=y.Page.Tx):=by
 have b:Df (r++ [y]) y.Page.Tx=some s:=by unfold Df;rw [MQ,Ax ⟨hk,rfl⟩];exact ht
 have a:∀c,P c->Df (r++ [y]) c=Df r c:=λc hc=>by unfold Df;rw [MQ,Ay (λhh=>hn (by rw [hh.2];exact hc))]
 refine⟨λc hc=>?_,λc c' hc hc' e=>?_⟩
 ·rcases hc with hc|rfl
  ·rw [a c hc];exact h.data c hc
  exact⟨s,b⟩
 rcases hc with hc|rfl<;>rcases hc' with hc'|rfl
 ·exact h.dist c c' hc hc' (by rw [<-a c hc,<-a c' hc'];exact e)
 ·rw [a c hc,b]at e;exact absurd e (hs c hc)
 ·rw [a c' hc',b]at e;exact absurd e.symm (hs c' hc')
 rfl
theorem Jj.filter (h:Jj r) (p:A8->Bool):Jj (r.filter p):=by
 refine⟨⟨by have:=CM p r;have:=h.pages.len;omega,λy hy=>h.pages.text y (AT.1 hy).1,λy hy=>h.pages.seq y (AT.1 hy).1,λy hy=>h.pages.tx y (AT.1 hy).1,λy hy=>h.pages.cnt y (AT.1 hy).1,λy hy=>h.pages.part y (AT.1 hy).1⟩,h.inc.filter _,⟨λy hy z hz=>h.mu.uniq y (AT.1 hy).1 z (AT.1 hz).1⟩⟩
theorem Jj.add (h:Jj r) (hl:r.length<=1000000) (hb:JE y.Page) (hs:Dg r<=y.Page.Seq) (hm:y.Page.Kind=2->∀z∈r,z.Page.Kind=2->z.Page.Tx=y.Page.Tx->z.Page.Part≠y.Page.Part):Jj (r++ [y]):=by
 obtain⟨b1,b2,b3,b4,b5,b6,b7⟩:=hb
 have all:∀{P:A8->Prop},(∀z∈r,P z)->P y->∀z∈r++ [y],P z:=λh1 h2 z hz=>by
  rw [Aj,Aw]at hz
  rcases hz with hz|rfl
  ·exact h1 z hz
  exact h2
 refine⟨⟨by simp;omega,all h.pages.text b6,all h.pages.seq b2,all h.pages.tx b3,all h.pages.cnt b4,all h.pages.part b5⟩,?_,⟨λu hu v hv k1 k2 e1 e2=>?_⟩⟩
 ·rw [B4];refine⟨h.inc,M0 _ _,λu hu v hv=>?_⟩;rw [Aw]at hv;rw [hv];have:=(NN r).1 u hu;omega
 rw [Aj,Aw]at hu hv
 rcases hu with hu|rfl<;>rcases hv with hv|rfl
 ·exact h.mu.uniq u hu v hv k1 k2 e1 e2
 ·exact absurd e2 (hm k2 u hu k1 e1)
 ·exact absurd e2.symm (hm k1 v hv k2 e1.symm)
 rfl
theorem Z7 (h:Dg r<=y.Page.Seq):Dg (r++ [y])=y.Page.Seq+1:=by rw [Wm,Ax h]
theorem Jj.metas {t:Int} (h:Jj r) (ht:∀y∈r,y.Page.Kind=2->y.Page.Tx<t):∀(m:List A8) (k:Nat),r.length+m.length<=1000000->(∀(i:Nat) y,m[i]?=some y->y.Page.Kind=2/\y.Page.Tx=t/\y.Page.Part=i/\y.Page.Seq=Dg r+i/\JE y.Page)->k<=m.length->Jj (r++m.take k)/\Dg (r++m.take k)=Dg r+k
 |m,0,_,_,_=>by simpa using h
 |m,k+1,hl,hm,hk=>by
  obtain⟨ih1,ih2⟩:=Jj.metas h ht m k hl hm (by omega);have hx:m[k]?=some m[k]:=Ac (by omega);obtain⟨k1,k2,k3,k4,k5⟩:=hm k _ hx;rw [Av (by omega),<-Ap];refine⟨Jj.add ih1 (by simp;omega) k5 (by rw [ih2,k4];omega) (λ_ z hz a b=>?_),?_⟩
  ·rcases Aj.1 hz with hz|hz
   ·have:=ht z hz a;omega
   obtain⟨j,hj,rfl⟩:=AI hz;rw [AH]at hj;rw [JQ];obtain⟨_,_,q3,_⟩:=hm j _ (Ac (by omega));omega
  rw [Z7 (by rw [ih2,k4];omega),k4];omega
theorem nN (i:Int):∀(k:Int) (l:List Leaf),(V7 i k l).length<=l.length
 |_,[]=>A4 _
 |k,x::l=>by
  rw [V7,Ag,A0];have:=nN i (k+1) l;have:(pg i k x).length<=1:=by
   unfold pg;split
   ·split<;>simp
   simp
  omega
theorem nO:∀(i:Int) (l:List Block),(Kg i l).length<=nl l
 |_,[]=>A4 _
 |i,b::l=>by
  rw [Kg,Ag];have:=nO (i+1) l;have:=nN i 0 b.Leaves;unfold nl at*;rw [Cb,O9];omega
theorem AAQ (hf:BN f) (h:SR (Kg 0 f.Blocks) r):r.length<=40:=by
 have h1:=nO 0 f.Blocks;have h2:=hf.few;have h3:=h.2.len;omega
theorem KN:∀{ss:List Bu} {ps:List Page} {i:Nat} {y:A8},(C4 ss ps)[i]?=some y->ps[i]?=some y.Page
 |[],_,i,y,h=>by simp [C4]at h
 |s::ss,[],i,y,h=>by simp [C4]at h
 |s::ss,p::ps,0,y,h=>by
  simp only [C4,List.zipWith_cons_cons,CO,An]at h;rw [<-h];rfl
 |s::ss,p::ps,i+1,y,h=>by
  simp only [C4,List.zipWith_cons_cons,List.getElem?_cons_succ]at h⊢;exact KN h
theorem SJ (h:ss.length=ps.length):(C4 ss ps).length=ps.length:=by unfold C4;rw [List.length_zipWith];omega
theorem VE (ss:List Bu) (ps:List Page) (k:Nat):C4 (ss.take k) (ps.take k)=(C4 ss ps).take k:=by unfold C4;rw [List.take_zipWith]
theorem iH:∀(T:List ByteArray),(∀t∈T,(L t).length<=90)->(NW T).length<=90*T.length
 |[],_=>by simp [NW]
 |t::T,h=>by
  have:=iH T (λx hx=>h x (by simp [hx]));have:=h t (by simp);simp only [NW,HJ,Ag,A0]at*;omega
theorem ZU {r1:List A8} (h:Jj r1) (hl:r1.length<=1000) {a:List De} (g:1<=T.length) (j:T.length<=9) (c:∀t∈T,(L t).length<=90) (d:NW T=GX a) (l:∀r∈a,Gx r=true) (hm:∀(i:Nat) y,m[i]?=some y->(CH (Dg r1) (D9 r1) T)[i]?=some y.Page) (o:m.length=T.length) (n:∀p∈CH (Dg r1) (D9 r1) T,JE p) (k:Nat) (hk:k<=T.length):
  Jj (r1++m.take k)/\(∀y∈m.take k,y.Page.Kind≠1)/\(k<T.length->Bz (r1++m.take k)=Bz r1)/\(k=T.length->∃q,Bz (r1++m.take k)=Bz r1++ [Tx.mk (D9 r1) q a]):=by
 have e:∀(i:Nat) y,m[i]?=some y->∃t,T[i]?=some t/\y.Page=Page.mk 2 (Dg r1+i) (D9 r1) i T.length t:=by
  intro i y hy;have:=hm i y hy;unfold CH at this;rw [Kv]at this;obtain⟨t,h1,h2⟩:=AZ.1 this;exact⟨t,h1,h2.symm⟩
 have b:=WK r1
 obtain⟨c1,_⟩:=Jj.metas h b.1 m k (by omega) (λi y hy=>by
  obtain⟨t,_,h2⟩:=e i y hy;have hb:=n y.Page (A3 (hm i y hy));rw [h2]at hb⊢
  exact⟨rfl,rfl,rfl,rfl,hb⟩) (by omega)
 have hN:aU (m.take k) (D9 r1) T.length T:=by
  refine⟨by rw [AH];omega,⟨g,j⟩,rfl,λi y hy=>?_⟩;have f:=(Ah.1 hy).1;rw [AH]at f;rw [List.getElem?_take_of_lt (by omega)]at hy;obtain⟨t,h1,h2⟩:=e i y hy;rw [h2];exact⟨rfl,rfl,rfl,rfl,h1⟩
 obtain⟨g1,g2⟩:=lC r1 (λy hy=>(h.pages.tx y hy).1) b.1 b.2.1 hN;refine⟨c1,λy hy=>by rw [(hN.all hy).1];omega,λhh=>g1 (by rw [AH];omega),λhh=>g2 (by rw [AH];omega) a ?_⟩;rw [d];refine kA l ?_;have:=iH T c;rw [d]at this;omega
structure Ni (d:Bc) (r:List A8):Prop where
 dev:LR d r
 core:Jj r
 data:GP r (ER (BJ d.Store))
theorem Ni.few (h:Ni d r):r.length<=40:=AAQ h.dev.fl h.dev.sr
theorem Nb (hg:BN g) (a:SR (Kg 0 g.Blocks) r):∃d,CL g=some (d,true)/\LR d r/\d.Flash=g:=by
 obtain⟨d,r',h1,h2,h3⟩:=T5 hg;have:r'=r:=by
  have h4:=h2.sr;rw [h3]at h4;exact h4.uniq a
 subst this;exact⟨d,h1,h2,h3⟩
theorem Sp (seq tx:Int) (T:List ByteArray):Gj seq (CH seq tx T):=by
 have a:∀(l:List ByteArray) (i:Nat) (n:Int),n<=seq+i->Gj n (l.mapIdx λj t=>Page.mk 2 (seq+(i+j:Nat)) tx (i+j:Nat) T.length t):=by
  intro l
  induction l with
  |nil=>intro i n _;trivial
  |cons x l ih=>
   intro i n hn;rw [List.mapIdx_cons];refine⟨by simpa using hn,?_⟩;have:=ih (i+1) (seq+(i:Int)+1) (by omega);simp only [Gy]
   have e:(λj t=>Page.mk 2 (seq+((i+1+j:Nat):Int)) tx ((i+1+j:Nat):Int) T.length t)=λj (t:ByteArray)=>Page.mk 2 (seq+((i+(j+1):Nat):Int)) tx ((i+(j+1):Nat):Int) T.length t:=by
    funext j t;rw [show i+1+j=i+(j+1) by omega]
   rw [e]at this;exact this
 have:=a T 0 seq (by omega);unfold CH;simpa using this
theorem lK (c:Int) (a:ByteArray) (tx:Int) (T:List ByteArray):Gj d.Seq (D8 d c a++CH (JU d a) tx T):=by
 unfold D8 JU;by_cases e:L a=[]
 ·rw [Ax e,Ax e,A6];exact Sp _ _ _
 rw [Ay e,Ay e];exact⟨F7 _,Sp _ _ _⟩
theorem MO (ss:List Bu) (ps:List Page) (k:Nat):∀y∈(C4 ss ps).take k,y.Page∈ps:=by
 intro y hy;obtain⟨i,hi,rfl⟩:=AI (List.mem_of_mem_take hy);exact A3 (KN (Ac hi))
def IP (f:Flash) (n:Int):Prop:=∀b∈f.Blocks,b.Wear<=n
theorem aY {l:List Block} {x:Block} (h:∀y∈l,y.Wear<=n) (hx:x.Wear<=n):∀y∈si l b x,y.Wear<=n:=by
 intro y hy;by_cases e:0<=b
 ·obtain⟨c,rfl⟩:∃c:Nat,b=(c:Int):=⟨_,(Bm e).symm⟩;rw [Ep]at hy
  rcases Ck hy with hy|rfl
  ·exact h y hy
  exact hx
 unfold si at hy
 first
  |(rw [Ay (by omega)]at hy;exact h y hy)
  |(
   rcases Ck hy with hy|rfl
   ·exact h y hy
   exact hx)
theorem Z3 {s:Bu} {m:Int} (h:IP f n) (hm:n<=m) (hs:s.Kind=1\/n+1<=m):IP (Jy f s) m:=by
 have h0:∀y∈f.Blocks,y.Wear<=m:=λy hy=>by have:=h y hy;omega
 unfold Jy prog Tc IP;by_cases e:s.Kind=1
 ·rw [Ax e]
  cases hg:gi f.Blocks s.Block with
  |none=>exact h0
  |some x=>exact aY h0 (h0 x (A3 (Dd hg).2))
 rw [Ay e]
 cases hg:gi f.Blocks s.Block with
 |none=>exact h0
 |some x=>exact aY h0 (by have:=h x (A3 (Dd hg).2);show x.Wear+1<=m;omega)
theorem SQ:∀{f:Flash} {ss:List Bu} {ps:List Page} {g:Flash},IS f ss ps g->IP f n->IP g n
 |f,[],[],g,h,hw=>by rw [show g=f from h];exact hw
 |f,s::ss,p::ps,g,h,hw=>SQ h.2.2.2 (Z3 hw (F7 _) (.inl h.1))
 |f,[],q::ps,g,h,_=>h.elim
 |f,s::ss,[],g,h,_=>h.elim
theorem PG:∀{f:Flash} {ss:List Bu} {ps:List Page} {g:Flash},IS f ss ps g->∀s∈ss,s.Kind=1
 |f,[],[],g,h,s,hs=>by cases hs
 |f,s::ss,p::ps,g,h,x,hs=>by
  rcases BA.1 hs with rfl|hs
  ·exact h.1
  exact PG h.2.2.2 x hs
 |f,[],q::ps,g,h,_,_=>h.elim
 |f,s::ss,[],g,h,_,_=>h.elim
def WE (f g:Flash):Prop:=∀n,IP f n->IP g n
theorem Uw (h:Ni d r) {o:List De} (x:∀r∈o,Gx r=true) {a:ByteArray} {b:De} {steps:List Bu} (z:1<=T.length) (h0:T.length<=9) (h1:NW T=GX o) (w:∀t∈T,(L t).length<=90) (hp:IS d.Flash steps (D8 d b.Chunk a++CH (JU d a) d.Tx T) g) (l:∀p∈D8 d b.Chunk a++CH (JU d a) d.Tx T,JE p) (h2:L a≠ []->¬ER (BJ d.Store) b.Chunk) (k:Nat) (hk:k<=steps.length):
  ∃m d' r',Steps d.Flash (steps.take k) m/\BN m/\CL m=some (d',true)/\LR d' r'/\d'.Flash=m/\r'=r++(C4 steps (D8 d b.Chunk a++CH (JU d a) d.Tx T)).take k/\WE d.Flash m/\Jj r'/\GP r' (ER (BJ d.Store))/\
   (k<steps.length->Bz r'=Bz r)/\(k=steps.length->(∃q,Bz r'=Bz r++ [Tx.mk d.Tx q o])/\∀s,Ux a=some s->L a≠ []->(∀c,ER (BJ d.Store) c->Df r c≠some s)->GP r' (λc=>ER (BJ d.Store) c\/c=b.Chunk)):=by
 obtain⟨a8,f⟩:=Gk hp;obtain⟨m,hm⟩:=SS k hp;obtain⟨h3,_⟩:=Gk hm;have h4:=Un h.dev.fl h3;have a7:=h.few
 have h5:∀y∈r,y.Page.Seq<d.Seq:=λy hy=>by rw [h.dev.seq];exact(NN r).1 y hy
 have h6:=lK (d:=d) b.Chunk a d.Tx T;have ascT:∀(ps:List Page) (n:Int) (k:Nat),Gj n ps->Gj n (ps.take k):=by
  intro ps
  induction ps with
  |nil=>intro n k _;simp [Gj]
  |cons p ps ih=>
   intro n k ha
   cases k with
   |zero=>trivial
   |succ k=>exact⟨ha.1,ih _ k ha.2⟩
 have h7:=Y0 h.dev.fl h.dev.sr hm h5 (ascT _ _ k h6);rw [VE]at h7;obtain⟨d',u1,u2,u3⟩:=Nb h4 h7;refine⟨m,d',r++(C4 steps (D8 d b.Chunk a++CH (JU d a) d.Tx T)).take k,h3,h4,u1,u2,u3,rfl,λ_=>SQ hm,?_⟩;have v:(CH (JU d a) d.Tx T).length=T.length:=by unfold CH;rw [Jg]
 have u:=SJ f;by_cases e:L a=[]
 ·
  have e1:D8 d b.Chunk a=[]:=by unfold D8;rw [Ax e]
  have e2:JU d a=d.Seq:=by unfold JU;rw [Ax e]
  rw [e1,e2,A6]at u f l⊢;rw [e2]at v;rw [h.dev.seq,h.dev.tx]at u f l v⊢;obtain⟨a1,a2,a3,a4⟩:=ZU h.core (by omega) z h0 w h1 x (m:=C4 steps (CH (Dg r) (D9 r) T)) (λi y hy=>KN hy) (by omega) l k (by omega);exact⟨a1,h.data.metas a2,λhh=>a3 (by omega),λhh=>⟨a4 (by omega),λs _ h9=>absurd e h9⟩⟩
 have e1:D8 d b.Chunk a=[Page.mk 1 d.Seq b.Chunk 0 1 a]:=by unfold D8;rw [Ay e]
 have e2:JU d a=d.Seq+1:=by unfold JU;rw [Ay e]
 rw [e1,e2]at u f l⊢;rw [e2]at v;rw [Cm]at u f l⊢;rw [A0]at f u
 match hsteps:steps,f with
 |[],f=>simp at f
 |s0::ss,f=>
  have ef:C4 (s0::ss) (Page.mk 1 d.Seq b.Chunk 0 1 a::CH (d.Seq+1) d.Tx T)=A8.mk s0.Block s0.Leaf (Page.mk 1 d.Seq b.Chunk 0 1 a)::C4 ss (CH (d.Seq+1) d.Tx T):=rfl;rw [ef]
  cases k with
  |zero=>
   rw [IN,Az];exact⟨h.core,h.data,λ_=>rfl,λhh=>by simp at hh⟩
  |succ k=>
   rw [LC];generalize a0:A8.mk s0.Block s0.Leaf (Page.mk 1 d.Seq b.Chunk 0 1 a)=y0;have j:y0.Page=Page.mk 1 d.Seq b.Chunk 0 1 a:=by rw [<-a0]
   have c1:Jj (r++ [y0]):=Jj.add h.core (by omega) (by rw [j];exact l _ (by simp)) (by rw [j,h.dev.seq];exact F7 _) (λhh=>by rw [j]at hh;simp at hh);have g1:Bz (r++ [y0])=Bz r:=VD r (by rw [j];simp);have s1:Dg (r++ [y0])=d.Seq+1:=by rw [Z7 (by rw [j,h.dev.seq];exact F7 _),j]
   have t1:D9 (r++ [y0])=d.Tx:=by rw [Tg,Ay (by rw [j];simp),h.dev.tx]
   have h8:∀p∈CH (d.Seq+1) d.Tx T,JE p:=λp hp=>l p (by simp [hp])
   have a5:(C4 ss (CH (d.Seq+1) d.Tx T)).length=T.length:=by rw [SJ (by simp at f;omega),v]
   rw [List.append_cons];obtain⟨a1,a2,a3,a4⟩:=ZU c1 (by simp;omega) z h0 w h1 x (m:=C4 ss (CH (d.Seq+1) d.Tx T)) (by rw [s1,t1];exact λi y hy=>KN hy) a5 (by rw [s1,t1];exact h8) k (by simp at hk f;omega);have dz:GP (r++ [y0]) (ER (BJ d.Store)):=i9 h.data (by rw [j];exact h2 e);rw [g1,t1]at a4;rw [g1]at a3;have a9:ss.length=T.length:=by simp at f;omega
   refine⟨a1,dz.metas a2,λhh=>a3 (by simp at hh;omega),λhh=>⟨a4 (by simp at hh;omega),λs hs _ a6=>?_⟩⟩;have:=qV h.data (y:=y0) (s:=s) (by rw [j]) (by rw [j];exact h2 e) (by rw [j];exact hs) a6;rw [j]at this;exact this.metas a2
theorem AAJ (h:Dn s):lL s.Arena:=by unfold lL;have:=h.few;omega
theorem tI (h:Dn s) (x:Int):x∈cR s s.Vols.length↔∃p∈BJ s,x∈p.2:=by
 unfold cR BJ;rw [AN];simp only [List.mem_flatten,AJ]
 have a:∀v∈s.Vols,(Jm s.Arena v.Root).getD []=EQ s.Arena.Knots v.Root:=λv hv=>by
  rw [OZ _ (by have:=h.few;omega) h.ar (h.root _ (AJ.2 ⟨v,hv,rfl⟩))];rfl
 constructor
 ·rintro⟨l,⟨v,hv,rfl⟩,hx⟩;rw [a v hv]at hx;exact⟨_,⟨v,hv,rfl⟩,hx⟩
 rintro⟨p,⟨v,hv,rfl⟩,hx⟩;exact⟨_,⟨v,hv,rfl⟩,by rw [a v hv];exact hx⟩
theorem MH (h:Dn s):∃l,Lz s=some l/\asc l/\(∀x,x∈l↔ER (BJ s) x)/\l.length<=16777216:=by
 have:=h.len;obtain⟨l,h1,h2,h3⟩:=fO s (by omega) (AAJ h);refine⟨l,h1,h2.1,λx=>?_,h3⟩;rw [h2.2 x,tI h];unfold ER;exact And.comm
theorem Wx (h:Dn s) (hc:ER (BJ s) c):0<c/\c<s.Next:=by
 obtain⟨h0,p,hp,hx⟩:=hc;unfold BJ at hp;obtain⟨v,hv,rfl⟩:=AJ.1 hp;exact⟨h0,h.lt _ (AJ.2 ⟨v,hv,rfl⟩) c hx⟩
def Ih (r:List A8) (a:List Int) (b:Int):List Bool:=a.foldl (nX r) (r.map (FD b))
theorem R2 (r:List A8) (a:List Int) (b:Int):(Ih r a b).length=r.length:=by unfold Ih;rw [g8,Be]
theorem UM (r:List A8) (a:List Int) (b:Int) (hy:r[j]?=some y):(Ih r a b)[j]?=some (FD b y||a.any (λc=>eP c r r.length==some j)):=by
 unfold Ih;rw [gB,AQ,hy];rfl
theorem wI (h:eP c r r.length=some j):Kh r c=r[j]? :=by
 rw [X4 (WM c r r.length (A4 _)),h];rfl
theorem xO (h:Kh r c=some y):∃j,eP c r r.length=some j/\r[j]?=some y:=by
 have:=X4 (WM c r r.length (A4 _));rw [h]at this
 cases ht:eP c r r.length with
 |none=>rw [ht]at this;cases this
 |some j=>rw [ht]at this;exact⟨j,rfl,this.symm⟩
theorem oM {n:Nat} {p:Nat->Bool} (h:cn n p=0):∀j,j<n->p j=false:=by
 intro j hj;unfold cn at h;have:=List.length_eq_zero_iff.1 h;rw [B8]at this;have:=this j (GU.2 hj);simpa using this
theorem wX {a:List Int} {d b:Int} (h:cn r.length (λj=>(Ih r a d)[j]?.getD false&&bk r b j)=0):∀y∈r,y.Block=b->(y.Page.Kind=2->y.Page.Tx<d)/\∀c∈a,Kh r c≠some y:=by
 intro y hy hb;obtain⟨j,hj,rfl⟩:=AI hy;have hx:=Ac hj;have h1:=oM h j hj;rw [UM r a d hx]at h1;have h2:bk r b j=true:=by unfold bk;rw [hx];simpa using hb
 rw [h2,eI,B6,PJ]at h1;refine⟨λhk=>?_,λc hc hn=>?_⟩
 ·have:=h1.1;unfold FD at this;rw [show(r[j].Page.Kind==2)=true by simpa using hk,CC,AY]at this;omega
 
 obtain⟨i,i1,i2⟩:=xO hn;have h3:=h1.2;rw [List.any_eq_false]at h3;have h4:=h3 c hc;rw [i1]at h4;by_cases e:i=j
 ·rw [e]at h4;simp at h4
 
 have hi:=(Ah.1 i2).1;have h5:=oM h i hi;rw [UM r a d i2]at h5;have h6:bk r b i=true:=by unfold bk;rw [i2];simpa using hb
 rw [h6,eI,B6,PJ,List.any_eq_false]at h5;have:=h5.2 c hc;rw [i1]at this;simp at this
theorem Xp (h:LR d r):∃l,Mg d=some l/\l.length<=10/\∀b∈l,∃x,gi d.Flash.Blocks b=some x/\x.Bad=false/\∀y∈r,y.Block=b->(y.Page.Kind=2->y.Page.Tx<d.Base)/\∀c,ER (BJ d.Store) c->Kh r c≠some y:=by
 obtain⟨a,l1,l2,l3,l4⟩:=MH h.st;have hn:=h.fl.n;unfold Mg;rw [h.scan.s,l1];simp only [Aa];rw [Ww r a d.Base h.scan.len l4];simp only [Aa];have f:a.foldl (nX r) (r.map (FD d.Base))=Ih r a d.Base:=rfl;rw [f];obtain⟨b,q1,q2⟩:=Bg (body:=λs:List Int×Int=>FO d r (Ih r a d.Base) s.1 s.2) (λ(o:List Int) i=>(o,i)) d.Flash.Blocks.length
  (λi o=>o.length<=i/\∀b∈o,∃x,gi d.Flash.Blocks b=some x/\x.Bad=false/\∀y∈r,y.Block=b->(y.Page.Kind=2->y.Page.Tx<d.Base)/\∀c,ER (BJ d.Store) c->Kh r c≠some y)
  (λo=>o.length<=10/\∀b∈o,∃x,gi d.Flash.Blocks b=some x/\x.Bad=false/\∀y∈r,y.Block=b->(y.Page.Kind=2->y.Page.Tx<d.Base)/\∀c,ER (BJ d.Store) c->Kh r c≠some y)
  (λo i hi ho=>by
   have hx:=Ac hi;have hP:=h.fl.blk _ (AE hi);obtain⟨nbl,_,bl⟩:=uZ d.Flash.Blocks[i] (by rw [hP.four];omega);simp only [FO,AC,Ad hi,Ae,A9,hx,Aa];rw [bl,tB r _ (i:Int) h.scan.len (R2 _ _ _),ad1 (by omega)];simp only [Aa];refine .inl ?_
   cases e:d.Flash.Blocks[i].Bad with
   |true=>exact⟨o,rfl,by omega,ho.2⟩
   |false=>
    simp only [AG,Ae]
    cases k:(!(!decide (nbl<ln d.Flash.Blocks[i].Leaves)))with
    |false=>exact⟨o,rfl,by omega,ho.2⟩
    |true=>
     simp only [Ae,Aa]
     cases hz:((((cn r.length (λj=>(Ih r a d.Base)[j]?.getD false&&bk r (i:Int) j):Nat)):Int)==0)with
     |false=>exact⟨o,rfl,by omega,ho.2⟩
     |true=>
      simp only [Ae];have:=ho.1;rw [Cn (by simp;omega)];refine⟨_,rfl,by simp;omega,λb hb=>?_⟩;rw [Aj,Aw]at hb
      rcases hb with hb|rfl
      ·exact ho.2 b hb
      refine⟨_,by rw [A9];exact hx,e,λy hy g=>?_⟩;have hz':cn r.length (λj=>(Ih r a d.Base)[j]?.getD false&&bk r (i:Int) j)=0:=by
       rw [Dt]at hz;omega
      obtain⟨a1,a2⟩:=wX hz' y hy g
      exact⟨a1,λc hc=>a2 c ((l3 c).2 hc)⟩)
  (λo ho=>⟨o,by simp only [FO,AC,Ao,Aq,Ab],by omega,ho.2⟩) (s:=[]) ⟨by simp,λb hb=>by cases hb⟩
 have q1':Au (λs:List Int×Int=>FO d r (Ih r a d.Base) s.1 s.2) ([],0)=some b:=q1;rw [q1'];exact⟨b,rfl,q2⟩
theorem Jn (h:LR d r) (h':LR d' r') (e:Dc (Bz r')=Dc (Bz r)):BJ d'.Store=BJ d.Store/\d'.Store.Next=d.Store.Next/\d'.Base=d.Base:=by
 have h1:=h'.ab;rw [e,<-h.ab]at h1
 injection h1 with h1 h2
 exact⟨h1,h2,by rw [h'.base,h.base,e]⟩
theorem wD (h:Ni d r) (hb:∀y∈r,y.Block=b->(y.Page.Kind=2->y.Page.Tx<d.Base)/\∀c,ER (BJ d.Store) c->Kh r c≠some y) (hg:BN g) (hp:Kg 0 g.Blocks=(Kg 0 d.Flash.Blocks).filter λy=>y.Block !=b):
  ∃d',CL g=some (d',true)/\d'.Flash=g/\Ni d' (r.filter λy=>y.Block !=b)/\BJ d'.Store=BJ d.Store/\d'.Store.Next=d.Store.Next/\d'.Base=d.Base/\∀c,ER (BJ d.Store) c->Df (r.filter λy=>y.Block !=b) c=Df r c:=by
 have f:SR (Kg 0 g.Blocks) (r.filter λy=>y.Block !=b):=by rw [hp];exact h.dev.sr.filter _
 obtain⟨d',u1,u2,u3⟩:=Nb hg f
 have hs:=bG r h.core.pages h.core.mu (λy=>y.Block !=b) (λy hy hk ht=>by
  have:y.Block≠b:=λe=>by
   have:=(hb y hy e).1 hk;rw [h.dev.base]at this;omega
  simpa using this)
 obtain⟨e1,e2,e3⟩:=Jn h.dev u2 hs
 have ht:∀c,ER (BJ d.Store) c->Df (r.filter λy=>y.Block !=b) c=Df r c:=λc hc=>by
  obtain⟨s,a⟩:=h.data.data c hc;unfold Df at a⊢
  cases hn:Kh r c with
  |none=>rw [hn]at a;cases a
  |some y=>
   have hy:=(TL hn).1
   have:Kh (r.filter λy=>y.Block !=b) c=some y:=gA _ hn (by
    have:y.Block≠b:=λe=>(hb y hy e).2 c hc hn
    simpa using this)
   rw [this]
 refine⟨d',u1,u3,⟨u2,h.core.filter _,?_⟩,e1,e2,e3,ht⟩;rw [e1];exact h.data.congr ht
def G0 (id:Int):Nat->List Int->List De
 |_,[]=>[]
 |k,x::row=>(if x>0 then [De.mk 4 id k x]else [])++G0 id (k+1) row
def OC (p:Int×List Int):List De:=De.mk 2 p.1 0 0::G0 p.1 0 p.2
def LU (l:Vs) (nx:Int):List De:=De.mk 1 0 nx 0::l.flatMap OC
theorem Pb (id x:Int):∀(k:Nat) (a:List Int),G0 id k (a++ [x])=G0 id k a++(if x>0 then [De.mk 4 id (k+a.length:Nat) x]else [])
 |k,[]=>by simp [G0]
 |k,y::a=>by
  rw [BF,G0,Pb id x (k+1) a,G0,Ap,A0,show k+1+a.length=k+(a.length+1) by omega]
theorem V4 (id:Int):∀(k:Nat) (a:List Int),(G0 id k a).length<=a.length
 |_,[]=>A4 _
 |k,x::a=>by
  rw [G0,Ag,A0];have:=V4 id (k+1) a;split<;>simp<;>omega
theorem cH (K:Ks) (r:Int):(EQ K r).length=16:=by unfold EQ;simp
theorem g9:∀(l:Vs),(∀p∈l,p.2.length=16)->(l.flatMap OC).length<=17*l.length
 |[],_=>A4 _
 |p::l,h=>by
  have:=g9 l (λq hq=>h q (by simp [hq]));have h2:=V4 p.1 0 p.2;have h3:=h p (by simp);rw [HJ,Ag,A0];unfold OC at*;rw [A0];omega
theorem cF (h:Dn s):OY s=some (LU (BJ s) s.Next):=by
 have hl:=h.len;unfold OY;obtain⟨b,h1,h2⟩:=Bg (body:=λq:List De×Int=>H5 s q.1 q.2) (λ(o:List De) i=>(o,i)) s.Vols.length (λi o=>o=LU ((BJ s).take i) s.Next/\o.length<=1+17*i) (λo=>o=LU (BJ s) s.Next)
  (λo i hi ho=>by
   have hx:=Ac hi;have hr:=h.root _ (AJ.2 ⟨s.Vols[i],AE hi,rfl⟩);have d:=ho.2;have et:(BJ s).take (i+1)=(BJ s).take i++ [(s.Vols[i].Id,EQ s.Arena.Knots s.Vols[i].Root)]:=by
    rw [DY];unfold BJ;rw [AQ,hx];rfl
   simp only [H5,AC,Ad hi,Ae,A9,hx,Aa];rw [Cn (by simp;omega)];simp only [Aa];rw [OZ _ (by have:=h.few;omega) h.ar hr];simp only [Aa];obtain⟨u,u1,u2,u3⟩:=Bg (body:=λq:List De×Int=>H4 s (i:Int) (EQ s.Arena.Knots s.Vols[i].Root) q.1 q.2) (λ(l:List De) k=>(l,k)) (EQ s.Arena.Knots s.Vols[i].Root).length
    (λk u=>u=o++ [De.mk 2 s.Vols[i].Id 0 0]++G0 s.Vols[i].Id 0 ((EQ s.Arena.Knots s.Vols[i].Root).take k)/\u.length<=o.length+1+k) (λu=>u=o++ [De.mk 2 s.Vols[i].Id 0 0]++G0 s.Vols[i].Id 0 (EQ s.Arena.Knots s.Vols[i].Root)/\u.length<=o.length+17)
    (λu k hk hu=>by
     obtain⟨a,f⟩:=hu;have c:=Ac hk;have g:=cH s.Arena.Knots s.Vols[i].Root;have etk:=Av hk;simp only [H4,AC,Ad hk,Ae,A9,c,hx,Aa];rw [ad1 (by omega)];refine .inl ?_;by_cases e:(EQ s.Arena.Knots s.Vols[i].Root)[k]>0
     ·rw [Ad e,Ae,Cn (by simp;omega)];refine⟨_,rfl,?_,by simp;omega⟩;rw [etk,Pb,Ax e,a,AH,show 0+min k (EQ s.Arena.Knots s.Vols[i].Root).length=k by omega];simp only [Ap]
     rw [Af e,Ab];refine⟨u,rfl,?_,by omega⟩
     rw [etk,Pb,Ay e,a,Az])
    (λu hu=>⟨u,by simp only [H4,AC,Ao,Aq,Ab],by rw [hu.1,AN],by have:=cH s.Arena.Knots s.Vols[i].Root;have:=hu.2;omega⟩) (s:=o++ [De.mk 2 s.Vols[i].Id 0 0]) ⟨by simp [G0],by simp⟩
   have u1':Au (λq:List De×Int=>H4 s (i:Int) (EQ s.Arena.Knots s.Vols[i].Root) q.1 q.2) (o++ [De.mk 2 s.Vols[i].Id 0 0],0)=some u:=u1;rw [u1'];simp only [Aa];rw [ad1 (by omega)];refine .inl ⟨u,rfl,?_,by omega⟩;rw [et,u2,ho.1];unfold LU;rw [Qa]
   simp [OC])
  (λo ho=>⟨o,by simp only [H5,AC,Ao,Aq,Ab],by rw [ho.1,AO (by rw [Ng];exact A4 _)]⟩) (s:=[De.mk 1 0 s.Next 0]) ⟨rfl,by simp⟩
 have h1':Au (λq:List De×Int=>H5 s q.1 q.2) ([De.mk 1 0 s.Next 0],0)=some b:=h1;rw [h1',h2];rfl
structure VsP (l:Vs) (nx:Int):Prop where
 len:l.length<=3
 nxt:1<=nx/\nx<=1000000000
 ids:∀p∈l,1<=p.1/\p.1<=9
 asc:l.Pairwise λp q=>p.1<q.1
 row:∀p∈l,p.2.length=16
 num:∀p∈l,∀x∈p.2,0<=x/\x<nx
theorem iF {K:Ks} {r:Int} (hK:Da K=true) (hr:DG K r=true):∀x∈EQ K r,0<=x:=by
 intro x hx;unfold EQ at hx;obtain⟨s,hs,rfl⟩:=AJ.1 hx;rw [GU]at hs;unfold PR
 rcases Ch hr with e|⟨h0,h1,hl⟩
 ·rw [Ax (by omega)];omega
 rw [Ay (by omega)]
 rcases Ge hK h0 h1 hl (show s/4<4 by omega)with k1|⟨k1,k2,k3⟩
 ·rw [Ax (by omega)];omega
 rw [Ay (by omega)];exact tW hK k1 (by omega) k3 (by omega)
theorem Dn.vs (h:Dn s):VsP (BJ s) s.Next:=by
 have mem:∀p∈BJ s,∃v∈s.Vols,p=(v.Id,EQ s.Arena.Knots v.Root):=λp hp=>by
  obtain⟨v,hv,rfl⟩:=AJ.1 hp;exact⟨v,hv,rfl⟩
 refine⟨by rw [Ng];exact h.len,h.nx,λp hp=>?_,?_,λp hp=>?_,λp hp x hx=>?_⟩
 ·obtain⟨v,hv,rfl⟩:=mem p hp;exact h.ids v hv
 ·have:=h.asc;unfold BJ;rw [JP]at this⊢;exact this
 ·obtain⟨v,hv,rfl⟩:=mem p hp;exact cH _ _
 obtain⟨v,hv,rfl⟩:=mem p hp;have hm:v.Root∈BB s:=AJ.2 ⟨v,hv,rfl⟩;exact⟨iF h.ar (h.root _ hm) x hx,h.lt _ hm x hx⟩
theorem Sl {P:Vs} {id:Int} (h:∀p∈P,p.1<id) (Q:Vs):Kn (P++Q) id=Kn Q id:=by
 unfold Kn;rw [List.find?_append,Fl.2 (λp hp hh=>by have:=h p hp;simp at hh;omega),Option.none_or]
theorem sJ {id k x:Int} (h1:1<=id/\id<=9) (h2:0<=k/\k<16) (h3:1<=x/\x<=1000000000):Gx (De.mk 4 id k x)=true:=by
 unfold Gx;simp;omega
theorem AAq {id a:Int} (h1:1<=id/\id<=9) (h2:0<=a/\a<=9):Gx (De.mk 2 id a 0)=true:=by
 unfold Gx;simp;omega
theorem o5 {P:Vs} {id:Int} {a:List Int} (h:∀p∈P,p.1<id) (k:Nat) (x:Int):jT (P++ [(id,a)]) id k x=P++ [(id,a.set k x)]:=by
 unfold jT;rw [Cq];congr 1
 ·conv=>rhs;rw [<-SY P]
  apply CS;intro p hp;have:=h p hp;rw [Ay (by omega)];rfl
 simp
theorem fU {P:Vs} {id nx:Int} (hP:∀p∈P,p.1<id) (a:1<=id/\id<=9) (c:nx<=1000000000):∀(todo done:List Int),done.length+todo.length=16->(∀x∈todo,0<=x/\x<nx)->CV (P++ [(id,done++List.replicate todo.length 0)]) nx (G0 id done.length todo)=some (P++ [(id,done++todo)],nx)
 |[],done,hl,hx=>by simp [G0,CV]
 |x::todo,done,hl,hx=>by
  have h1:=hx x (by simp);rw [A0]at hl;have ih:=fU hP a c todo (done++ [x]) (by simp;omega) (λy hy=>hx y (by simp [hy]));rw [Ag,Ak]at ih;rw [G0];have b:(done++List.replicate (todo.length+1) 0).set done.length x=done++ [x]++List.replicate todo.length 0:=by
   rw [Gt,List.set_append_right _ _ (A4 _),Rk,DQ,Ap];rfl
  by_cases e:x>0
  ·rw [Ax e,Cm,EI];have d:D7 (P++ [(id,done++List.replicate (x::todo).length 0)]) nx (De.mk 4 id done.length x)=some (P++ [(id,done++ [x]++List.replicate todo.length 0)],nx):=by
    unfold D7;rw [sJ a (by omega) (by omega)];simp only [Jk,Gp,show¬((4:Int)=1) by omega,show¬((4:Int)=2) by omega,show¬((4:Int)=3) by omega];have hg:Kn (P++ [(id,done++List.replicate (x::todo).length 0)]) id≠none:=by
     rw [Sl hP];simp [Kn]
    rw [Ay (by
     rintro(hh|hh)
     ·exact hg hh
     omega)]
    rw [o5 hP,Ba,A0,b,show max nx (x+1)=nx by omega]
   rw [d];simp only [Aa];rw [ih,Ap];rfl
  rw [Ay e,A6];have e0:x=0:=by omega
  have:done++List.replicate (x::todo).length 0=done++ [x]++List.replicate todo.length 0:=by
   rw [e0,A0,Gt,Ap];rfl
  rw [this,ih,Ap];rfl
theorem qA {P:Vs} {id:Int} {a:List Int} (h:∀p∈P,p.1<id):kV P id a=P++ [(id,a)]:=by
 unfold kV;rw [Gu.2 (λp hp=>by simpa using h p hp),B8.2 (λp hp=>by have:=h p hp;simp;omega),Az]
theorem Zq (d:nx<=1000000000):∀(l P:Vs),(P++l).length<=3->(P++l).Pairwise (λp q=>p.1<q.1)->(∀p∈l,(1<=p.1/\p.1<=9)/\p.2.length=16/\∀x∈p.2,0<=x/\x<nx)->CV P nx (l.flatMap OC)=some (P++l,nx)
 |[],P,_,_,_=>by simp [CV]
 |p::l,P,b,a,hall=>by
  obtain⟨h1,h2,h3⟩:=hall p (by simp)
  have c:∀q∈P,q.1<p.1:=λq hq=>by
   rw [B4]at a;exact a.2.2 q hq p (by simp)
  rw [HJ,Lj];unfold OC;rw [EI];have f:D7 P nx (De.mk 2 p.1 0 0)=some (P++ [(p.1,Qc)],nx):=by
   unfold D7;rw [AAq h1 (by omega)];simp only [Jk,Gp,BW,show¬((2:Int)=1) by omega];have hg:Kn P p.1=none:=by
    have:=Sl c [];rw [Az]at this;rw [this];rfl
   rw [Ay (by
    rintro(hh|hh|hh)
    ·omega
    ·exact hh hg
    simp at b;omega)]
   rw [Ay (by omega),qA c]
  rw [f];simp only [Aa];have hz:Qc=[]++List.replicate p.2.length 0:=by rw [h2];rfl
  have e:=fU c h1 d p.2 [] (by simpa using h2) h3;rw [<-hz,Bn,A6]at e;rw [e];simp only [Aa];have hP:P++ [(p.1,p.2)]=P++ [p]:=rfl;have:=Zq d l (P++ [p]) (by rw [Ap];exact b) (by rw [Ap];exact a) (λq hq=>hall q (by simp [hq]));rw [hP];rw [show(l.flatMap λp=>De.mk 2 p.1 0 0::G0 p.1 0 p.2)=l.flatMap OC from rfl,this,Ap];rfl
theorem aO (h:VsP l nx) (l0:Vs) (n0:Int):CV l0 n0 (LU l nx)=some (l,nx):=by
 unfold LU;rw [EI];have a:D7 l0 n0 (De.mk 1 0 nx 0)=some ([],nx):=by
  unfold D7;have hb:Gx (De.mk 1 0 nx 0)=true:=by
   have:=h.nxt;unfold Gx;simp;omega
  rw [hb];simp only [Jk,Gp,BW];have:=h.nxt;rw [Ay (by omega)]
 rw [a];simp only [Aa];have:=Zq h.nxt.2 l [] (by simpa using h.len) (by simpa using h.asc) (λp hp=>⟨h.ids p hp,h.row p hp,h.num p hp⟩);rw [A6]at this;exact this
theorem qN (h:VsP l nx):(∀r∈LU l nx,Gx r=true)/\(LU l nx).length<=1000:=by
 refine⟨λr hr=>?_,?_⟩
 ·
  cases hb:Gx r with
  |true=>rfl
  |false=>
   exfalso;obtain⟨i,hi,rfl⟩:=AI hr;have h1:=aO h [] 1;obtain⟨e1,e2⟩:=Jr (Ac hi);rw [e1,Lj]at h1
   cases hq:CV [] 1 ((LU l nx).take i)with
   |none=>rw [hq]at h1;cases h1
   |some q=>
    rw [hq]at h1;simp only [Aa]at h1;rw [EI]at h1;have:D7 q.1 q.2 (LU l nx)[i]=none:=by unfold D7;rw [Ax hb]
    rw [this]at h1;cases h1
 unfold LU;rw [A0];have:=g9 l h.row;have:=h.len;omega
structure ACk (d d':Bc):Prop where
 ab:BJ d'.Store=BJ d.Store
 nx:d'.Store.Next=d.Store.Next
theorem OO (h:LR d r) {steps:List Bu} (hs:Steps d.Flash steps g) (hl:steps.length<=1048576) (hm:CL g=some (d',true)):Hg d steps=some d':=by
 unfold Hg;rw [Qv h.fl hs hl];simp only [Aa];rw [hm];rfl
theorem Uk:∀{n:Int} {ps:List Page} {p:Page},Gj n ps->(∀q∈ps,q.Seq<p.Seq)->n<=p.Seq->Gj n (ps++ [p])
 |n,[],p,_,_,h=>⟨h,trivial⟩
 |n,q::ps,p,ha,hq,h=>⟨ha.1,Uk ha.2 (λx hx=>hq x (by simp [hx])) (by have:=hq q (by simp);omega)⟩
def kO (d:Bc) (r:List A8) (p:Page):Prop:=p.Kind=1/\ER (BJ d.Store) p.Tx/\∃y,Kh r p.Tx=some y/\p.Text=y.Page.Text
theorem kM (h:LR d r) {a:List Int} (hl:∀x,x∈a↔ER (BJ d.Store) x) (hy:r[j]?=some y) (hn:(Ih r a 1000000001)[j]?=some true):y.Page.Kind=1/\ER (BJ d.Store) y.Page.Tx/\Kh r y.Page.Tx=some y:=by
 rw [UM r a _ hy]at hn
 injection hn with hn
 have b:=h.pages;have ht:=b.tx y (A3 hy);have:FD 1000000001 y=false:=by
  unfold FD;rw [Af (by omega),Bool.and_false]
 rw [this,Uu,CW]at hn;obtain⟨c,hc,e⟩:=hn;have f:eP c r r.length=some j:=by simpa using e
 have h1:=wI f;rw [hy]at h1;obtain⟨_,k1,k2⟩:=TL h1;rw [k2];exact⟨k1,(hl c).1 hc,h1⟩
theorem YQ (h:LR d r) (m:r.length<=40) (b:Int):Lv d b=some ([],false)\/∃steps ps g,Lv d b=some (steps,true)/\IS d.Flash steps ps g/\BN g/\Gj d.Seq ps/\steps.length<=160/\(∀p∈ps,kO d r p/\JE p)/\∀p∈ps,p.Seq<d.Seq+160:=by
 obtain⟨a,l1,l2,l3,l4⟩:=MH h.st;have t:1<=d.Seq/\d.Seq<=1000000001:=by
  rw [h.seq];have h1:=NN r;refine⟨h1.2.1,h1.2.2 _ (by omega) (λy hy=>?_)⟩;have:=(h.pages.seq y hy).2;omega
 unfold Lv;rw [h.scan.s,l1];simp only [Aa];rw [Ww r a _ h.scan.len l4];simp only [Aa];have f:a.foldl (nX r) (r.map (FD 1000000001))=Ih r a 1000000001:=rfl;rw [f]
 let I:Nat->(List Bu×Int×List Block)->Prop:=λn o=>∃ps,IS d.Flash o.1 ps (Flash.mk o.2.2)/\BN (Flash.mk o.2.2)/\Gj d.Seq ps/\(∀p∈ps,p.Seq<o.2.1)/\d.Seq<=o.2.1/\o.2.1<=d.Seq+n/\o.1.length<=n/\∀p∈ps,kO d r p/\JE p
 have I0:I (40*0) ([],d.Seq,d.Flash.Blocks):=by
  refine⟨[],rfl,h.fl,trivial,?_,?_,?_,?_,?_⟩
  ·intro p hp;cases hp
  ·exact F7 _
  ·show d.Seq<=d.Seq+((40*0:Nat):Int);omega
  ·exact A4 _
  intro p hp;cases hp
 obtain⟨c,h1,h2⟩:=Bg (body:=λs:List Bu×Int×Int×List Block=>GE b r (Ih r a 1000000001) s.1 s.2.1 s.2.2.1 s.2.2.2) (λ(o:List Bu×Int×List Block) i=>(o.1,o.2.1,i,o.2.2)) 4
  (λi o=>I (40*i) o) (λc=>c= .inr ([],false)\/∃steps sq bl,c= .inl steps/\I 160 (steps,sq,bl))
  (λo i hi ho=>by
   simp only [GE];rw [Ad (by omega:(i:Int)<4),Ae];obtain⟨q,q1,q2⟩:=Bg (body:=λs:List Bu×Int×Int×List Block=>GD b r (Ih r a 1000000001) (i:Int) s.1 s.2.1 s.2.2.1 s.2.2.2) (λ(o:List Bu×Int×List Block) j=>(o.1,o.2.1,j,o.2.2)) r.length
    (λj o=>I (40*i+j) o) (λq=>q= .inr (.inr (.inr ([],false)))\/∃o,q= .inl o/\I (40*i+40) o)
    (λo j hj hs=>by
     obtain⟨ss,sq,bl⟩:=o;obtain⟨ps,p1,p2,p3,p4,p5,p6,p7,p8⟩:=hs;simp only at p1 p2 p4 p5 p6 p7;have hx:=Ac hj;have k:j<(Ih r a 1000000001).length:=by rw [R2];exact hj
     have e:=Ac k;simp only [GD,AC,Ad hj,Ae,A9,hx,e,Aa];rw [ad1 (by omega)];have skip:I (40*i+(j+1)) (ss,sq,bl):=⟨ps,p1,p2,p3,p4,p5,by show sq<=_;omega,by show ss.length<=_;omega,p8⟩
     cases l:(Ih r a 1000000001)[j]with
     |false=>
      simp only [AG,Ae,Aa];exact .inl ⟨(ss,sq,bl),rfl,skip⟩
     |true=>
      simp only [Ai,Ab]
      cases hb:(r[j].Block !=b)with
      |true=>
       simp only [Ae,Aa];exact .inl ⟨(ss,sq,bl),rfl,skip⟩
      |false=>
       simp only [Ab,Aa]
       cases u:(r[j].Leaf !=(i:Int))with
       |true=>
        simp only [Ae,Aa];exact .inl ⟨(ss,sq,bl),rfl,skip⟩
       |false=>
        simp only [Ab,Aa];obtain⟨m1,m2,m3⟩:=kM h l3 hx (by rw [e,l])
        rcases sQ p2 p1 (by omega) (Page.mk r[j].Page.Kind sq r[j].Page.Tx r[j].Page.Part r[j].Page.Count r[j].Page.Text)with⟨s,g',w1,w2,w3,w4,_⟩|w
        ·rw [w1];simp only [Aa,Ai,Ab];rw [BG,Ag,Ak,Cw (by omega) (by omega),show((ss.length+1:Nat):Int)-1=(ss.length:Int) by omega,Ha];simp only [Aa]
         cases v:(s.Block==b)with
         |true=>exact .inr ⟨_,rfl,.inl rfl⟩
         |false=>
          simp only [Ab];rw [CA (by omega) (by omega)];refine .inl ⟨(ss++ [s],sq+1,g'.Blocks),rfl,_,w2,w3,Uk p3 (λq hq=>p4 q hq) p5,λp hp=>?_,by show d.Seq<=sq+1;omega,by show sq+1<=_;omega,by simp;omega,λp hp=>?_⟩
          ·rw [Aj,Aw]at hp;show p.Seq<sq+1
           rcases hp with hp|rfl
           ·have:=p4 p hp;omega
           show sq<sq+1;omega
          rw [Aj,Aw]at hp
          rcases hp with hp|rfl
          ·exact p8 p hp
          exact⟨⟨m1,m2,_,m3,rfl⟩,w4⟩
        rw [w]
        exact .inr ⟨_,rfl,.inl rfl⟩)
    (λo hs=>⟨.inl (o.1,o.2.1,o.2.2),by simp only [GD,AC,Ao,Aq,Ab],.inr ⟨o,rfl,by
     obtain⟨ps,p1,p2,p3,p4,p5,p6,p7,p8⟩:=hs
     exact⟨ps,p1,p2,p3,p4,p5,by omega,by omega,p8⟩⟩⟩) (s:=o) (by
      obtain⟨ps,p1,p2,p3,p4,p5,p6,p7,p8⟩:=ho
      exact⟨ps,p1,p2,p3,p4,p5,by omega,by omega,p8⟩)
   have q1':Au (λs:List Bu×Int×Int×List Block=>GD b r (Ih r a 1000000001) (i:Int) s.1 s.2.1 s.2.2.1 s.2.2.2) (o.1,o.2.1,0,o.2.2)=some q:=q1;rw [q1']
   rcases q2 with rfl|⟨o',rfl,q2⟩
   ·exact .inr ⟨_,rfl,.inl rfl⟩
   simp only [Aa,By];rw [ad1 (by omega)]
   exact .inl ⟨o',rfl,by
    obtain⟨ps,p1,p2,p3,p4,p5,p6,p7,p8⟩:=q2
    exact⟨ps,p1,p2,p3,p4,p5,by omega,by omega,p8⟩⟩)
  (λo ho=>⟨.inl o.1,by simp only [GE];rw [Af (by omega:¬((4:Nat):Int)<4),Ab],.inr ⟨o.1,o.2.1,o.2.2,rfl,ho⟩⟩) (s:=([],d.Seq,d.Flash.Blocks)) I0
 have h1':Au (λs:List Bu×Int×Int×List Block=>GE b r (Ih r a 1000000001) s.1 s.2.1 s.2.2.1 s.2.2.2) ([],d.Seq,0,d.Flash.Blocks)=some c:=h1;rw [h1']
 rcases h2 with rfl|⟨steps,sq,bl,rfl,ps,p1,p2,p3,p4,p5,p6,p7,p8⟩
 ·exact .inl rfl
 exact .inr ⟨steps,ps,_,rfl,p1,p2,p3,p7,p8,λp hp=>by have h1:p.Seq<sq:=p4 p hp;have h2:sq<=d.Seq+((160:Nat):Int):=p6;omega⟩
theorem tO (h:Ni d r) {steps:List Bu} (hp:IS d.Flash steps ps g) (ha:Gj d.Seq ps) (hl:steps.length<=160) (hm:∀p∈ps,kO d r p/\JE p) (k:Nat):
  ∃m d',Steps d.Flash (steps.take k) m/\BN m/\CL m=some (d',true)/\d'.Flash=m/\Ni d' (r++(C4 steps ps).take k)/\ACk d d'/\d'.Base=d.Base/\WE d.Flash m/\∀c,ER (BJ d.Store) c->Df (r++(C4 steps ps).take k) c=Df r c:=by
 have f:=(Gk hp).2;have w:=h.few
 have b:∀y∈r,y.Page.Seq<d.Seq:=λy hy=>by rw [h.dev.seq];exact(NN r).1 y hy
 obtain⟨m,a⟩:=SS k hp;have l:=Un h.dev.fl (Gk a).1;have ascT:∀(ps:List Page) (n:Int) (k:Nat),Gj n ps->Gj n (ps.take k):=by
  intro ps
  induction ps with
  |nil=>intro n k _;simp [Gj]
  |cons p ps ih=>
   intro n k ha
   cases k with
   |zero=>trivial
   |succ k=>exact⟨ha.1,ih _ k ha.2⟩
 have o:=Y0 h.dev.fl h.dev.sr a b (ascT _ _ k ha);rw [VE]at o;obtain⟨d',u1,u2,u3⟩:=Nb l o;have h0:=SJ f;have ascG:∀(ps:List Page) (n:Int) (i:Nat) (p:Page),Gj n ps->ps[i]?=some p->n<=p.Seq/\∀j q,j<i->ps[j]?=some q->q.Seq<p.Seq:=by
  intro ps
  induction ps with
  |nil=>intro n i p _ hp;simp at hp
  |cons x ps ih=>
   intro n i p ha hp
   cases i with
   |zero=>
    simp only [CO,An]at hp;rw [<-hp];exact⟨ha.1,λj q hj=>by omega⟩
   |succ i=>
    obtain⟨i1,i2⟩:=ih _ i p ha.2 (by simpa using hp);have:=ha.1;refine⟨by omega,λj q hj hq=>?_⟩
    cases j with
    |zero=>
     simp only [CO,An]at hq;rw [<-hq];omega
    |succ j=>exact i2 j q (by omega) (by simpa using hq)
 have main:∀n,n<=(C4 steps ps).length->Jj (r++(C4 steps ps).take n)/\GP (r++(C4 steps ps).take n) (ER (BJ d.Store))/\Bz (r++(C4 steps ps).take n)=Bz r/\∀c,ER (BJ d.Store) c->Df (r++(C4 steps ps).take n) c=Df r c:=by
  intro n
  induction n with
  |zero=>intro _;rw [IN,Az];exact⟨h.core,h.data,rfl,λ_ _=>rfl⟩
  |succ n ih=>
   intro hn;obtain⟨i1,i2,i3,i4⟩:=ih (by omega);have hx:(C4 steps ps)[n]?=some (C4 steps ps)[n]:=Ac (by omega);have s:=KN hx;obtain⟨⟨m1,m2,y,m3,m4⟩,m5⟩:=hm _ (A3 s);obtain⟨a1,a2⟩:=ascG ps d.Seq n _ ha s;rw [Av (by omega),<-Ap];have t:Ux (C4 steps ps)[n].Page.Text=Df r (C4 steps ps)[n].Page.Tx:=by unfold Df;rw [m3,m4];rfl
   have u:Dg (r++(C4 steps ps).take n)<=(C4 steps ps)[n].Page.Seq:=by
    refine(NN _).2.2 _ (m5.2.1.1) (λz hz=>?_)
    rcases Aj.1 hz with hz|hz
    ·have:=b z hz;omega
    obtain⟨j,hj,rfl⟩:=AI hz;rw [AH]at hj;rw [JQ];exact a2 j _ (by omega) (KN (Ac (by omega)))
   refine⟨Jj.add i1 (by simp;omega) m5 u (λhh=>by omega),jA i2 (by rw [t,i4 _ m2]),by rw [VD _ (by omega),i3],λc hc=>?_⟩;by_cases e:(C4 steps ps)[n].Page.Kind=1/\(C4 steps ps)[n].Page.Tx=c
   ·have:Df (r++(C4 steps ps).take n++ [(C4 steps ps)[n]]) c=Ux (C4 steps ps)[n].Page.Text:=by unfold Df;rw [MQ,Ax e];rfl
    rw [this,t,e.2]
   rw [<-i4 c hc];unfold Df;rw [MQ,Ay e]
 have v:Jj (r++(C4 steps ps).take k)/\GP (r++(C4 steps ps).take k) (ER (BJ d.Store))/\Bz (r++(C4 steps ps).take k)=Bz r/\∀c,ER (BJ d.Store) c->Df (r++(C4 steps ps).take k) c=Df r c:=by
  by_cases e:k<=(C4 steps ps).length
  ·exact main k e
  have:=main _ (A4 _);rw [AN]at this;rw [AO (by omega)];exact this
 obtain⟨k1,k2,k3,k4⟩:=v;obtain⟨e1,e2,e3⟩:=Jn h.dev u2 (by rw [k3]);exact⟨m,d',(Gk a).1,l,u1,u3,⟨u2,k1,by rw [e1];exact k2⟩,⟨e1,e2⟩,e3,λ_=>SQ a,k4⟩
theorem Y4 (h:LR d r) {a:List Int} (hl:a.length<=16777216) (t:ByteArray):∃v,OT d.Flash a t=some v/\((v=0/\∀c∈a,Df r c≠some t)\/(v∈a/\Df r v=some t)):=by
 have hr:=h.pages;unfold OT U8;rw [h.scan.s];simp only [Aa];obtain⟨b,h1,h2⟩:=Bg (body:=λs:Int=>I2 r a t s) (λ(_:Unit) i=>i) a.length (λi _=>∀c∈a.take i,Df r c≠some t) (λb=>(b= .inl ()/\∀c∈a,Df r c≠some t)\/∃v,b= .inr v/\v∈a/\Df r v=some t)
  (λ_ i hi hs=>by
   have hx:=Ac hi;simp only [I2,AC,Ad hi,Ae,A9,hx,Aa];obtain⟨u,ok,k1,k2⟩:=fF hr a[i];rw [k1];simp only [Aa];rw [ad1 (by omega)]
   have no:Df r a[i]≠some t->∀c∈a.take (i+1),Df r c≠some t:=λg c hc=>by
    rw [Av hi,Aj,Aw]at hc
    rcases hc with hc|rfl
    ·exact hs c hc
    exact g
   cases ok with
   |false=>
    simp only [Ab,Aa];exact .inl ⟨(),by first|rfl|trivial,no (by rw [k2];simp)⟩
   |true=>
    simp only [Ae,Aa];rw [Ax rfl]at k2
    cases f:seq u t with
    |true=>
     rw [JT,A5]at f;exact .inr ⟨_,rfl,.inr ⟨_,rfl,AE hi,by rw [k2,f]⟩⟩
    |false=>
     rw [JT,AY]at f;refine .inl ⟨(),rfl,no ?_⟩;rw [k2];intro e
     injection e with e
     exact f e)
  (λ_ hs=>⟨_,by simp only [I2,AC,Ao,Aq,Ab],.inl ⟨rfl,by rw [AN]at hs;exact hs⟩⟩) (s:=()) (by simp)
 have h1':Au (λs:Int=>I2 r a t s) 0=some b:=h1;rw [h1']
 rcases h2 with⟨rfl,h2⟩|⟨v,rfl,h2⟩
 ·exact⟨0,rfl,.inl ⟨rfl,h2⟩⟩
 exact⟨v,rfl,.inr h2⟩
structure ABJ (q:Y7):Prop where
 kind:1<=q.Kind/\q.Kind<=6
 vol:1<=q.Vol/\q.Vol<=9
 text:(L q.Text).length<=64
 sec:0<=q.Sector/\q.Sector<=15
 of_:0<=q.Of/\q.Of<=9
 cl:q.Kind=4->1<=q.Of
 no:q.Kind≠4->q.Of=0
 tx:q.Kind≠1->L q.Text=[]
theorem UD (q:Y7):∃v,Wr q=some v/\(v=true->ABJ q):=by
 unfold Wr;simp only [E4,Aa];by_cases h1:1<=q.Kind/\q.Kind<=6
 ·rw [Ad h1];by_cases h2:1<=q.Vol/\q.Vol<=9
  ·rw [Ad h2];by_cases h3:Fz q.Text>64
   ·rw [Ad h3];exact⟨_,rfl,by simp⟩
   rw [Af h3];rw [BH]at h3;simp only [Ai,Ab];have ht:(bif(q.Kind !=1)then(some (!(seq q.Text (bs []))))else(some false):Option Bool)=some (decide (q.Kind≠1/\L q.Text≠ [])):=by
    by_cases e:q.Kind=1
    ·rw [show(q.Kind !=1)=false by simp [e],Af (λhh=>hh.1 e)];rfl
    rw [show(q.Kind !=1)=true by simpa using e,Qm,DV];by_cases e2:L q.Text=[]
    ·rw [Ad e2,Af (λhh=>hh.2 e2)];rfl
    rw [Af e2,Ad (show q.Kind≠1/\L q.Text≠ []from⟨e,e2⟩)];rfl
   rw [ht];simp only [Aa];by_cases h4:q.Kind≠1/\L q.Text≠ []
   ·rw [Ad h4];exact⟨_,rfl,by simp⟩
   rw [Af h4];simp only [Ab]
   have a:q.Kind≠1->L q.Text=[]:=λhk=>Classical.byContradiction λhh=>h4 ⟨hk,hh⟩
   by_cases h5:q.Kind=4
   ·rw [show(q.Kind==4)=true by simpa using h5];simp only [Ae];by_cases h6:q.Sector=0
    ·rw [show(q.Sector==0)=true by simpa using h6];refine⟨_,rfl,λhh=>?_⟩;rw [A5]at hh;exact⟨h1,h2,by omega,by omega,by omega,λ_=>hh.1,λhk=>absurd h5 hk,a⟩
    rw [show(q.Sector==0)=false by simpa using h6];exact⟨_,rfl,by simp⟩
   rw [show(q.Kind==4)=false by simpa using h5];simp only [Ab];by_cases h6:q.Of=0
   ·rw [show(q.Of !=0)=false by simp [h6]];simp only [Ab];by_cases h7:q.Kind=3\/q.Kind=5
    ·have:(bif(q.Kind==3)then(some true)else(some (q.Kind==5)):Option Bool)=some true:=by
      rcases h7 with e|e<;>rw [e]<;>rfl
     rw [this];refine⟨_,rfl,λhh=>?_⟩;rw [Dt]at hh;exact⟨h1,h2,by omega,by omega,by omega,λhk=>absurd hk h5,λ_=>h6,a⟩
    have:(bif(q.Kind==3)then(some true)else(some (q.Kind==5)):Option Bool)=some false:=by
     rw [show(q.Kind==3)=false by rw [CR];omega,show(q.Kind==5)=false by rw [CR];omega];rfl
    rw [this];refine⟨_,rfl,λhh=>?_⟩;rw [A5]at hh;exact⟨h1,h2,by omega,hh,by omega,λhk=>absurd hk h5,λ_=>h6,a⟩
   rw [show(q.Of !=0)=true by simpa using h6];exact⟨_,rfl,by simp⟩
  rw [Af h2];exact⟨_,rfl,by simp⟩
 rw [Af h1];exact⟨_,rfl,by simp⟩
def zP (d:Bc) (r:List A8) (q:Y7) (x:De) (a:ByteArray):Prop:=Gx x=true/\x.Kind≠1/\x.Vol=q.Vol/\((L a=[]/\(x.Kind=4->ER (BJ d.Store) x.Chunk/\Df r x.Chunk=some q.Text))\/(x.Kind=4/\x.Chunk=d.Store.Next/\L a≠ []/\Ux a=some q.Text/\∀c,ER (BJ d.Store) c->Df r c≠some q.Text))
theorem Y1 (h:LR d r) (q:Y7):∃a text no,IY d q=some (a,text,no)/\((a=[]/\text=bs [])\/(no=0/\∃x,a=[x]/\zP d r q x text))/\(no≠0->a=[]):=by
 have j:=h.st.len;have b:=h.st.nx;obtain⟨v,a1,a2⟩:=UD q;unfold IY;rw [a1];simp only [Aa]
 cases v with
 |false=>exact⟨_,_,_,rfl,.inl ⟨rfl,rfl⟩,λ_=>rfl⟩
 |true=>
  have hq:=a2 rfl;simp only [Ai,Ab];have g:=hq.kind;obtain⟨w,hw⟩:∃w,Eb d.Store q.Vol=some w:=by
   rcases Fp d.Store (by omega) q.Vol with⟨e,_⟩|⟨k,_,e,_⟩<;>exact⟨_,e⟩
  rw [hw];simp only [Aa];by_cases h34:q.Kind=3\/q.Kind=4
  ·have:(bif(q.Kind==3)then(some true)else(some (q.Kind==4)):Option Bool)=some true:=by
    rcases h34 with e|e<;>rw [e]<;>rfl
   rw [this];simp only [Aa,Ae]
   cases decide (w>=0)with
   |true=>exact⟨_,_,_,rfl,.inl ⟨rfl,rfl⟩,λ_=>rfl⟩
   |false=>
    simp only [Ab];obtain⟨j2,i⟩:∃j2,(bif(q.Kind==4)then((Eb d.Store q.Of).bind λv3=>some (decide (v3<0)))else(some false):Option Bool)=some j2:=by
     cases q.Kind==4 with
     |false=>exact⟨_,rfl⟩
     |true=>
      rcases Fp d.Store (by omega) q.Of with⟨e,_⟩|⟨k,_,e,_⟩<;>rw [e]<;>exact⟨_,rfl⟩
    rw [i];simp only [Aa]
    cases j2 with
    |true=>exact⟨_,_,_,rfl,.inl ⟨rfl,rfl⟩,λ_=>rfl⟩
    |false=>
     simp only [Ab]
     cases decide (ln d.Store.Vols>=3)with
     |true=>exact⟨_,_,_,rfl,.inl ⟨rfl,rfl⟩,λ_=>rfl⟩
     |false=>
      refine⟨_,_,_,rfl,.inr ⟨rfl,_,rfl,AAq hq.vol hq.of_,by simp,rfl,.inl ⟨DV _,λhh=>by simp at hh⟩⟩,λhh=>absurd rfl hh⟩
  have:(bif(q.Kind==3)then(some true)else(some (q.Kind==4)):Option Bool)=some false:=by
   rw [show(q.Kind==3)=false by rw [CR];omega,show(q.Kind==4)=false by rw [CR];omega];rfl
  rw [this];simp only [Aa,Ab]
  cases decide (w>=0)with
  |false=>exact⟨_,_,_,rfl,.inl ⟨rfl,rfl⟩,λ_=>rfl⟩
  |true=>
   simp only [Ai,Ab]
   cases k1:(q.Kind==1)with
   |true=>
    simp only [Ae];obtain⟨l,l1,l2,l3,l4⟩:=MH h.st;obtain⟨c,f1,f2⟩:=Y4 h l4 q.Text;rw [l1];simp only [Aa];rw [f1];simp only [Aa]
    rcases f2 with⟨rfl,f2⟩|⟨f2,f3⟩
    ·obtain⟨z,z1,z2,z3⟩:=iP q.Text hq.text;rw [show((0:Int)==0)=true from rfl,z1];refine⟨_,_,_,rfl,.inr ⟨rfl,_,rfl,sJ hq.vol (by have:=hq.sec;omega) ⟨b.1,b.2⟩,by simp,rfl,.inr ⟨rfl,rfl,?_,?_,λc hc=>f2 c ((l3 c).2 hc)⟩⟩,λhh=>absurd rfl hh⟩
     ·intro e;have e':L z=[]:=e;rw [e']at z3;simp at z3
     show Ux z=some q.Text;unfold Ux;rw [z2]
    have f:=(l3 c).1 f2;have m:=Wx h.st f;rw [show(c==0)=false by rw [CR];omega];refine⟨_,_,_,rfl,.inr ⟨rfl,_,rfl,sJ hq.vol (by have:=hq.sec;omega) (by omega),by simp,rfl,.inl ⟨DV _,λ_=>⟨f,f3⟩⟩⟩,λhh=>absurd rfl hh⟩
   |false=>
    simp only [Ab]
    cases k2:(q.Kind==2)with
    |true=>
     refine⟨_,_,_,rfl,.inr ⟨rfl,_,rfl,?_,by simp,rfl,.inl ⟨DV _,λhh=>by simp at hh⟩⟩,λhh=>absurd rfl hh⟩;have:=hq.vol;have:=hq.sec;unfold Gx;simp;omega
    |false=>
     simp only [Ab]
     cases k5:(q.Kind==5)with
     |true=>
      refine⟨_,_,_,rfl,.inr ⟨rfl,_,rfl,?_,by simp,rfl,.inl ⟨DV _,λhh=>by simp at hh⟩⟩,λhh=>absurd rfl hh⟩;have:=hq.vol;unfold Gx;simp;omega
     |false=>exact⟨_,_,_,rfl,.inl ⟨rfl,rfl⟩,λ_=>rfl⟩
theorem hZ (h:D7 l nx x=some (l',nx')) (hk:x.Kind≠1):(∀c,ER l' c->ER l c\/c=x.Chunk)/\nx<=nx'/\nx'<=max nx (x.Chunk+1):=by
 unfold D7 at h;split at h
 ·cases h
 first
  |rw [Ay hk]at h
  |skip
 split at h
 ·split at h
  ·cases h
  injection h with h
  injection h with h1 h2
  subst h1 h2;refine⟨λc hc=>?_,by omega,by omega⟩;obtain⟨h0,p,hp,hx⟩:=hc;unfold kV at hp;simp only [Aj,AT,Aw]at hp
  rcases hp with(hp|rfl)|hp
  ·exact .inl ⟨h0,p,hp.1,hx⟩
  ·simp only at hx
   have zz:c∉Qc:=λhz=>by have:=Cr hz;omega
   split at hx
   ·cases hg:Kn l x.Arg with
    |none=>rw [hg]at hx;exact absurd hx zz
    |some row=>
     rw [hg]at hx;unfold Kn at hg;obtain⟨w,a,b⟩:=AZ.1 hg;have d:=List.mem_of_find?_eq_some a;exact .inl ⟨h0,w,d,by rw [b];exact hx⟩
   exact absurd hx zz
  exact .inl ⟨h0,p,hp.1,hx⟩
 split at h
 ·cases h
 split at h
 ·injection h with h
  injection h with h1 h2
  subst h1 h2;refine⟨λc hc=>?_,by omega,by omega⟩;obtain⟨h0,p,hp,hx⟩:=hc;exact .inl ⟨h0,p,(AT.1 hp).1,hx⟩
 injection h with h
 injection h with h1 h2
 subst h1 h2;refine⟨λc hc=>?_,by omega,by omega⟩;obtain⟨h0,p,hp,hx⟩:=hc;unfold jT at hp;obtain⟨w,hw,rfl⟩:=AJ.1 hp;split at hx
 ·rcases Ck hx with hx|hx
  ·exact .inl ⟨h0,w,hw,hx⟩
  exact .inr hx
 exact .inl ⟨h0,w,hw,hx⟩
theorem lI (h:D7 l nx x=some (l',nx')) (hk:x.Kind≠1):∀p∈l',(∃p'∈l,p'.1=p.1)\/p.1=x.Vol:=by
 unfold D7 at h;split at h
 ·cases h
 first
  |rw [Ay hk]at h
  |skip
 split at h
 ·split at h
  ·cases h
  injection h with h
  injection h with h1 h2
  subst h1 h2;intro p hp;unfold kV at hp;simp only [Aj,AT,Aw]at hp
  rcases hp with(hp|rfl)|hp
  ·exact .inl ⟨p,hp.1,rfl⟩
  ·exact .inr rfl
  exact .inl ⟨p,hp.1,rfl⟩
 split at h
 ·cases h
 split at h
 ·injection h with h
  injection h with h1 h2
  subst h1 h2
  exact λp hp=> .inl ⟨p,(AT.1 hp).1,rfl⟩
 injection h with h
 injection h with h1 h2
 subst h1 h2;intro p hp;unfold jT at hp;obtain⟨w,hw,rfl⟩:=AJ.1 hp;refine .inl ⟨w,hw,?_⟩;split<;>rfl
end Go.TI
