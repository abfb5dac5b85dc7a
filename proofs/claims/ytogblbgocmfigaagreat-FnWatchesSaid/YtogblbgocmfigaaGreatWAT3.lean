/- What walks of Go code need. No condition. -/
import Derived.Test.YtogblbgocmfigaaGreatWAT2
import Derived.Laws.StructEq
import Derived.Laws.Strings
import Derived.Laws.BitsLemmas
set_option linter.unusedSimpArgs false
set_option linter.unusedVariables false
namespace Go.TI
open Go Go.RowKit
theorem tT:∀t:TV,(N2 t).isSl=t.isSl:=by intro t;cases t<;>rfl
theorem Ot:∀(cs:List TV) (j:Nat),(Bq cs)[j]?=cs[j]?.map N2
 |[],j=>by simp[Bq]
 |t::ts,0=>by simp[Bq]
 |t::ts,j+1=>by simpa[Bq]using Ot ts j
theorem YL:∀(q:List Nat) (cs:List TV),BC (Bq cs) q=(BC cs q).map Bq
 |[],cs=>rfl
 |c::q,cs=>by
  simp only[BC,Ot]
  cases cs[c]? with
  |none=>rfl
  |some t=>
   cases t with
   |sl o e sz cells=>exact YL q cells
   |_=>rfl
def vG:TV->List TV->TV
 | .sl _ e s _,row=> .sl false e s row
 |t,_=>t
def dE (cs:List TV) (j:Nat) (a:List TV):List TV:=match cs[j]? with
 |some t=>cs.set j<|vG t a
 |none=>cs
variable {E E':St} {N i n sz j e d b k t by_:Nat} {P:Program} {Q:Exit->St->Prop} {ops ops2:Array Oper} {β γ α S V σ W S' A β':Type} {w w':World} {dn FA UA q:List Nat} {c y:Code} {blk:Root->Nat} {FS US:Root->List Nat} {o:Oper} {s:SV} {f sf g:FuncId} {fn:Func} {as:List AV} {T T':TypeId} {row row':List TV} {t':TV} {K:St->Prop} {rest:List Oper} {p:Prop} {r:β} {l:List α} {kk:α->Option β} {s0:S} {body':S'->Option (S'⊕β)} {Am:List γ->Sv} {xl:List γ} {fin:α->List TV}
theorem nV {s:Nat} {cs:List TV} {a:List TV} (h:cs[j]?=some (.sl true e s a)) (c:Nat):(dE cs j (Bq a))[c]?=if c=j then some (.sl false e s (Bq a))else cs[c]? :=by grind [dE,vG]
theorem ACr {s:Nat} {r1:List TV} {cs:List TV} {a:List TV} (h:cs[j]?=some (.sl true e s a)) (hq:BC cs q=some r1) (i:Nat):
  ∃r2,BC (dE cs j (Bq a)) q=some r2/\(r1[i]?.isSome=true->r2[i]?.isSome=true)/\(L4 r1[i]?=true->L4 r2[i]?=true):=by
 cases q with
 |nil=>
  injection hq with hq
  subst hq;refine⟨_,rfl,?_,?_⟩
  ·rw[nV h]
   grind
  rw[nV h];split
  ·intro _;rfl
  exact id
 |cons c q=>
  simp only[BC,nV h]
  grind [YL,Ot,tT,BC,L4]
theorem bJ:∀{ts:List TV} {vs:List Value} {F U:List Nat} {j:Nat} {t:TV},BB w ts vs F U->ts[j]?=some t->F.Nodup->(∀v F1 U1,Do w t v F1 U1->∃F2 U2,Do w t' v F2 U2/\Ji F1 U1 F2 U2)->
  ∃F' U',BB w (ts.set j t') vs F' U'/\Ji F U F' U'
 |[],vs,F,U,j,t,h,hj,_,_=>by simp at hj
 |x::ts,vs,F,U,0,t,h,hj,hn,hk=>by
  simp at hj;subst hj;obtain⟨v,a,F1,F2,U1,U2,rfl,rfl,rfl,h1,h2⟩:=h;obtain⟨F1',U1',a1,a2⟩:=hk v F1 U1 h1;exact⟨F1'++F2,U1'++U2,by grind [BB],TZ hn a2 Ji.refl⟩
 |x::ts,vs,F,U,j+1,t,h,hj,hn,hk=>by
  obtain⟨v,a,F1,F2,U1,U2,rfl,rfl,rfl,h1,h2⟩:=h;obtain⟨F2',U2',a1,a2⟩:=bJ h2 (by simpa using hj) (Dk.1 hn).2.1 hk;exact⟨F1++F2',U1++U2',by grind [BB],TZ hn Ji.refl a2⟩
theorem dT {a:Act} {blk:Root->Nat}:∀{ts:List TV} {vs:List Value} {F U:List Nat} {j:Nat} {t:TV},C8 w a E blk ts vs F U->ts[j]?=some t->F.Nodup->(∀v F1 U1,DH w a E blk t v F1 U1->∃F2 U2,DH w a E blk t' v F2 U2/\Ji F1 U1 F2 U2)->
  ∃F' U',C8 w a E blk (ts.set j t') vs F' U'/\Ji F U F' U'
 |[],vs,F,U,j,t,h,hj,_,_=>by simp at hj
 |x::ts,vs,F,U,0,t,h,hj,hn,hk=>by
  simp at hj;subst hj;obtain⟨v,b,F1,F2,U1,U2,rfl,rfl,rfl,h1,h2⟩:=h;obtain⟨F1',U1',a1,a2⟩:=hk v F1 U1 h1;exact⟨F1'++F2,U1'++U2,by exact⟨v,b,F1',F2,U1',U2,rfl,rfl,rfl,a1,h2⟩,TZ hn a2 Ji.refl⟩
 |x::ts,vs,F,U,j+1,t,h,hj,hn,hk=>by
  obtain⟨v,b,F1,F2,U1,U2,rfl,rfl,rfl,h1,h2⟩:=h;obtain⟨F2',U2',a1,a2⟩:=dT h2 (by simpa using hj) (Dk.1 hn).2.1 hk;exact⟨F1++F2',U1++U2',by exact⟨v,b,F1,F2',U1,U2',rfl,rfl,rfl,h1,a1⟩,TZ hn Ji.refl a2⟩
def frE (E:St) (r:Root) (j:Nat) (a:List TV):St:=match E.root r with
 |some cs=>E.setRoot r<|dE cs j a
 |none=>E
theorem vF {a:Act} {r:Root} {s:Nat} {cs:List TV} {b:List TV} (hr:E.root r=some cs) (hj:cs[j]?=some (.sl true e s b)) (hh:r≠ .hand) (R:Root):Cc w w a a E (E.setRoot r (dE cs j (Bq b))) blk blk R:=by
 have d:(E.setRoot r<|dE cs j<|Bq b).ver=E.ver:=by cases r<;>rfl
 have f:(E.setRoot r<|dE cs j<|Bq b).gen=E.gen:=by cases r<;>rfl
 have g:(dE cs j<|Bq b).length=cs.length:=by simp[dE,hj]
 have c:∀cs0,E.root R=some cs0->∃cs1,(E.setRoot r<|dE cs j<|Bq b).root R=some cs1/\∀q r1,BC cs0 q=some r1->∀i:Nat,∃r2,BC cs1 q=some r2/\(r1[i]?.isSome=true->r2[i]?.isSome=true)/\(L4 r1[i]?=true->L4 r2[i]?=true):=by
  intro cs0 h0;by_cases hR:R=r
  ·subst hR;rw[hr]at h0
   injection h0 with h0
   subst h0;refine⟨dE cs j<|Bq b,?_,λq r1 hq i=>ACr hj hq i⟩
   cases R with
   |slot n=>
    simp only[St.root,St.setRoot,BV,C7]at hr⊢
    injection hr with hr
    congr 1
    cases hs:E.slots n with
    |one t=>
     rw[hs]at hr;subst hr;have:(dE [t] j<|Bq b).length=1:=g
     match hf:dE [t] j (Bq b),this with
     |[x],_=>rfl
    |agg ts=>rfl
    |tup ss=>grind [SV.cells]
   |box n=>simp[St.root,St.setRoot,BV]
   |ext n=>simp[St.root,St.setRoot,BV]
   |hand=>exact absurd rfl hh
  refine⟨cs0,?_,λq r1 hq i=>⟨r1,hq,id,id⟩⟩;rw[<-h0];cases r<;>cases R<;>simp only[St.root,St.setRoot,BV]<;>first
   |exact absurd rfl hh
   |rfl
   |grind
   |(rw[B6];intro e;injection e with e;exact hR<|by rw[e])
   |(rw[B6];intro e;cases e)
 constructor
 ·refine .inr ⟨by rw[d],λq i v h1 h2=>⟨h1,?_⟩,λq i ad hq h1 h2=>⟨h1,?_⟩⟩
  ·unfold St.place at h2⊢
   cases h0:E.root R with
   |none=>rw[h0]at h2;cases h2
   |some cs0=>
    rw[h0]at h2;obtain⟨cs1,k1,k2⟩:=c cs0 h0;simp only[Aa]at h2
    cases hc:BC cs0 q with
    |none=>rw[hc]at h2;cases h2
    |some r1=>
     obtain⟨r2,k3,_,k4⟩:=k2 q r1 hc i
     grind
  unfold St.place at h2⊢
  cases h0:E.root R with
  |none=>grind
  |some cs0=>
   rw[h0]at h2;obtain⟨cs1,k1,k2⟩:=c cs0 h0;simp only[Aa]at h2
   cases hc:BC cs0 q with
   |none=>grind
   |some r1=>
    obtain⟨r2,k3,k4,_⟩:=k2 q r1 hc i
    grind
 refine .inr ⟨by rw[f],λi ad h1 h2=>⟨h1,?_⟩⟩;unfold St.place at h2⊢
 cases h0:E.root R with
 |none=>grind
 |some cs0=>
  rw[h0]at h2;obtain⟨cs1,k1,k2⟩:=c cs0 h0;obtain⟨r2,k3,k4,_⟩:=k2 [] cs0 rfl i;rw[k1];simp only[Aa,k3];exact k4 h2
section
variable {w0:Base} {a:Act}
theorem C5.freeze {r:Root} {s:Nat} (h:C5 w0 FA UA N w a E blk FS US) {cs:List TV} {c:List TV} (hr:E.root r=some cs) (hj:cs[j]?=some (.sl true e s c)) (hh:r≠ .hand):
  ∃FS' US',C5 w0 FA UA N w a (E.setRoot r (dE cs j (Bq c))) blk FS' US'/\FS' .hand=FS .hand/\US' .hand=US .hand:=by
 have o:=vF (w:=w) (a:=a) (blk:=blk) hr hj hh;have p:dE cs j (Bq c)=cs.set j (.sl false e s<|Bq c):=by grind [dE,vG]
 have g:∀v F1 U1,Do w (.sl true e s c) v F1 U1->∃F2 U2,Do w (.sl false e s<|Bq c) v F2 U2/\Ji F1 U1 F2 U2:=λv F1 U1 h1=>AE4 h1<|le1.s rfl
 have u:∃F' U',Ji (FS r) (US r) F' U'/\(∀n,r= .slot n->IJ w a (E.setRoot r<|dE cs j<|Bq c) blk ((E.slots n).withCells<|dE cs j<|Bq c) (a.eval<|.tmp n) F' U')/\
   (r.mem=true->∃d T F,w.heap[blk r]?=some (.cells d T (0,0))/\BB w (dE cs j<|Bq c) d.toList F U'/\F'=blk r::F):=by
  cases r with
  |slot n=>
   injection hr with hr
   have hs:=HZ o (h.slot n) (λ_ _=>rfl) λ_ _=>rfl
   cases i:E.slots n with
   |one t=>
    rw[i]at hr hs;simp only[SV.cells]at hr;subst hr;have x:j=0:=by grind
    subst x;simp at hj;subst hj;obtain⟨F2,U2,k1,k2⟩:=g _ _ _ hs.1;refine⟨F2,U2,k2,λm hm=>?_,λhm=>by cases hm⟩
    injection hm with hm
    subst hm;rw[i,p];exact⟨k1,λ_=>hs.2 rfl⟩
   |agg ts=>
    rw[i]at hr hs;simp only[SV.cells]at hr;subst hr;obtain⟨vs,k0,k1⟩:=hs;obtain⟨F2,U2,k2,k3⟩:=dT (t':= .sl false e s (Bq c)) k1 hj (h.nodup _) g;refine⟨F2,U2,k3,λm hm=>?_,λhm=>by cases hm⟩
    grind [SV.withCells,IJ]
   |tup ss=>grind [SV.cells]
  |hand=>exact absurd rfl hh
  |box n=>
   rcases h.box (.box n) rfl with⟨k,_⟩|⟨cs0,d,T,F,k1,k2,k3,k4⟩
   ·grind [St.root]
   simp only[St.root]at hr;rw[k1]at hr
   injection hr with hr
   subst hr;have f:=h.nodup<|.box n;rw[k4]at f;obtain⟨y,l⟩:=CY.1 f;obtain⟨F2,U2,k5,k6⟩:=bJ (t':= .sl false e s (Bq c)) k3 hj l g;refine⟨blk (.box n)::F2,U2,?_,λm hm=>(by cases hm),λ_=>⟨d,T,F2,k2,by grind,rfl⟩⟩;rw[k4];refine⟨k6.1.cons_cons _,λb hb=>?_⟩
   rcases k6.2 b hb with q|⟨q1,q2⟩
   ·exact .inl q
   grind
  |ext n=>
   rcases h.box (.ext n) rfl with⟨k,_⟩|⟨cs0,d,T,F,k1,k2,k3,k4⟩
   ·grind [St.root]
   simp only[St.root]at hr;rw[k1]at hr
   injection hr with hr
   subst hr;have f:=h.nodup<|.ext n;rw[k4]at f;obtain⟨y,l⟩:=CY.1 f;obtain⟨F2,U2,k5,k6⟩:=bJ (t':= .sl false e s (Bq c)) k3 hj l g;refine⟨blk (.ext n)::F2,U2,?_,λm hm=>(by cases hm),λ_=>⟨d,T,F2,k2,by grind,rfl⟩⟩;rw[k4];refine⟨k6.1.cons_cons _,λb hb=>?_⟩
   rcases k6.2 b hb with q|⟨q1,q2⟩
   ·exact .inl q
   grind
 obtain⟨F',U',hl,h3,z⟩:=u
 have h0:∀b∈F',b∈FS r:=λb hb=>hl.1.subset hb
 refine⟨BV FS r F',BV US r U',?_,by grind [Bj],by grind [Bj]⟩;have hF:∀R b,b∈BV FS r F' R->b∈FS R:=by
  intro R b hb;by_cases hR:R=r
  ·grind [BZ]
  grind [Bj]
 have hU:∀R b,b∈BV US r U' R->b∈US R\/(R=r/\b∈FS r/\b∉F'):=by
  intro R b hb;by_cases hR:R=r
  ·subst hR;rw[BZ]at hb
   rcases hl.2 b hb with q|⟨q1,q2⟩
   ·exact .inl q
   grind
  grind [Bj]
 constructor
 ·intro n;by_cases hn:r= .slot n
  ·simp_all [St.setRoot,BV]
  rw[Bj λe=>hn e.symm,Bj λe=>hn e.symm];have h1:(E.setRoot r<|dE cs j<|Bq c).slots n=E.slots n:=by
   cases r with
   |slot m=>simp_all [St.setRoot,BV];grind
   |_=>rfl
  rw[h1];exact HZ o (h.slot n) (λ_ _=>rfl) λ_ _=>rfl
 ·intro R hm;by_cases hR:R=r
  ·subst hR;right;obtain⟨d,T,F,k1,k2,k3⟩:=z hm;refine⟨_,d,T,F,?_,k1,by rw[BZ];exact k2,by rw[BZ,k3]⟩
   cases R with
   |slot n=>cases hm
   |hand=>cases hm
   |box n=>simp[St.setRoot,BV]
   |ext n=>simp[St.setRoot,BV]
  rw[Bj hR,Bj hR];have h1:(E.setRoot r<|dE cs j<|Bq c).boxes R=E.boxes R:=by
   cases r<;>simp only[St.setRoot,BV]<;>first
    |rfl
    |(rw[B6 hR])
  rw[h1];exact h.box R hm
 ·have:(E.setRoot r<|dE cs j<|Bq c).boxes .hand=E.boxes .hand:=by
   cases r<;>simp only[St.setRoot,BV]<;>first
    |exact absurd rfl hh
    |rfl
    |(rw[B6<|by simp])
  rw[this];exact h.nohand
 ·intro R;by_cases hR:R=r
  ·subst hR;rw[BZ];exact hl.1.nodup<|h.nodup R
  rw[Bj hR];exact h.nodup R
 ·exact λR S h2 b hb hb'=>h.dis R S h2 b (hF R b hb)<|hF S b hb'
 ·intro R S b hb hb'
  rcases hU S b hb' with q|⟨rfl,q1,q2⟩
  ·exact h.disU R S b (hF R b hb) q
  by_cases hR:R=S
  ·grind [BZ]
  exact h.dis R S hR b (hF R b hb) q1
 ·exact λR b hb=>h.inF R b<|hF R b hb
 ·intro R b hb
  rcases hU R b hb with q|⟨rfl,q1,_⟩
  ·exact h.inU R b q
  obtain⟨q2,q3⟩:=h.inF R b q1
  grind
 ·exact h.disA
 ·exact h.os
 ·exact h.tape
 ·exact h.output
 ·exact h.size
 ·exact h.keep
 ·exact h.len
 ·exact h.nodef
 ·exact h.xblk
 ·rw[Es];exact h.ambB
 ·rw[Es];exact h.ambI
 ·rw[Ib];exact h.frz
 ·exact h.ambF
 rw[Es];exact h.pin
end
theorem ACt {r:Root} (h:SY E r j=some row):∃cs e s,E.root r=some cs/\cs[j]?=some (.sl true e s row)/\frE E r j (Bq row)=E.setRoot r (dE cs j (Bq row)):=by grind [SX,frE]
def Z8:Root->Bool
 | .hand=>false
 |_=>true
theorem V6 {r:Root} (h:Z8 r=true):r≠ .hand:=by rintro rfl;cases h
theorem RW.fz (r:Root) (j:Nat) (hs:Bq row=row') (h:RW P N ops i (frE E r j row') Q) (ho:SY E r j=some row:=by kernel_rfl) (hh:Z8 r=true:=by rfl):RW P N ops i E Q:=by
 intro w0 FA UA w a blk FS US hr hF hU;obtain⟨cs,e,s,h1,h2,h3⟩:=ACt ho;obtain⟨FS',US',k1,k2,k3⟩:=hr.freeze h1 h2<|V6 hh;rw[<-hs,h3]at h;exact h _ _ _ _ _ _ _ _ k1 (by rw[k2,hF])<|by rw[k3,hU]
theorem KW.fz {ts:List Nat} (r:Root) (j:Nat) (hs:Bq row=row') (h:KW P N ops ts dn (frE E r j row') Q) (ho:SY E r j=some row:=by kernel_rfl) (hh:Z8 r=true:=by rfl):KW P N ops ts dn E Q:=by
 intro hq hc w0 FA UA w a blk FS US hr hF hU;obtain⟨cs,e,s,h1,h2,h3⟩:=ACt ho;obtain⟨FS',US',k1,k2,k3⟩:=hr.freeze h1 h2<|V6 hh;rw[<-hs,h3]at h;exact h hq hc _ _ _ _ _ _ _ _ k1 (by rw[k2,hF])<|by rw[k3,hU]
theorem Wp.fz (r:Root) (j:Nat) (hs:Bq row=row') (h:Wp P N c (frE E r j row') Q) (ho:SY E r j=some row:=by kernel_rfl) (hh:Z8 r=true:=by rfl):Wp P N c E Q:=by
 intro w0 FA UA w a blk FS US hr hF hU;obtain⟨cs,e,s,h1,h2,h3⟩:=ACt ho;obtain⟨FS',US',k1,k2,k3⟩:=hr.freeze h1 h2<|V6 hh;rw[<-hs,h3]at h;exact h _ _ _ _ _ _ _ _ k1 (by rw[k2,hF])<|by rw[k3,hU]
def St.fzs (E:St) (f:Option Nat):St:={E with fz:=f}
theorem tR {a:Act} {f:Option Nat} (r:Root):Cc w w a a E (E.fzs f) blk blk r:=by
 have hp:∀q j,(E.fzs f).place r q j=E.place r q j:=λq j=>by cases r<;>rfl
 exact⟨.inr ⟨rfl,λq j v h1 h2=>⟨h1,by rw[hp];exact h2⟩,λq j ad _ h1 h2=>⟨h1,by rw[hp];exact h2⟩⟩,.inr ⟨rfl,λj ad h1 h2=>⟨h1,by rw[hp];exact h2⟩⟩⟩
theorem C5.fzs {w0:Base} {a:Act} (h:C5 w0 FA UA N w a E blk FS US) (f:Option Nat) (hf:∀n,f=some n->Frz w0 a n):C5 w0 FA UA N w a (E.fzs f) blk FS US where
 slot:=λn=>HZ tR (h.slot n) (λ_ _=>rfl) λ_ _=>rfl
 box:=h.box
 nohand:=h.nohand
 nodup:=h.nodup
 dis:=h.dis
 disU:=h.disU
 inF:=h.inF
 inU:=h.inU
 disA:=h.disA
 os:=h.os
 tape:=h.tape
 output:=h.output
 size:=h.size
 keep:=h.keep
 len:=h.len
 nodef:=h.nodef
 xblk:=h.xblk
 ambB:=h.ambB
 ambI:=h.ambI
 frz:=hf
 ambF:=h.ambF
 pin:=h.pin
theorem yN (n:Nat):(2*n+1)/2=n:=by omega
theorem yM (n:Nat):¬(2*n+1) %2=0:=by omega
def ADX (o:Oper):Bool:=match o.op with
 | .buildSlice t len parts=>Nat.beq len 0&&Nat.beq parts.size 0
 |_=>false
theorem AE2 {a:Act} {nx:Next} (hb:ADX o=true) (hd:o.dst=some d) (hN:d<N) (hs:Cf P N false E o=some E') (hr:(execOp a.eval o).run P w= .ok nx w'):∃B,nx= .value (.slice B 0 0):=by
 unfold ADX at hb;split at hb
 ·rename_i t len parts ho;rw[Ap]at hb;have h1:=AT hb.1;have h2:=AT hb.2;subst h1;have h3:parts= #[]:=Array.eq_empty_of_size_eq_zero h2;subst h3;simp only[Cf,hd,Cn hN,ho,M2]at hs;split at hs
  ·rename_i e hu;split at hs
   ·rename_i zs ss hz b;obtain⟨i,z,hi,c,f,g⟩:=Kd (w:=w) hz;simp_all [run_underlying,execOp,Instr.buildSlice,sizeOf,typeInfo,newRow,Instr.fill];grind
   cases hs
  cases hs
 cases hb
def ABf (x:Operand):Nat:=match x with
 | .tmp n=>n
 |_=>0
theorem eQ {ts:List Nat} (h:KW P N ops ts (i::dn) (((Cf P N false E (oA ops i)).getD E).fzs (some (2*((oA ops i).dst.getD 0)+1))) Q) (hs:(Cf P N false E (oA ops i)).isSome=true:=by kernel_rfl) (hk:(Sq P ops E i&&ADX (oA ops i)&&HF N (oA ops i))=true:=by kernel_rfl):KB P N ops ts dn i E Q:=by
 have hs':=getD_some (a:=E) hs;simp only[Ap]at hk;obtain⟨h1,h2⟩:=GR hk.1.1;obtain⟨d,h3,_,h4⟩:=DW hk.2;rw[h3]at h;simp only[D4]at h;have b:kp (oA ops i)=true:=by grind [ADX,kp]
 intro w0 FA UA w a blk FS US hr hF hU;unfold wpOp;simp only[HV h1,BO hr h2,C7];obtain⟨nx,w',v,blk',FS',US',k1,k2,k3,k4,k5,k6⟩:=S5 hr hF hU hs';obtain⟨B,hB⟩:=AE2 (N:=N) hk.1.2 h3 h4 hs' k1;have hv:v= .slice B 0 0:=by grind
 refine .inl ?_;unfold Oper.wp;rw[k1,hB];refine⟨λ_=>k6 b,_,blk',FS',US',h,?_,k4,k5⟩;rw[hv]at k3;refine k3.fzs _ λn hn=>?_
 injection hn with hn
 subst hn;unfold Frz;rw[B6<|yM d,yN d,h3];refine⟨B,?_⟩;have:=k3.len;simp only[Act.eval,Act.put];rw[Array.getD_eq_getD_getElem?];have hl:=hr.len
 grind
theorem KB.a {ts:List Nat} (hs:Cf P N false E (oA ops i)=some E') (h:KW P N ops ts (i::dn) (E'.fzs none) Q) (hk:(Sq P ops E i&&ACh (oA ops i)&&Nat.beq (EA (oA ops i)).1 (EA (oA ops i)).2.1&&HF N (oA ops i))=true:=by kernel_rfl) (hx:(EA<|oA ops i).2.2.1= .tmp (ABf (EA<|oA ops i).2.2.1):=by kernel_rfl) (hz:E.fz=some (2*ABf (EA<|oA ops i).2.2.1+1):=by kernel_rfl):KB P N ops ts dn i E Q:=by
 simp only[Ap]at hk;obtain⟨⟨⟨h0,h5⟩,h6⟩,h7⟩:=hk;obtain⟨h1,h2⟩:=GR h0;obtain⟨d,h3,_,h4⟩:=DW h7;have c:=AT h6;have ho:=mZ h5;rw[<-c]at ho;intro w0 FA UA w a blk FS US hr hF hU;unfold wpOp;simp only[HV h1,BO hr h2,C7];have he:Oe P E d (EA<|oA ops i).1 (EA<|oA ops i).2.2.1 (EA<|oA ops i).2.2.2=some E':=by grind [Cf]
 obtain⟨nx,w',v,blk',FS',US',k1,k2,k3,k4,k5,_,k6⟩:=Xr hr hF hU ho h3 h4 he;have b:=hr.frz _ hz;unfold Frz at b;rw[B6<|yM _,yN,<-hx]at b;obtain⟨B,hB⟩:=b;refine .inl ?_;unfold Oper.wp;rw[k1]
 rcases k2 with rfl|⟨rfl,rfl⟩
 ·exact⟨λ_=>k6 B hB,_,blk',FS',US',h,k3.fzs none (λn hn=>by cases hn),k4,k5⟩
 exact⟨λ_=>k6 B hB,_,blk',FS',US',h,k3.fzs none (λn hn=>by cases hn),k4,k5⟩
def rm (k:IntKind) (a b:Int):Option Int:=if b=0 then none else some<|a.tmod b
def ban (k:IntKind) (a b:Int):Int:=k.wrap (BitVec.ofInt k.bits a&&&BitVec.ofInt k.bits b).toNat
def bxo (k:IntKind) (a b:Int):Int:=k.wrap (BitVec.ofInt k.bits a^^^BitVec.ofInt k.bits b).toNat
def AEw (P:Program) (E:St) (o:Oper) (k:IntKind) (q:Bool):Option (Int×Int):=match o.op with
 | .binOp op t x y _=>bif(match op with| .rem=>!q| .quo=>q|_=>false)then(match E.cell1 P t x,E.cell1 P t y with
  |some (.int k' a),some (.int k'' b)=>bif decide (k'=k)&&decide (k''=k)then some (a,b)else none
  |_,_=>none)else none
 |_=>none
theorem prm {k:IntKind} {a b v:Int} (hx:rm k a b=some v) (hc:AEw P E o k false=some (a,b):=by kernel_rfl):AN P E o=some (.one<|.int k v):=by
 unfold AEw at hc;split at hc
 ·rename_i op t x y t' ho;cases op<;>simp only[CG,Ao,Ae,reduceCtorEq]at hc;split at hc
  ·grind [rm,AN,XZ,YR,ACi]
  cases hc
 cases hc
def oT (P:Program) (f:FuncId) (as:List AV) (a:List TV):Prop:=∀(w:World) (vs:List Value) (FA UA:List Nat),L6 w as vs FA UA->FA.Nodup->(∀b∈FA,b∉UA)->(∀b∈FA++UA,b<w.heap.size)->
  Calls P f vs.toArray w λe w'=>∃v F U G V,e= .returned v/\ACZ w w' FA UA (.tup []) [.ext a] [v] (.tuple #[]) F U G V
theorem gkp {cells:List TV} (hf:P.funcs[f]?=some fn) (hb:fn.body=some c) (hN:fn.ntmps=N) (h:Wp P N c (Dw as) λe E=>(e= .normal\/e= .ret)/\∃t r,fn.results.toList=[.tmp t]/\E.ptr? (.tmp t)=some (r,[],0)/\r.mem=true/\E.boxes r=some cells) (s:cells.isEmpty=false:=by rfl):oT P f as cells:=by
 subst hN;intro w vs FA UA ha l j m;obtain⟨blk,FS,US,hr,hF,hU⟩:=T8 (N:=fn.ntmps) ha l j m (A:=Sv.none) (fz:=none) trivial (λb hb=>by cases hb);refine calls_of_wp hf hb<|wp_mono (h _ _ _ _ _ _ _ _ hr hF hU) ?_;rintro e a w' ⟨E,blk',FS',US',⟨he,t,r,h1,h2,h3,h4⟩,k3,h5,h6⟩;obtain⟨u,ad,i,o⟩:=IU k3 h2;have p:ad=⟨blk' r,0,none⟩:=by
  cases r with
  |slot n=>cases h3
  |hand=>cases h3
  |box n=>injection i with i;grind [Addr.add]
  |ext n=>injection i with i;grind [Addr.add]
 obtain⟨d,T,F3,b2,b3,b4⟩:∃d T F3,w'.heap[blk' r]?=some (.cells d T (0,0))/\BB w' cells d.toList F3 (US' r)/\FS' r=blk' r::F3:=by
  rcases k3.box r h3 with⟨q,_⟩|⟨cs,d,T,F3,q1,q2,q3,q4⟩
  ·grind
  grind
 have hne':cells≠ []:=by grind
 have k:(fn.results.toList.mapM<|Rd P a.tmps).run P w'= .ok [a.eval<|.tmp t] w':=by
  rw[h1,List.mapM_cons];rfl
 have g:a.defers=[]/\∃v,(results fn a.tmps).run P w'= .ok v w'/\∃v' F U G V,Ending.returned v= .returned v'/\ACZ w w' FA UA (.tup []) [.ext cells] [v'] (.tuple #[]) F U G V:=by
  refine⟨k3.nodef,_,Pw k,a.eval<|.tmp t,[],[],FS' r,US' r,by simp,?_⟩
  exact{
   res:=by grind [oV,Xx]
   fin:=⟨_,[],FS' r,[],US' r,[],rfl,by simp,by simp,⟨blk' r,d,T,F3,by rw[o,p],b2,b3,b4,hne'⟩,⟨rfl,rfl,rfl⟩⟩
   nodup:=by simpa using k3.nodup r
   dis:=λb hb hb'=>k3.disU r r b (by simpa using hb)<|by simpa using hb'
   inF:=λb hb=>k3.inF r b<|by simpa using hb
   inU:=λb hb=>k3.inU r b<|by simpa using hb
   os:=k3.os
   tape:=k3.tape
   output:=k3.output
   size:=k3.size
   keep:=λb hb hF=>k3.keep b hb hF (λe=>by cases e)}
 rcases he with rfl|rfl
 ·exact g
 exact g
section
variable {w0:Base} {a:Act}
theorem ACJ {l:List (Bool×TypeId×Operand)} {ss:List (Option SV)} {E1:St} {c:Bool} {K:Act->World->Prop} {Q:Exit->Act->World->Prop} (h:C5 w0 FA UA N w a E blk FS US) (hF:FS .hand=[]) (hU:US .hand=[]) {args:Array Operand} {tys:Array TypeId} (ho:o.op= .call {callee:= .value (.func f),args:=args,argTypes:=tys}) (hf:gG P f) (hd:o.dst=some d) (hN:d<N) (hl:l.map (λx=>x.2.2)=args.toList) {i:List TV} (hg:oT P f as i) (h1:PL P E l=some (ss,E1)) (h2:JQ P E1 l ss=some (as,c)) (h3:c=true\/Ar i=false) (hK:∀w' v blk' FS' US',C5 w0 FA UA N w' (a.put (some d) v) (E1.newBox d i) blk' FS' US'->FS' .hand=[]->US' .hand=[]->K (a.put (some d) v) w'):o.wp P a w K Q:=by
 obtain⟨FS1,US1,F,U,k1,k2,k3,k4,_⟩:=Rj h h1;rw[hF,Az]at k3;rw[hU,Az]at k4;obtain⟨U',k5,k6⟩:=LD k2 k1 h2;have y:l.map (λx=>a.eval x.2.2)=(args.map a.eval).toList:=by
  rw[QB,<-hl,HQ];rfl
 rw[y]at k5;have m:∀b∈F,b∉U':=by
  intro b hb hb';rw[<-k3]at hb
  rcases k6 b hb' with h4|⟨r,h4⟩|⟨_,r,h5,h4⟩
  ·rw[<-k4]at h4;exact k2.disU .hand .hand b hb h4
  ·exact k2.disU .hand r b hb h4
  exact k2.dis .hand r (KF h5) b hb h4
 have k:=hg w _ F U' k5 (by rw[<-k3];exact k2.nodup .hand) m (by
  intro b hb
  rcases A8.1 hb with hb|hb
  ·exact(k2.inF .hand b (by rw[k3];exact hb)).2
  rcases k6 b hb with h4|⟨r,h4⟩|⟨_,r,h5,h4⟩
  ·exact(k2.inU .hand b (by rw[k4];exact h4)).2
  ·exact(k2.inU r b h4).2
  exact(k2.inF r b h4).2)
 unfold Oper.wp;rw[Iu ho hf];simp only[Oper.upon];rw[Array.toArray_toList]at k;refine Calls.mono k ?_;rintro e w' ⟨v,Fr,Ur,G,V,rfl,g⟩;obtain⟨v0,vs0,G1,G2,V1,V2,p,rfl,rfl,⟨b0,z,T,F0,rfl,e1,e2,rfl,e3⟩,⟨rfl,rfl,rfl⟩⟩:=g.fin
 injection p with p _
 subst p;have q:=g.res;simp only[oV,Xx]at q;obtain⟨_,_,_,rfl,rfl⟩:=q;have t:=g.nodup;simp only[Az,AW]at t;have a1:∀b∈b0::F0,(b∈FS1 .hand\/w.heap.size<=b)/\b<w'.heap.size:=by
  intro b hb;have:=g.inF b<|by simpa using hb
  grind
 have h8:∀b∈V1,(∃s,b∈US1 s)\/((b∈FS1 .hand\/w.heap.size<=b)/\b∉b0::F0/\b<w'.heap.size):=by
  intro b hb;obtain⟨h4,h5⟩:=g.inU b<|by simpa using hb
  have h9:b∉b0::F0:=λe=>g.dis b (by simpa using e)<|by simpa using hb
  grind [KX]
 have j:∀b,b<w.heap.size->b∉FS1 .hand->w'.heap[b]?=w.heap[b]? :=λb hb u=>g.keep b hb<|by grind
 let E2:St:={E1 with boxes:=BV E1.boxes (.box d)<|some i,ver:=BV E1.ver (.box d)<|E1.ver (.box d)+1,gen:=BV E1.gen (.box d) (E1.gen (.box d)+1)}
 let blk1:=BV blk (.box d) b0
 have h0:Root.box d≠Root.hand:=by simp
 have h6:∀s,Cc w w' a a E1 E2 blk blk1 s:=by
  intro s;by_cases hs:s= .box d
  ·subst hs;exact⟨.inl (by simp[E2,BV]),.inl<|by simp[E2,BV]⟩
  have hv:E2.ver s=E1.ver s:=by grind [BV]
  have hg:E2.gen s=E1.gen s:=by grind [BV]
  by_cases hh:s= .hand
  ·subst hh;exact FY hv hg<|by simp[St.root,k2.nohand]
  refine DA k2 hv hg ?_ (λ_ _=>rfl) (λ_=>by grind [BV]) (λb hb=>j b (k2.inF s b hb).2<|k2.dis s .hand hh b hb) λb hb=>j b (k2.inU s b hb).2 λe=>k2.disU .hand s b e hb;cases s<;>simp_all [E2,St.root,BV]
 have g1:=k2.two (w':=w') (a':=a) (E':=E2) (blk':=blk1) (r1:= .box d) (r2:= .hand) (L1:=b0::F0) (L2:=[]) (V1:=V1) (V2:=[]) h0
  (by simpa using t)
  (λb hb=>by grind)
  (λb hb=>by grind)
  g.size g.os g.tape g.output (λb hb _ u=>j b hb u) h6
  (λn _ _=>⟨rfl,rfl⟩)
  (λs _ hs _=>⟨by grind [BV],by grind [BV]⟩)
  (.inr ⟨i,z,T,F0,by simp[E2,BV],by grind [BV],e2,by simp[blk1,BV]⟩)
  trivial (by simp[E2,BV,k2.nohand]) k2.len k2.nodef (hfz:=λn hn=>k2.frz n hn)
 have h7:IJ w' a E2 blk1 (.one<|.ptr (.box d) (E2.gen<|.box d) [] 0) (.pointer<|some ⟨b0,0,none⟩) [] []:=by
  have a0:E2.stamp (.box d) []=E2.gen (.box d):=rfl
  grind [WH,St.place,St.root,BV,BC,pa,Addr.add]
 have g2:=g1.put (d:=d) hN h7 Zr.none;have:=hK w' _ blk1 _ _ g2 (by rfl)<|by rfl
 grind
end
theorem ACX {l:List AV} {x:Option α} (h:x.bind kk=some r) {c:α->List TV} (f:∀v,x=some v->oT P (Qy (oA ops i)) l (c v)) (hk:∀v,x=some v->kk v=some r->RW P N ops (i+1) ((clE P E (oA ops i) 0).newBox ((oA ops i).dst.getD 0) (c v)) Q) (b:e9 P E (oA ops i) 0=some l:=by kernel_rfl) (hc:shB P E (oA ops i) 0=true:=by kernel_rfl) (ho:(Sq P ops E i&&UI P N (oA ops i)&&HF N (oA ops i))=true:=by kernel_rfl):RW P N ops i E Q:=by
 obtain⟨v,hv,h⟩:=Af.1 h;simp only[Ap]at ho;obtain⟨h1,h2⟩:=GR ho.1.1;obtain⟨args,tys,h3,h4,h5,h6⟩:=PD ho.1.2;obtain⟨d,h7,_,h8⟩:=DW ho.2;have e:=hk v hv h;rw[h7]at e;unfold RW;rw[Gu h1];intro w0 FA UA w a blk FS US hr hF hU;simp only[wpList,BO hr h2,C7];unfold e9 shB shA at*;unfold clE at e
 cases hm:mvA P E (oA ops i) 0 with
 |none=>grind
 |some z=>
  obtain⟨ss,E1⟩:=z;rw[hm]at b hc e;simp only at b hc e
  cases hs:JQ P E1 (bits 0<|G5<|oA ops i) ss with
  |none=>grind
  |some y=>
   rw[hs]at b hc
   injection b with b
   subst b;refine .inl<|ACJ hr hF hU h3 h4 h7 h8 (l:=bits 0<|G5<|oA ops i) (by rw[Q4,h6]) (f v hv) hm hs (.inl hc) λw' v' blk' FS' US' k1 k2 k3=>e _ _ _ _ _ _ _ _ k1 k2 k3
theorem rsp {rs:List ResultVar} {a:List TV} (t:Nat) (h1:rs=[.tmp t]) (h:(match E.ptr? (.tmp t)with
 |some (r,[],0)=>bif r.mem then E.boxes r else none
 |_=>none)=some a):∃t r,rs=[.tmp t]/\E.ptr? (.tmp t)=some (r,[],0)/\r.mem=true/\E.boxes r=some a:=by grind
def xtE (N:Nat) (E:St) (o:Oper):Option St:=match o.op,o.dst with
 | .extract t ix,some d=>bif Nat.blt d N then OS E d t ix else none
 |_,_=>none
theorem AEU {w0:Base} {a:Act} (h:C5 w0 FA UA N w a E blk FS US) (hF:FS .hand=[]) (hU:US .hand=[]) (he:xtE N E o=some E'):
  ∃v blk' FS' US',(∀w2,(execOp a.eval o).run P w2= .ok (.value v) w2)/\C5 w0 FA UA N w (a.put o.dst v) E' blk' FS' US'/\FS' .hand=[]/\US' .hand=[]:=by
 unfold xtE at he;split at he
 ·rename_i t ix d ho hd
  cases hN:Nat.blt d N with
  |false=>grind
  |true=>
   rw[hN]at he;have hN':d<N:=by simp_all
   obtain⟨nx,w',v,blk',FS',US',k1,k2,k3,k4,k5,_⟩:=Ec.extract (P:=P) h hF hU ho hd hN' he;have e:∃x,∀w2,(execOp a.eval o).run P w2= .ok (.value x) w2:=by
    unfold OS at he;split at he
    ·rename_i n;split at he
     ·rename_i ss b;split at he
      ·rename_i s c;have hs:=h.slot n;rw[b]at hs;obtain⟨vs,f,hx⟩:=hs;obtain⟨v,A,B,C,D,F1,U1,h1,h2,h3,h4,h5⟩:=ZZ ix hx c;simp_all [execOp,Instr.extract];grind
      cases he
     cases he
    cases he
   grind
 cases he
theorem Hg {ts:List Nat} (i:Nat) (h:KW P N ops ts (i::dn) ((xtE N E (oA ops i)).getD E) Q) (hs:(xtE N E (oA ops i)).isSome=true:=by kernel_rfl) (hk:(Sq P ops E i&&zP ops ts dn i)=true:=by kernel_rfl):KW P N ops ts dn E Q:=by
 have hs':=getD_some (a:=E) hs;simp only[Ap,zP]at hk;obtain⟨h1,h3,h4⟩:=hk;obtain⟨h5,h6⟩:=GR h1;unfold KW at h⊢;rw[Uc (i:=i) h3];intro hQ hc w0 FA UA w a blk FS US k1 k2 k3;obtain⟨e1,e2,e3,e4,e5⟩:=Xb h4;obtain⟨v,blk',FS',US',g1,g2,g3,g4⟩:=AEU (P:=P) k1 k2 k3 hs';refine N8 (v:=v) (n:=ops.size) (HV h5) (Region.noSelect_spec e1) (λc a w hx=>?_) e4 e5 _ _ a w hc (Region.free_spec (HV h5) e2) e3 (.inl ⟨BO k1 h6,λw2 _=>g1 w2⟩) ?_
 ·obtain⟨E',blk',FS',US',m1,_⟩:=hx
  grind
 exact h hQ (JX hc e3) _ _ _ _ _ _ _ _ g2 g3 g4
def oN (P:Program) (E:St) (o:Oper) (s:SV):Prop:=∀(N:Nat) (w0:Base) (FA UA:List Nat) (w:World) (a:Act) (blk:Root->Nat) (FS US:Root->List Nat),C5 w0 FA UA N w a E blk FS US->EV P w a E blk FS US o s
theorem AG5 (hp:oN P E (oA ops i) s) (h:RW P N ops (i+1) (E.put (oA ops i).dst s) Q) (hk:(Sq P ops E i&&HF N (oA ops i))=true:=by kernel_rfl):RW P N ops i E Q:=by
 rw[Ap]at hk;obtain⟨h1,h2⟩:=GR hk.1;obtain⟨d,h3,_,h4⟩:=DW hk.2;rw[h3]at h;unfold RW;rw[Gu h1];intro w0 FA UA w a blk FS US hr hF hU;simp only[wpList,BO hr h2,C7];exact .inl<|(Mj hr hF hU (hp _ _ _ _ _ _ _ _ _ hr) h3 h4).wp λw' v blk' FS' US' k1 k2 k3 _=>h _ _ _ _ _ _ _ _ k1 k2 k3
theorem AHC {m:Nat} (hp:oN P E (oA ops i) s) (h:SW P N ops m (i+1) (E.put (oA ops i).dst s) K) (hk:(Sq P ops E i&&HF N (oA ops i)&&Nat.blt i m)=true:=by kernel_rfl):SW P N ops m i E K:=by
 simp only[Ap]at hk;obtain⟨h1,h2⟩:=GR hk.1.1;obtain⟨d,h3,_,h4⟩:=DW hk.1.2;rw[h3]at h;unfold SW;rw[RO h1 hk.2];intro w0 FA UA w a blk FS US k1 k2 k3;obtain⟨v,U,g1,g2,g3⟩:=hp _ _ _ _ _ _ _ _ _ k1;have hr:=g1 w λr _=>⟨λ_ _=>rfl,λ_ _=>rfl⟩;simp only[wpStill,BO k1 h2,C7,Oper.still,hr,Oper.stillUpon_value];rw[h3];refine h _ _ _ _ _ _ _ _ (k1.put h4 g2<|Od k1 g3 _) ?_ ?_
 ·grind [Bj]
 grind [Bj]
theorem AHD {ts:List Nat} (i:Nat) (hp:oN P E (oA ops i) s) (h:KW P N ops ts (i::dn) (E.put (oA ops i).dst s) Q) (hk:(Sq P ops E i&&HF N (oA ops i)&&zP ops ts dn i)=true:=by kernel_rfl):KW P N ops ts dn E Q:=by
 simp only[Ap,zP]at hk;obtain⟨⟨h1,h2⟩,h3,h4⟩:=hk;obtain⟨h5,h6⟩:=GR h1;obtain⟨d,h7,_,h8⟩:=DW h2;unfold KW at h⊢;rw[Uc (i:=i) h3];rw[h7]at h;intro hQ hc w0 FA UA w a blk FS US k1 k2 k3;obtain⟨e1,e2,e3,e4,e5⟩:=Xb h4;obtain⟨v,U,g1,g2,g3⟩:=hp _ _ _ _ _ _ _ _ _ k1;refine N8 (v:=v) (n:=ops.size) (HV h5) (Region.noSelect_spec e1) (λc a w hx=>?_) e4 e5 _ _ a w hc (Region.free_spec (HV h5) e2) e3 (.inl ⟨BO k1 h6,λw2 e=>?_⟩) ?_
 ·obtain⟨E',blk',FS',US',m1,_⟩:=hx
  grind
 ·exact g1 w2 λr hr=>⟨λb hb=>e.2 b (k1.inF r b hb).2,λb hb=>e.2 b (k1.inU r b hb).2⟩
 rw[h7];refine h hQ (JX hc e3) _ _ _ _ _ _ _ _ (k1.put h8 g2<|Od k1 g3 _) ?_ ?_
 ·grind [Bj]
 grind [Bj]
def AGc (o:Oper):Bool:=match o.op with
 | .assign (.const _)| .move (.const _)=>true
 |_=>false
theorem pjk (h:AGc o=true:=by kernel_rfl):oN P E o (.one .junk):=by
 intro N w0 FA UA w a blk FS US hr;unfold AGc at h;split at h
 ·rename_i v ho;exact⟨v,[],λw2 _=>by simp_all [execOp,Act.eval],by simp[IJ,DH,TV.isJunk],by simp⟩
 ·rename_i v ho;exact⟨v,[],λw2 _=>by simp_all [execOp,Act.eval],by simp[IJ,DH,TV.isJunk],by simp⟩
 cases h
abbrev pb (n:Nat):SV:= .one (.ptr (.box n) 0 [] 0)
abbrev px (n:Nat):SV:= .one (.ptr (.ext n) 0 [] 0)
abbrev i6 (n:Int):TV:= .int .i64 n
abbrev tb (b:Bool):TV:= .bool b
abbrev ts (s:ByteArray):TV:= .str s
abbrev rg (n:Nat):List AV:=List.replicate n .gone
theorem jr {w:β} {f:V->Option β} {a:V⊕β} (h:some (.inr w)=some a) (hk:Sum.elim f some a=some r):some w=some r:=by grind
theorem jo {o:S⊕(V⊕β)} {w:β} {f:V->Option β} (h:some (.inr (.inr w))=some o) (hk:∀w,o= .inr (.inr w)->Sum.elim f some (.inr w)=some r):some w=some r:=by grind
theorem rr {v r:β} (h:some v=some r):v=r:=Option.some.inj h
theorem rq {e:Exit} {rs:List ResultVar} {a:SV} (he:e= .normal\/e= .ret:=by first|exact .inr rfl|exact .inl rfl) (hk:(DF P E rs).map (λz=>Ep z.1)=some a:=by kernel_rfl):(e= .normal\/e= .ret)/\∃ss E',DF P E rs=some (ss,E')/\Ep ss=a:=⟨he,rsz hk⟩
theorem rx {e:Exit} {rs:List ResultVar} {b:SV} {a:List TV} (he:e= .normal\/e= .ret:=by first|exact .inr rfl|exact .inl rfl) (hk:(DF P E rs).map (λz=>(Ep z.1,z.2.boxes<|.ext 0))=some (b,some a):=by kernel_rfl):(e= .normal\/e= .ret)/\∃ss E',DF P E rs=some (ss,E')/\Ep ss=b/\E'.boxes (.ext 0)=some a:=⟨he,rsx hk⟩
section
variable {id:Nat}
theorem ws (h:RW P N ops 0 E (Ke (λE'=>Wp P N y E' Q) Q)):Wp P N (.seq (.region id ops false) y) E Q:=Wp.seq<|AER h
end
theorem B9 {f:α->List TV} {n:Int} (hf:∀x,(f x).length=sz) (h:(gi l n).bind kk=some r) (hk:∀x,gi l n=some x->kk x=some r->RW P N ops (i+1) (E.put (oA ops i).dst (qZ E (oA ops i) (n.toNat*sz+0))) Q) (hc:ACf P E (oA ops i) sz=some (A9 f l,n):=by kernel_rfl) (hq:qok P N ops i E=true:=by kernel_rfl):RW P N ops i E Q:=
 bd h λx gx h=>AFv (EL hf gx hc) (hk x gx h) hq
def wU (P:Program) (N:Nat) (ops:Array Oper) (ts dn:List Nat) (E:St) (i:Nat):Option St:=bif Nat.blt i ops.size&&HF N (oA ops i)&&zP ops ts dn i then
 (match Bm P ops E (oA ops i)with
 |some false=>some<|E.put (oA ops i).dst<|.tup []
 |some true=>match HR P E (oA ops i)with
  |some s=>some<|E.put (oA ops i).dst s
  |none=>xtE N E<|oA ops i
 |none=>none)else none
theorem tst {ts:List Nat} (hs:wU P N ops ts dn E i=some E') (h:KW P N ops ts (i::dn) E' Q):KW P N ops ts dn E Q:=by grind [AGx,AFG,Hg,wU,Sq]
def zE (P:Program) (N:Nat) (ops:Array Oper) (ts dn:List Nat) (E:St):List Nat->Option (Nat×St)
 |[]=>none
 |i::l=>match wU P N ops ts dn E i with
  |some E'=>some (i,E')
  |none=>zE P N ops ts dn E l
theorem rX {ts:List Nat}:∀{l:List Nat} {E':St},zE P N ops ts dn E l=some (i,E')->wU P N ops ts dn E i=some E'
 |[],_,h=>by cases h
 |j::l,E',h=>by
  simp only[zE]at h;split at h
  ·grind
  exact rX h
def AEO (P:Program) (N:Nat) (ops:Array Oper) (ts:List Nat) (mv:List Nat) (E:St) (i:Nat):Option St:=bif Sq P ops E i&&(kp (oA ops i)||ts.contains i)then Cf P N (mv.contains i) E (oA ops i)else none
def AEf (f:A->Option (List St)):List A->Option (List St)
 |[]=>some []
 |x::l=>match f x,AEf f l with
  |some a,some b=>some (a++b)
  |_,_=>none
theorem sQ {f:A->Option (List St)}:∀{l:List A} {L:List St},AEf f l=some L->∀x∈l,∃a,f x=some a/\∀E∈a,E∈L
 |[],_,_,x,hx=>by cases hx
 |y::l,L,h,x,hx=>by
  simp only[AEf]at h;split at h
  ·rename_i a b h1 h2
   injection h with h
   subst h
   rcases GC.1 hx with rfl|hx
   ·grind
   obtain⟨a',h3,h4⟩:=sQ h2 x hx
   grind
  cases h
def AAf (P:Program) (N:Nat) (ops:Array Oper) (ts mv:List Nat):Nat->List Nat->St->Option (List St)
 |0,_,_=>none
 |n+1,dn,E=>match Region.ready .any ops (lsd ops.size dn)with
  |[]=>some [E]
  |rs=>bif Nat.blt dn.length ops.size then(match zE P N ops ts dn E rs with
   |some (i,E')=>AAf P N ops ts mv n (i::dn) E'
   |none=>AEf (λi=>match AEO P N ops ts mv E i with
    |some E'=>AAf P N ops ts mv n (i::dn) E'
    |none=>none) rs)else none
theorem wM {ts:List Nat} {mv:List Nat}:∀{n:Nat} {dn:List Nat} {E:St} {L:List St},AAf P N ops ts mv n dn E=some L->(∀E'∈L,Q .normal E')->KW P N ops ts dn E Q
 |0,_,_,_,h,_=>by cases h
 |n+1,dn,E,L,h,hq=>by
  simp only[AAf]at h;split at h
  ·grind [KW.done]
  rename_i b
  cases hb:Nat.blt dn.length ops.size with
  |false=>grind
  |true=>
   rw[hb]at h;split at h
   ·rename_i i E' hf;exact tst (rX hf) (wM h hq)
   refine KW.all _ (λi hi=>?_) b (by grind [rdy]);obtain⟨a,h1,h2⟩:=sQ h i hi;split at h1
   ·rename_i E' hs;unfold AEO at hs
    cases hc:(Sq P ops E i&&(kp (oA ops i)||ts.contains i))with
    |false=>grind
    |true=>
     rw[hc]at hs;exact Dc hs (wM h1 λE'' hE=>hq E''<|h2 E'' hE) hc
   cases h1
def ABO (P:Program) (N:Nat) (ops:Array Oper) (ts mv dn:List Nat) (E:St):List St:=(AAf P N ops ts mv (ops.size+1) dn E).getD []
theorem nP {c:List PanicEntry} {X:Prop} (h:(Exit.panic c= .normal\/Exit.panic c= .ret)/\X):False:=by grind
section
variable {w0:Base} {a:Act}
theorem C5.resay (h:C5 w0 FA UA N w a E blk FS US) (hd:d<N) (hs:IJ w a E blk s (a.eval (.tmp d)) [] []):∃FS' US',C5 w0 FA UA N w a (E.put (some d) s) blk FS' US'/\FS' .hand=FS .hand/\US' .hand=US .hand:=by
 have k:=h.put (F:=[]) (U:=[]) hd hs Zr.none;have e:a.put (some d) (a.eval<|.tmp d)=a:=by
  cases a with
  |mk tmps defers=>simp_all [Act.put,Act.eval];grind
 grind [Bj]
end
theorem C5.toAdr {w0:Base} {a:Act} (h:C5 w0 FA UA N w a E blk FS US) (hd:d<N) (hs:E.ptr? (.tmp d)=some (.ext 0,[],0)) (hp:E.amb.pin=some b):∃FS' US',C5 w0 FA UA N w a (E.put (some d) (.one (.adr ⟨b,0,none⟩))) blk FS' US'/\FS' .hand=FS .hand/\US' .hand=US .hand:=by
 obtain⟨_,ad,h1,h2⟩:=IU h hs;refine h.resay hd ?_;rw[h2];have e:=h.xblk 0;rw[h.pin b hp]at e;simp only[pa,e,Addr.add]at h1
 injection h1 with h1
 subst h1;refine⟨?_,λ_=>rfl⟩;show Do w (.adr ⟨b,0,none⟩) _ [] [];simp[Do]
section
variable {w0:Base} {a:Act}
theorem C5.toPtr (h:C5 w0 FA UA N w a E blk FS US) (hd:d<N) (hs:E.slots d= .one (.adr ⟨b,0,none⟩)) (hp:E.amb.pin=some b) {c:List TV} (hb:E.boxes (.ext 0)=some c) (f:c.isEmpty=false):
  ∃FS' US',C5 w0 FA UA N w a (E.put (some d) (.one (.ptr (.ext 0) (E.gen (.ext 0)) [] 0))) blk FS' US'/\FS' .hand=FS .hand/\US' .hand=US .hand:=by
 have hv:a.eval (.tmp d)= .pointer (some ⟨b,0,none⟩):=by
  have:=h.slot d;rw[hs]at this;exact this.1.1
 refine h.resay hd ?_;have e:=h.xblk 0;rw[h.pin b hp]at e;refine⟨⟨rfl,rfl,A4 _,λ_=>⟨?_,⟨b,0,none⟩,?_,hv⟩⟩,λ_=>by rw[hv];rfl⟩
 ·grind [St.place,St.root,BC]
 grind [pa,Addr.add]
end
def pnE (E:St) (d b:Nat):St:=E.put (some d)<|.one<|.adr ⟨b,0,none⟩
def AE8 (N:Nat) (E:St) (d:Nat):Bool:=Nat.blt d N&&(match E.ptr? (.tmp d)with
 |some (.ext 0,[],0)=>true
 |_=>false)
theorem ADy (h:AE8 N E d=true):d<N/\E.ptr? (.tmp d)=some (.ext 0,[],0):=by grind [Fk,AE8]
theorem AGu (d:Nat) (h:RW P N ops i (pnE E d b) Q) (hp:E.amb.pin=some b:=by kernel_rfl) (ho:AE8 N E d=true:=by kernel_rfl):RW P N ops i E Q:=by
 intro w0 FA UA w a blk FS US hr hF hU;obtain⟨h1,h2⟩:=ADy ho;obtain⟨FS',US',k1,k2,k3⟩:=hr.toAdr h1 h2 hp;exact h _ _ _ _ _ _ _ _ k1 (by rw[k2,hF])<|by rw[k3,hU]
def npE (E:St) (d:Nat):St:=E.put (some d)<|.one<|.ptr (.ext 0) (E.gen<|.ext 0) [] 0
def ADJ (N:Nat) (E:St) (d:Nat):Bool:=Nat.blt d N&&(match E.boxes (.ext 0)with
 |some cells=>!cells.isEmpty
 |none=>false)
theorem yO (h:ADJ N E d=true):d<N/\∃a,E.boxes (.ext 0)=some a/\a.isEmpty=false:=by grind [Fk,ADJ]
theorem s7 (d:Nat) (h:RW P N ops i (npE E d) Q) (hp:E.amb.pin=some b:=by kernel_rfl) (hs:E.slots d= .one (.adr ⟨b,0,none⟩):=by kernel_rfl) (ho:ADJ N E d=true:=by kernel_rfl):RW P N ops i E Q:=by
 intro w0 FA UA w a blk FS US hr hF hU;obtain⟨h1,c,h2,h3⟩:=yO ho;obtain⟨FS',US',k1,k2,k3⟩:=hr.toPtr h1 hs hp h2 h3;exact h _ _ _ _ _ _ _ _ k1 (by rw[k2,hF])<|by rw[k3,hU]
theorem zN {ts:List Nat} (d:Nat) (h:KW P N ops ts dn (npE E d) Q) (hp:E.amb.pin=some b:=by kernel_rfl) (hs:E.slots d= .one (.adr ⟨b,0,none⟩):=by kernel_rfl) (ho:ADJ N E d=true:=by kernel_rfl):KW P N ops ts dn E Q:=by
 intro hq hc w0 FA UA w a blk FS US hr hF hU;obtain⟨h1,c,h2,h3⟩:=yO ho;obtain⟨FS',US',k1,k2,k3⟩:=hr.toPtr h1 hs hp h2 h3;exact h hq hc _ _ _ _ _ _ _ _ k1 (by rw[k2,hF])<|by rw[k3,hU]
structure eG (n c b g cap:Nat) (e T T':TypeId) (sz:Nat) (rest:List Value) (enc:γ->List TV) (w:World) (l:List γ):Prop where
 ne:b≠g/\c≠g/\c≠b
 len:l.length=n
 ptr:w.heap[c]?=some (.cells #[.pointer (some ⟨b,0,none⟩)] T' (0,0))
 box:w.heap[b]?=some (.cells (.slice (some ⟨g,0,none⟩) n cap::rest).toArray T (0,0))
 row:∃cur,w.heap[g]?=some (.cells cur e (0,0))/\cur.size=cap*sz/\cur.toList.take (l.length*sz)=(A9 enc l).map TV.val
 le:l.length<=cap/\cap<=maxLen
theorem xV {e:TypeId} {l:List γ} {n c b g cap:Nat} {rest:List Value} {enc:γ->List TV} (h:eG n c b g cap e T T' sz rest enc w l) (hk:k<l.length*sz):w.cell? ⟨g,k,none⟩=((A9 enc l).map TV.val)[k]? :=by
 obtain⟨a,h1,h2,h3⟩:=h.row
 grind [World.cell?]
def HT (n c b g cap:Nat) (e T T':TypeId) (sz:Nat) (rest:List Value) (enc:γ->List TV) (l:List γ):Sv where
 B:=[c,b,g]
 I:=λw=>eG n c b g cap e T T' sz rest enc w l
 st:=λw w' h hk=>⟨h.ne,h.len,by rw[hk c<|by simp];exact h.ptr,by rw[hk b<|by simp];exact h.box,by rw[hk g<|by simp];exact h.row,h.le⟩
 rd:=λad=>if ad.spot.isSome=true then none else if ad.block=c then(if ad.off=0 then some (.pointer<|some ⟨b,0,none⟩)else none)else if ad.block=b then(if ad.off=0 then some (.slice (some ⟨g,0,none⟩) n cap)else none)else if ad.block=g then(if ad.off<l.length*sz then((A9 enc l).map TV.val)[ad.off]? else none)else none
 rdI:=λw ad v h hr=>by
  obtain⟨bl,off,spot⟩:=ad
  cases spot with
  |some s=>simp at hr
  |none=>
   simp only[Option.isSome_none,JK,uY]at hr;split at hr
   ·rename_i hb;subst hb;split at hr
    ·rename_i ho;subst ho
     injection hr with hr
     subst hr;simp[World.cell?,h.ptr]
    cases hr
   split at hr
   ·rename_i hb;subst hb;split at hr
    ·rename_i ho;subst ho
     injection hr with hr
     subst hr;simp[World.cell?,h.box]
    cases hr
   grind [xV]
theorem pB {e:TypeId} {ie:TypeInfo} {c b g cap:Nat} {rest:List Value} {enc:γ->List TV} (h:∀x,(enc x).length=sz) (n:Nat) (gS:Bool) (hx:∀args W,(callFunc sf args).run P W=((Extern.ReflectliteSwapper.swap gS args).run P W).andThen λv w'=> .ok (.value v) w') (h6:P.info? e=some ie) (o:ie.size=sz) (q:∀w,(isAgg e).run P w= .ok true w):
  Ny P (HT n c b g cap e T T' sz rest enc) sf #[.slice (some ⟨g,0,none⟩) n cap,typeHandle P e]:=by
 intro l i j x y hi hj w hI hB;obtain⟨⟨r,s,t⟩,hn,u,h0,h3,h7⟩:=hI;have a5:b<w.heap.size:=hB b (by simp[HT]);have a6:c<w.heap.size:=hB c (by simp[HT]);have a7:g<w.heap.size:=hB g (by simp[HT]);obtain⟨f,hg,h8,h4⟩:=h3;obtain⟨i0,i1⟩:=IB hi;obtain⟨j0,j1⟩:=IB hj;obtain⟨a,rfl⟩:=Ck i0;obtain⟨d,rfl⟩:=Ck j0;simp only[Cj]at i1 j1;have la:=(Ad.1 i1).1;have lc:=(Ad.1 j1).1;have hX:((enc x).map TV.val).length=sz:=by grind
 have hY:((enc y).map TV.val).length=sz:=by grind
 have a4:l.length*sz<=f.size:=by simp_all [Cd]
 have h9:(a+1)*sz<=l.length*sz:=Cd _ la;have a0:(d+1)*sz<=l.length*sz:=Cd _ lc;rw[Mi]at h9 a0;have hI:eG n c b g cap e T T' sz rest enc w l:=⟨⟨r,s,t⟩,hn,u,h0,⟨f,hg,h8,h4⟩,h7⟩;have cell:∀(m:Nat) (z:γ),l[m]?=some z->∀k v,((enc z).map TV.val)[k]?=some v->w.cell? ⟨g,0+m*ie.size+k,none⟩=some v:=by
  intro m z hm k v hk;have a1:=(Ad.1 hk).1;rw[Ba,h]at a1;have lm:=(Ad.1 hm).1;have a2:(m+1)*sz<=l.length*sz:=Cd _ lm;rw[Mi]at a2;rw[o,Mh,xV hI<|by omega];have e1:(A9 enc l)[m*sz+k]?=(enc z)[k]? :=by
   have h2:(A9 enc l)[m*sz+k]?=((A9 enc l).drop<|m*sz)[k]? :=by grind
   grind [K6,AD,VG]
  grind
 have frz:∀(m k:Nat),w.frozen? ⟨g,0+m*ie.size+k,none⟩=false:=by grind [World.frozen?]
 have p:=Go.Lib.run_swap_cells (P:=P) gS e ie h6 q g 0 n cap a d (by omega) (by omega) ((enc x).map TV.val) ((enc y).map TV.val) (by rw[hX,o]) (by rw[hY,o]) (λv hv=>by grind [Zu]) (λv hv=>by grind [Zu]) w (cell a x i1) (cell d y j1) (λk _=>frz a k) λk _=>frz d k;simp only[Mh,o]at p;have h1:=JC e (0,0) g ((enc y).map TV.val) (a*sz) f w hg (by rw[hY];omega);have a8:(setRow f.toList (a*sz)<|(enc y).map TV.val).toArray.size=f.size:=by grind [Ed]
 have h2:=JC e (0,0) g ((enc x).map TV.val) (d*sz) _ _ h1 (by grind);have kB:∀k,k<w.heap.size->k≠g->((w.setCells g (a*sz)<|(enc y).map TV.val).setCells g (d*sz)<|(enc x).map TV.val).heap[k]?=w.heap[k]? :=by grind [World.heap_setCells_other]
 refine⟨(w.setCells g (a*sz)<|(enc y).map TV.val).setCells g (d*sz)<|(enc x).map TV.val,?_,⟨?_,?_,?_,?_,?_⟩,?_⟩
 ·rw[hx];have ea:(#[Value.int .i64 (a:Int),Value.int .i64 (d:Int)]++ #[Value.slice (some ⟨g,0,none⟩) n cap,typeHandle P e])= #[.int .i64 (a:Int),.int .i64 (d:Int),.slice (some ⟨g,0,none⟩) n cap,typeHandle P e]:=rfl;rw[ea,p];rfl
 ·rw[World.os_setCells,World.os_setCells]
 ·rw[Jp,Jp]
 ·rw[World.output_setCells,World.output_setCells]
 ·grind
 ·grind [HT]
 have h5:(si (si l (a:Int) y) (d:Int) x).length=l.length:=by simp[si]
 have lcur:f.toList.length=f.size:=by simp
 have a9:(setRow f.toList (a*sz)<|(enc y).map TV.val).length=f.size:=by omega
 have b0:(setRow (setRow f.toList (a*sz)<|(enc y).map TV.val) (d*sz)<|(enc x).map TV.val).length=f.size:=by grind [Ed]
 refine⟨⟨r,s,t⟩,h5.trans hn,by grind,by grind,⟨_,h2,?_,?_⟩,by grind⟩
 ·grind
 rw[h5];rw[M6 (by rw[hX];omega) (by grind),M6 (by rw[hY];omega) (by grind),h4,<-Rk,<-Rk];have e1:setRow (A9 enc l) (a*sz) (enc y)=A9 enc (si l (a:Int) y):=by
  have:=TJ h (z:=y) hi
  grind
 obtain⟨z0,a3⟩:∃z0,gi (si l (a:Int) y) (d:Int)=some z0:=by grind [si,gi]
 have e2:=TJ h (z:=x) a3
 grind
theorem yF {e:TypeId} {l:List γ} {n c b g cap:Nat} {rest:List Value} {enc:γ->List TV}:(HT n c b g cap e T T' sz rest enc l).rd ⟨c,0,none⟩=some (.pointer (some ⟨b,0,none⟩)):=by
 simp[HT]
theorem yG {e:TypeId} {l:List γ} {n c b g cap:Nat} {rest:List Value} {enc:γ->List TV} (h:c≠b):(HT n c b g cap e T T' sz rest enc l).rd ⟨b,0,none⟩=some (.slice (some ⟨g,0,none⟩) n cap):=by
 simp[HT,h.symm]
theorem yE {e:TypeId} {l:List γ} {i:Int} {t:TV} {n c b g cap:Nat} {rest:List Value} {enc:γ->List TV} (a:∀x,(enc x).length=sz) {x:γ} {ad:Addr} (hi:gi l i=some x) (hk:(enc x)[k]?=some t) (hb:b≠g) (hc:c≠g) (d:ad=⟨g,i.toNat*sz+k,none⟩):(HT n c b g cap e T T' sz rest enc l).rd ad=some t.val:=by
 subst d;obtain⟨i0,i1⟩:=IB hi;have lm:=(Ad.1 i1).1;have f:=(Ad.1 hk).1;rw[a]at f;have h:(i.toNat+1)*sz<=l.length*sz:=Cd _ lm;have e1:(A9 enc l)[i.toNat*sz+k]?=(enc x)[k]? :=by
  have h2:(A9 enc l)[i.toNat*sz+k]?=((A9 enc l).drop<|i.toNat*sz)[k]? :=by grind
  grind [K6,AD,VG]
 grind [HT]
theorem ACW (d:Nat) {ad:Addr} {x:Nat} (hk:F6 P N ops rest (E.put (some d) (.one (.adr ad))) K) (hs:E.slots x= .one (.adr ad)) (ho:o.op= .nilCheck (.tmp x):=by rfl) (hd:o.dst=some d:=by rfl) (hN:Nat.blt d N=true:=by rfl) (hg:Bm P ops E o=some true:=by rfl):F6 P N ops (o::rest) E K:=
 F6.any d (.adr ad) hk (λw0 FA UA w a blk FS US h=>by
  have h1:=oF h hs;refine⟨.pointer<|some ad,?_,by simp[Do],rfl⟩
  simp_all [execOp]) hd hN hg
def VH (o:Oper):Nat:=o.dst.getD 0
def AGK (E:St) (ops:Array Oper) (i:Nat) (r:Root) (t:TV):St:=(((((E.put (some<|VH<|oA ops i)<|.one .junk).put (some<|VH<|oA ops<|i+1)<|.one .junk).setRoot r [t]).bump r).put (some<|VH<|oA ops<|i+2)<|.tup [])
def AEW:Operand->Nat
 | .tmp n=>n
 |_=>0
def pE (o:Oper):Nat:=match o.op with
 | .makeInterface _ x=>AEW x
 |_=>0
def lB (o:Oper):Nat:=match o.op with
 | .makeFunc _ _ c=>AEW<|c[0]?.getD<|.tmp 0
 |_=>0
def AEY (o:Oper):Array TypeId:=match o.op with
 | .call c=>c.argTypes
 |_=> #[]
def g8 (s:SV):Nat:=match s with
 | .one (.view _ v _ _)=>v
 |_=>0
theorem RW.srt {rr:β} {l:List γ} {kk:List γ->Option β} {x:Option (List γ)} (h:x.bind kk=some rr) {enc:γ->List TV} {a:FuncId} (r:Root) (hs:∀l',x=some l'->UB P (Qy (oA ops (i+2))) t e sz enc a l l') (hk:∀l',x=some l'->kk l'=some rr->RW P N ops (i+3) (AGK E ops i r (.sl true e sz (A9 enc l'))) Q) (b:∀x,(enc x).length=sz) (d:∀x,(enc x).all TV.flat=true) (hx:E.slots (pE (oA ops i))= .one (.view r (g8 (E.slots (pE (oA ops i)))) [] 0):=by kernel_rfl) (c:E.ver r=g8 (E.slots<|pE<|oA ops i):=by kernel_rfl) (hp:E.ptr? (.tmp<|lB<|oA ops<|i+1)=some (r,[],0):=by kernel_rfl) (hc:E.boxes r=some [.sl true e sz<|A9 enc l]:=by kernel_rfl) (hm:r.mem=true:=by kernel_rfl) (h1:(oA ops i).op= .makeInterface t (.tmp<|pE<|oA ops i):=by kernel_rfl) (h2:(oA ops<|i+1).op= .makeFunc (.func a) #[] #[.tmp<|lB<|oA ops<|i+1]:=by kernel_rfl) (h3:(oA ops<|i+2).op= .call {callee:= .value (.func<|Qy<|oA ops<|i+2),args:= #[.tmp<|VH<|oA ops i,.tmp<|VH<|oA ops<|i+1],argTypes:=AEY (oA ops<|i+2)}:=by kernel_rfl) (k1:(oA ops i).dst=some (VH<|oA ops i):=by kernel_rfl) (k2:(oA ops<|i+1).dst=some (VH<|oA ops<|i+1):=by kernel_rfl) (k3:(oA ops<|i+2).dst=some (VH<|oA ops<|i+2):=by kernel_rfl) (g1:(oA ops i).guard=none:=by kernel_rfl) (g2:(oA ops<|i+1).guard=none:=by kernel_rfl) (g3:(oA ops<|i+2).guard=none:=by kernel_rfl) (hN:(Nat.blt (VH<|oA ops i) N&&Nat.blt (VH<|oA ops<|i+1) N&&Nat.blt (VH<|oA ops<|i+2) N&&!Nat.beq (VH<|oA ops i) (VH<|oA ops<|i+1)&&!Nat.beq (lB<|oA ops<|i+1) (VH<|oA ops i)&&Nat.blt 0 sz&&Nat.blt (i+2) ops.size)=true:=by kernel_rfl) (ht:P.underlying t=some (.slice e):=by kernel_rfl) (hf:UI P N (oA ops<|i+2)=true:=by kernel_rfl):RW P N ops i E Q:=by
 obtain⟨l',hl',h⟩:=Af.1 h;simp only[Ap,Dl]at hN;obtain⟨⟨⟨⟨⟨⟨q1,q2⟩,q3⟩,q4⟩,q5⟩,q6⟩,q7⟩:=hN;have b2:Nat.blt (i+1) ops.size=true:=by grind [Fk]
 have b1:Nat.blt i ops.size=true:=by grind [Fk]
 have hk':=hk l' hl' h;unfold RW at hk'⊢;rw[Gu b1,Gu b2,Gu q7];exact G8.srt (hs l' hl') hk' b d hx c hp hc hm h1 h2 h3 k1 k2 k3 g1 g2 g3 q1 q2 q3 q4 q5 q6 ht (PD hf).choose_spec.choose_spec.2.1
def oE (o:Oper):Nat:=match o.op with
 | .call c=>match c.args.toList with
  |[x]=>AEW x
  |_=>0
 |_=>0
def o6 (s:SV):Nat:=match s with
 | .one (.view (.slot n) _ _ _)=>n
 |_=>0
def Xn (P:Program) (f:FuncId) (t e sz:Nat) (enc:γ->List TV) (g:FuncId) (l l':List γ):Prop:=∀(w:World) (c b:Nat) (v:Value) (rest:List Value) (T T':TypeId),w.heap[c]?=some (.cells #[.pointer<|some ⟨b,0,none⟩] T' (0,0))->w.heap[b]?=some (.cells (v::rest).toArray T (0,0))->w.ownsRow 0 e sz v l.length ((A9 enc l).map TV.val)->b∉BK v->c∉BK v->c≠b->
  Calls P f #[.iface t v,.func (.func g) #[] #[.pointer<|some ⟨c,0,none⟩]] w λr w'=>r= .returned (.tuple #[])/\G7 w w' (c::b::BK v)/\w'.heap[c]?=w.heap[c]? /\w'.heap[b]?=w.heap[b]? /\w'.ownsRow 0 e sz v l'.length ((A9 enc l').map TV.val)
def ACe (c b:Nat) (v:Value) (rest:List Value) (T T':TypeId) (e sz n:Nat) (xs:List Value):Sv where
 B:=c::b::BK v
 I:=λw=>w.heap[c]?=some (.cells #[.pointer<|some ⟨b,0,none⟩] T' (0,0))/\w.heap[b]?=some (.cells (v::rest).toArray T (0,0))/\w.ownsRow 0 e sz v n xs
 st:=λw w' h hk=>⟨by grind,by grind,h.2.2.1,by
  rcases h.2.2.2 with q|⟨g,cap,a,rfl,q1,q2,q3⟩
  ·exact .inl q
  grind [BK,Value.ownBlock]⟩
theorem AEl {l l':List γ} {rc:Root} {o1 o2 o3:Oper} {ver:Nat} {enc:γ->List TV} {f c:FuncId} {rs:List TV} {d1 d2 d3 x p b0:Nat} {tys:Array TypeId} (hs:Xn P f t e sz enc c l l') (hk:G8 P N ops rest (((((E.put (some d1) (.one .junk)).put (some d2) (.one .junk)).setRoot (.ext 0) (.sl true e sz (A9 enc l')::rs)).bump (.ext 0)).put (some d3) (.tup [])) Q) (k:∀x,(enc x).length=sz) (j:∀x,(enc x).all TV.flat=true) (hpin:E.amb.pin=some b0) (hx:E.slots x= .one (.view (.ext 0) ver [] 0)) (a2:E.ver (.ext 0)=ver) (hp:E.ptr? (.tmp p)=some (rc,[],0)) (hc:E.boxes (.ext 0)=some (.sl true e sz (A9 enc l)::rs)) (m:E.boxes rc=some [.adr ⟨b0,0,none⟩]) (hm:rc.mem=true) (h1:o1.op= .makeInterface t (.tmp x)) (h2:o2.op= .makeFunc (.func c) #[] #[.tmp p]) (h3:o3.op= .call {callee:= .value (.func f),args:= #[.tmp d1,.tmp d2],argTypes:=tys}) (k1:o1.dst=some d1) (k2:o2.dst=some d2) (k3:o3.dst=some d3) (g1:o1.guard=none) (g2:o2.guard=none) (g3:o3.guard=none) (a7:Nat.blt d1 N=true) (a8:Nat.blt d2 N=true) (a9:Nat.blt d3 N=true) (c0:Nat.beq d1 d2=false) (a3:Nat.beq p d1=false) (c2:Nat.blt 0 sz=true) (ht:P.underlying t=some (.slice e)) (hf:gG P f):G8 P N ops (o1::o2::o3::rest) E Q:=by
 have hN1':d1<N:=by simp_all
 have hN2':d2<N:=by simp_all
 have hN3':d3<N:=by simp_all
 have hne':d1≠d2:=by intro e;simp_all
 have hne2':p≠d1:=by intro e;simp_all
 have hsz':0<sz:=by simp_all
 have h0:rc≠ .ext 0:=by grind
 intro w0 FA UA w a blk FS US hr hF hU;have a4:blk (.ext 0)=b0:=by rw[hr.xblk,hr.pin b0 hpin]
 obtain⟨v,vs,T,F2,U1,U2,b1,b2,b3,b4,b5⟩:∃v vs T F2 U1 U2,w.heap[blk<|.ext 0]?=some (.cells (v::vs).toArray T (0,0))/\(∃F1,Do w (.sl true e sz<|A9 enc l) v F1 U1/\FS (.ext 0)=blk (.ext 0)::(F1++F2))/\BB w rs vs F2 U2/\US (.ext 0)=U1++U2/\True:=by
  rcases hr.box (.ext 0) rfl with⟨q1,_⟩|⟨cs,g,T,F,q1,q2,q3,q4⟩
  ·grind
  rw[hc]at q1
  injection q1 with q1
  subst q1;simp only[BB]at q3;obtain⟨v,o,F1,F2,U1,U2,e1,rfl,e3,q5,q6⟩:=q3;have:g=(v::o).toArray:=by grind
  grind
 obtain⟨F1,b2,b6⟩:=b2;obtain⟨T',c1⟩:∃T',w.heap[blk rc]?=some (.cells #[.pointer<|some ⟨b0,0,none⟩] T' (0,0)):=by
  rcases hr.box rc hm with⟨q1,_⟩|⟨cs,g,T,F,q1,q2,q3,q4⟩
  ·grind
  rw[m]at q1
  injection q1 with q1
  subst q1;simp only[BB,Do]at q3;obtain⟨v,o,F1,F2,U1,U2,e1,rfl,e3,⟨rfl,_⟩,rfl,_⟩:=q3;have:g= #[.pointer<|some ⟨b0,0,none⟩]:=by grind
  grind
 have h4:blk rc∈FS rc:=by
  rcases hr.box rc hm with⟨q1,_⟩|⟨cs,g,T,F,q1,q2,q3,q4⟩
  ·grind
  rw[q4];simp
 simp only[Do]at b2;obtain⟨n,xs,F',b7,b8,rfl⟩:=b2;have h5:=WA b8<|GX j l;obtain⟨rfl,rfl⟩:=LW b8<|GX j l;subst h5;have h6:n=l.length:=by
  have q:=b7.1;rw[Ba,E0 k l]at q
  grind [Nat.eq_of_mul_eq_mul_right]
 subst h6;rw[AW]at b6;rw[Az]at b4;have u:=hr.nodup<|.ext 0;rw[b6]at u
 have h7:blk (.ext 0)∉BK v:=λhx=>(CY.1 u).1<|Ce _ hx
 have y:∀x∈FS (.ext 0),x≠blk rc:=λx hx e=>hr.dis _ _ h0 _ h4<|e▸hx
 have h8:blk rc∉BK v:=λhx=>y (blk rc) (by grind) rfl
 have h9:blk rc≠blk (.ext 0):=λe=>y (blk<|.ext 0) (by rw[b6];simp) e.symm
 have evx:a.eval (.tmp x)=v:=by
  have q:=hr.slot x;simp_all [IJ,DH,pv,Bt,Addr.add,World.cell?]
 have evp:a.eval (.tmp p)= .pointer (some ⟨blk rc,0,none⟩):=by
  obtain⟨_,ad,q1,q2⟩:=IU hr hp;rw[q2]
  cases rc with
  |slot n=>cases hm
  |hand=>cases hm
  |box n=>grind [pa,Addr.add]
  |ext n=>grind [pa,Addr.add]
 obtain⟨FS1,US1,r1,r2,r3⟩:=WM hr hF hU hN1'<|.iface t v;have e1:(execOp a.eval o1).run P w= .ok (.value<|.iface t v) w:=by simp_all [run_underlying,execOp,Instr.makeInterface]
 simp only[wpList,BO hr<|JW (P:=P) (ops:=ops) g1,C7];refine .inl ?_
 try unfold Oper.wp
 rw[e1,Oper.upon_value,k1];have evp1:(a.put (some d1)<|.iface t v).eval (.tmp p)= .pointer (some ⟨blk rc,0,none⟩):=by grind [CX]
 obtain⟨FS2,US2,s1,s2,s3⟩:=WM r1 r2 r3 hN2'<|.func (.func c) #[] #[.pointer<|some ⟨blk rc,0,none⟩];have e2:(execOp (a.put (some d1)<|.iface t v).eval o2).run P w= .ok (.value<|.func (.func c) #[] #[.pointer<|some ⟨blk rc,0,none⟩]) w:=by simp_all [execOp,Instr.makeFunc]
 simp only[wpList,BO r1<|JW (P:=P) (ops:=ops) g2,C7];refine .inl ?_
 try unfold Oper.wp
 rw[e2,Oper.upon_value,k2];simp only[wpList,BO s1<|JW (P:=P) (ops:=ops) g3,C7];refine .inl ?_;have c6:d1<a.tmps.size:=AK hN1' hr.len;have c7:d2<(a.put (some d1)<|.iface t v).tmps.size:=AK hN2' r1.len
 try unfold Oper.wp
 rw[Iu h3 hf];have ea: #[Operand.tmp d1,.tmp d2].map ((a.put (some d1)<|.iface t v).put (some d2)<|.func (.func c) #[] #[.pointer<|some ⟨blk rc,0,none⟩]).eval= #[.iface t v,.func (.func c) #[] #[.pointer<|some ⟨blk rc,0,none⟩]]:=by grind [IC,CX]
 rw[ea];simp only[Oper.upon];refine Calls.mono (hs w (blk rc) (blk<|.ext 0) v vs T T' (by grind) b1 b7 h7 h8 h9) ?_;rintro ee w' ⟨rfl,h,c8,d0,a0⟩;have a1:((E.put (some d1)<|.one .junk).put (some d2)<|.one .junk).boxes (.ext 0)=some (.sl true e sz (A9 enc l)::rs):=hc;obtain⟨G1,G2,V2,f1,f2,f3,f4⟩:∃G1 G2 V2,FS2 (.ext 0)=blk (.ext 0)::(G1++G2)/\G1=BK v/\US2 (.ext 0)=V2/\BB w rs vs G2 V2:=by
  rcases s1.box (.ext 0) rfl with⟨q1,_⟩|⟨cs,g,T2,F2,q1,q2,q3,q4⟩
  ·grind
  grind [LW,GX,BB,Do]
 subst f2;have i:=s1.nodup<|.ext 0;rw[f1]at i;have a5:blk rc∈FS2 rc:=by
  have a6:((E.put (some d1)<|.one .junk).put (some d2)<|.one .junk).boxes rc=some [.adr ⟨b0,0,none⟩]:=m
  rcases s1.box rc hm with⟨q1,_⟩|⟨cs,g,T,F,q1,q2,q3,q4⟩
  ·grind
  rw[q4];simp
 have keepb:∀b,b<w.heap.size->b∉BK v->w'.heap[b]?=w.heap[b]? :=by
  intro b hb hv;by_cases q1:b=blk rc
  ·grind
  by_cases q2:b=blk (.ext 0)
  ·grind
  exact h.keep b hb<|by grind
 have z:G7 w w' (FS2<|.ext 0):=⟨h.os,h.tape,h.output,h.size,λb hb hn=>keepb b hb λhv=>hn<|by grind⟩
 have hG:∀b∈G2,w'.heap[b]?=w.heap[b]? :=λb hb=>keepb b (s1.inF (.ext 0) b<|by grind).2
  (λhv=>(Dk.1 (CY.1 i).2).2.2 b hv b hb rfl)
 have hV:∀b∈V2,w'.heap[b]?=w.heap[b]? :=λb hb=>keepb b (s1.inU (.ext 0) b (by rw[f3];exact hb)).2
  (λhv=>s1.disU (.ext 0) (.ext 0) b (by grind) (by rw[f3];exact hb))
 obtain⟨FS3,US3,t1,t2,t3⟩:=s1.turn s2 s3 (r:= .ext 0) rfl a1 (cells':= .sl true e sz (A9 enc l')::rs) (by simp) (w':=w') z
  ⟨(
   v::vs).toArray,T,BK v++G2,by grind,by
   rw[f3];simp only[BB];refine⟨v,vs,BK v,G2,[],V2,by simp,rfl,rfl,?_,FM f4 hG hV⟩;simp only[Do]
   exact⟨l'.length,_,[],a0,VX<|GX j l',by simp⟩,f1⟩
 obtain⟨FS4,US4,u1,u2,u3⟩:=t1.land (w':=w') (d:=d3) (s:= .tup []) (v:= .tuple #[]) (F:=[]) (U:=[]) hN3' (by simp[IJ,Sx]) Dx (by simp) (by simp) (A4 _) rfl rfl rfl λ_ _ _=>rfl;rw[k3];exact hk _ _ _ _ _ _ _ _ u1 u2 u3
def AEt:Option (List TV)->List TV
 |some (_::ts)=>ts
 |_=>[]
def rt0:Option (Root×List Nat×Nat)->Root
 |some (r,_,_)=>r
 |none=> .hand
def s2E (E:St) (ops:Array Oper) (i:Nat) (t:TV):St:=(((((E.put (some<|VH<|oA ops i)<|.one .junk).put (some<|VH<|oA ops<|i+1)<|.one .junk).setRoot (.ext 0) (t::AEt (E.boxes<|.ext 0))).bump<|.ext 0).put (some<|VH<|oA ops<|i+2)<|.tup [])
theorem AFu {rr:β} {l:List γ} {kk:List γ->Option β} {b0:Nat} {x:Option (List γ)} (h:x.bind kk=some rr) {enc:γ->List TV} {a:FuncId} (hs:∀l',x=some l'->Xn P (Qy (oA ops (i+2))) t e sz enc a l l') (hk:∀l',x=some l'->kk l'=some rr->RW P N ops (i+3) (s2E E ops i (.sl true e sz (A9 enc l'))) Q) (b:∀x,(enc x).length=sz) (d:∀x,(enc x).all TV.flat=true) (hpin:E.amb.pin=some b0:=by kernel_rfl) (hx:E.slots (pE<|oA ops i)= .one (.view (.ext 0) (g8<|E.slots<|pE<|oA ops i) [] 0):=by kernel_rfl) (c:E.ver (.ext 0)=g8 (E.slots<|pE<|oA ops i):=by kernel_rfl) (hp:E.ptr? (.tmp<|lB<|oA ops<|i+1)=some (rt0<|E.ptr?<|.tmp<|lB<|oA ops<|i+1,[],0):=by kernel_rfl) (hc:E.boxes (.ext 0)=some (.sl true e sz (A9 enc l)::AEt (E.boxes<|.ext 0)):=by kernel_rfl) (f:E.boxes (rt0<|E.ptr?<|.tmp<|lB<|oA ops<|i+1)=some [.adr ⟨b0,0,none⟩]:=by kernel_rfl) (hm:(rt0<|E.ptr?<|.tmp<|lB<|oA ops<|i+1).mem=true:=by kernel_rfl) (h1:(oA ops i).op= .makeInterface t (.tmp<|pE<|oA ops i):=by kernel_rfl) (h2:(oA ops<|i+1).op= .makeFunc (.func a) #[] #[.tmp<|lB<|oA ops<|i+1]:=by kernel_rfl) (h3:(oA ops<|i+2).op= .call {callee:= .value (.func<|Qy<|oA ops<|i+2),args:= #[.tmp<|VH<|oA ops i,.tmp<|VH<|oA ops<|i+1],argTypes:=AEY (oA ops<|i+2)}:=by kernel_rfl) (k1:(oA ops i).dst=some (VH<|oA ops i):=by kernel_rfl) (k2:(oA ops<|i+1).dst=some (VH<|oA ops<|i+1):=by kernel_rfl) (k3:(oA ops<|i+2).dst=some (VH<|oA ops<|i+2):=by kernel_rfl) (g1:(oA ops i).guard=none:=by kernel_rfl) (g2:(oA ops<|i+1).guard=none:=by kernel_rfl) (g3:(oA ops<|i+2).guard=none:=by kernel_rfl) (hN:(Nat.blt (VH<|oA ops i) N&&Nat.blt (VH<|oA ops<|i+1) N&&Nat.blt (VH<|oA ops<|i+2) N&&!Nat.beq (VH<|oA ops i) (VH<|oA ops<|i+1)&&!Nat.beq (lB<|oA ops<|i+1) (VH<|oA ops i)&&Nat.blt 0 sz&&Nat.blt (i+2) ops.size)=true:=by kernel_rfl) (ht:P.underlying t=some (.slice e):=by kernel_rfl) (hf:UI P N (oA ops<|i+2)=true:=by kernel_rfl):RW P N ops i E Q:=by
 obtain⟨l',hl',h⟩:=Af.1 h;simp only[Ap,Dl]at hN;obtain⟨⟨⟨⟨⟨⟨q1,q2⟩,q3⟩,q4⟩,q5⟩,q6⟩,q7⟩:=hN;have b2:Nat.blt (i+1) ops.size=true:=by grind [Fk]
 have b1:Nat.blt i ops.size=true:=by grind [Fk]
 have hk':=hk l' hl' h;unfold RW at hk'⊢;rw[Gu b1,Gu b2,Gu q7];exact AEl (hs l' hl') hk' b d hpin hx c hp hc f hm h1 h2 h3 k1 k2 k3 g1 g2 g3 q1 q2 q3 q4 q5 q6 ht (PD hf).choose_spec.choose_spec.2.1
theorem AGZ {a cells':List TV} {b:SV} (hf:P.funcs[f]?=some fn) (hb:fn.body=some c) (hN:fn.ntmps=N) (h:∀b0,Wp P N c (Dw (.ext a::as) (qL b0)) λe E=>(e= .normal\/e= .ret)/\∃ss E',DF P E fn.results.toList=some (ss,E')/\Ep ss=b/\E'.boxes (.ext 0)=some cells') (d:cells'.isEmpty=false:=by rfl):Av P f (.ext a::as) b (.ext cells'::List.replicate as.length .gone):=dA qL ADz hf hb (by rw[hN];exact h) d
def nX (P:Program) (N:Nat) (ops:Array Oper) (E:St) (i:Nat):Option (FuncId×Array Value×Int×Int):=bif Sq P ops E i&&HF N (oA ops i)then
 (match(oA ops i).op with
 | .call c=>match c.callee,c.args.toList with
  | .value (.tmp t),[o1,o2]=>match E.slots t,E.cell1 P 0 o1,E.cell1 P 0 o2 with
   | .one (.fn (.func g) fr cap),some<|.int .i64 x,some (.int .i64 y)=>bif fr.isEmpty then some (g,cap,x,y)else none
   |_,_,_=>none
  |_,_=>none
 |_=>none)else none
theorem jY {cap:Array Value} {x y:Int} (h:nX P N ops E i=some (g,cap,x,y)):Sq P ops E i=true/\(∃d,(oA ops i).dst=some d/\Nat.blt d N=true)/\∃t o1 o2 tys,(oA ops i).op= .call {callee:= .value (.tmp t),args:= #[o1,o2],argTypes:=tys}/\E.slots t= .one (.fn (.func g) #[] cap)/\E.cell1 P 0 o1=some (.int .i64 x)/\E.cell1 P 0 o2=some (.int .i64 y):=by
 unfold nX at h
 cases hb:(Sq P ops E i&&HF N (oA ops i))with
 |false=>grind
 |true=>
  rw[hb]at h;simp only[Ap]at hb;obtain⟨d,h1,h2,_⟩:=DW hb.2;refine⟨hb.1,⟨d,h1,h2⟩,?_⟩;split at h
  ·rename_i c hc;split at h
   ·rename_i t o1 o2 k1 k2;split at h
    ·rename_i g' fr cap' x' y' m1 m2 m3
     cases he:fr.isEmpty with
     |false=>grind
     |true=>
      rw[he]at h;obtain⟨rfl,rfl,rfl,rfl⟩:=h;have a:fr= #[]:=by simpa using he
      subst a;have ha:c.args= #[o1,o2]:=Array.toList_inj.1 k2;rw[hc];cases c
      grind
    cases h
   cases h
  cases h
theorem zM {rr:β} {lt:γ->γ->Bool} {l:List γ} {k:γ×γ->Option β} {cap:Array Value} (a:II P Am lt g cap) {x y:Int} (h:(gi2 l x y).bind k=some rr) (hk:∀v,k v=some rr->RW P N ops (i+1) (E.put (oA ops i).dst (.one (.bool (lt v.1 v.2)))) Q) (hc:nX P N ops E i=some (g,cap,x,y):=by kernel_rfl) (hA:E.amb=Am l:=by kernel_rfl):RW P N ops i E Q:=by
 obtain⟨h1,⟨d,h2,h3⟩,t,o1,o2,tys,h4,h5,h6,h7⟩:=jY hc;obtain⟨h8,h9⟩:=GR h1
 grind [Gu,AEm,RW]
theorem zL {rr:β} {l:List γ} {k:List γ->Option β} {cap:Array Value} (a:Ny P Am sf cap) (hB:∀l l',(Am l).B=(Am l').B/\(Am l).pin=none) {x y:Int} (h:(tP l x y).bind k=some rr) (hk:∀v,k v=some rr->RW P N ops (i+1) (({E with amb:=Am v}:St).put (oA ops i).dst<|.tup []) Q) (hc:nX P N ops E i=some (sf,cap,x,y):=by kernel_rfl) (hA:E.amb=Am l:=by kernel_rfl):RW P N ops i E Q:=by
 obtain⟨h1,⟨d,h2,h3⟩,t,o1,o2,tys,h4,h5,h6,h7⟩:=jY hc;obtain⟨h8,h9⟩:=GR h1
 grind [Gu,AEk,RW]
def AEN (P:Program) (N:Nat) (ops:Array Oper) (E:St) (i:Nat):Option (FuncId×List AV):=bif Sq P ops E i&&HF N (oA ops i)then
 (match(oA ops i).op with
 | .call c=>match c.callee with
  | .value (.func f)=>match P.funcs[f]? with
   |some fn=>match JQ P E ((c.argTypes.toList.zip c.args.toList).map λ(t,x)=>(false,t,x)) (List.replicate c.args.size none)with
    | some (l, b) => bif b && (l.all vV && (!(fn.name == "runtime.NumGoroutine") && (!fn.body.isNone && Nat.beq c.argTypes.size c.args.size))) then some (f, l) else none
    |none=>none
   |none=>none
  |_=>none
 |_=>none)else none
theorem T9 {rr:β} {l:List AV} {k:List γ->Option β} {x:Option (List γ)} (h:x.bind k=some rr) (hB:∀l l',(Am l).B=(Am l').B/\(Am l).pin=none) (a:∀v,x=some v->N1 P f (Am xl) l (Am v)) (hk:∀v,k v=some rr->RW P N ops (i+1) (({E with amb:=Am v}:St).put (oA ops i).dst<|.tup []) Q) (hc:AEN P N ops E i=some (f,l):=by kernel_rfl) (hA:E.amb=Am xl:=by kernel_rfl):RW P N ops i E Q:=by
 unfold AEN at hc
 cases hb:(Sq P ops E i&&HF N (oA ops i))with
 |false=>grind
 |true=>
  rw[hb]at hc;simp only[Ap]at hb;obtain⟨d,h1,h2,_⟩:=DW hb.2;obtain⟨h8,h9⟩:=GR hb.1;split at hc
  ·rename_i c j;split at hc
   ·split at hc
    ·rename_i fn e;split at hc
     ·rename_i l' b g
      cases hq : (b && (l'.all vV && (!(fn.name == "runtime.NumGoroutine") && (!fn.body.isNone && Nat.beq c.argTypes.size c.args.size)))) with
      |false=>grind
      |true=>
       rw[hq]at hc;obtain⟨rfl,rfl⟩:=hc;simp only[Ap,Dl]at hq;obtain⟨rfl,q1,q2,q3,q4⟩:=hq;unfold RW;rw[Gu h8];refine AFE (fn:=fn) h d Am (A:=Am xl) (args:=c.args) (tys:=c.argTypes) ?_ hA (λv=>⟨(hB _ _).1,(hB _ v).2⟩) g (eA q1) a (λv _ hv=>by have:=hk v hv;rw[h1]at this;exact this) e q2 q3 h1 h2 (AT q4) h9;cases c
       grind
     cases hc
    cases hc
   cases hc
  cases hc
theorem ra {Am:α->Sv} {e:Exit} {v r:α} (h:some v=some r) (he:e= .normal\/e= .ret:=by first|exact .inr rfl|exact .inl rfl) (hA:E.amb=Am v:=by kernel_rfl):(e= .normal\/e= .ret)/\E.amb=Am r:=by grind
structure RS where
 s:List (Nat×SV)
 b:List (Root×List TV)
 a:Sv
def RS.st (x:RS):St:=AGa x.s x.b x.a
abbrev rs (s:List (Nat×SV)) (b:List (Root×List TV)):RS:=⟨s,b,Sv.none⟩
abbrev SJ (s:List (Nat×SV)) (b:List (Root×List TV)) (a:Sv):RS:=⟨s,b,a⟩
def RS.in (X:RS) (E:St):Bool:=X.b.all λr=>r.1.mem&&(E.boxes r.1).isSome
def RS.nf (X:RS) (E:St):St:=Nx E (X.s.map Prod.fst)<|X.b.map Prod.fst
def Z7 (X:RS) (E:St):Prop:=X.in E=true/\X.nf E=X.st
def jR (H:V->RS) (v:Option V) (Q:Exit->St->Prop):Exit->St->Prop
 | .normal,E=>∃a,v=some a/\Z7 (H a) E
 |e,E=>Q e E
def lR (id:Nat) (H:S->RS) (H2:V->RS) (o:S⊕V⊕W) (Q:Exit->St->Prop):Exit->St->Prop
 | .normal,E=>∃s,o= .inl s/\Z7 (H s) E
 | .exit i,E=>if i=id then∃v,o= .inr (.inl v)/\Z7 (H2 v) E else Q (.exit i) E
 |e,E=>Q e E
def lR1 (id:Nat) (H:S->RS) (H2:V->RS) (o:S⊕V) (Q:Exit->St->Prop):Exit->St->Prop
 | .normal,E=>∃s,o= .inl s/\Z7 (H s) E
 | .exit i,E=>if i=id then∃v,o= .inr v/\Z7 (H2 v) E else Q (.exit i) E
 |e,E=>Q e E
variable {X:RS} {H:V->RS} {H2:V->RS}
theorem An (h:Z7 X E) (hw:Wp P N c X.st Q):Wp P N c E Q:=Wp.norm _ _ _ (by rw[List.all_map];exact h.1) h.2 hw
theorem Su {k:V->Option β} {x:Option V} (h:x.bind k=some r) (H:V->RS) (h1:∀a,x=some a->Wp P N c E (jR H (some a) Q)) (h2:∀a,k a=some r->∀E',Z7 (H a) E'->Q .normal E'):Wp P N c E Q:=by
 obtain⟨a,ha,h⟩:=Af.1 h
 refine Wp.mono (h1 a ha) λe E' hq=>?_
 cases e<;>try exact hq
 obtain⟨a',h3,h4⟩:=hq
 grind
theorem fj2 {k:V⊕W->Option β} {x:Option (V⊕W)} (h:x.bind k=some r) (H:V->RS) (h1:∀a,x=some a->k a=some r->Wp P N c E (jR H a.getLeft? Q)) (h2:∀a,k (.inl a)=some r->∀E',Z7 (H a) E'->Q .normal E'):Wp P N c E Q:=by
 obtain⟨a,ha,h⟩:=Af.1 h
 refine Wp.mono (h1 a ha h) λe E' hq=>?_
 cases e<;>try exact hq
 obtain⟨a',h3,h4⟩:=hq
 grind
theorem SK {H:S->RS} {Q':Exit->St->Prop} {body:S->Option (S⊕A)} {a:A} (hb:∀s o,body s=some o->(∀a',o= .inr a'->a'=a)->Wp P N c (H s).st (λe E=>match e with| .normal=>∃s,o= .inl s/\Z7 (H s) E|e=>Q' e E)):
  ∀{n:Nat} {s:S} {E:St},Z7 (H s) E->QY body n s=some a->oM P N c Q' n E
 |0,s,E,_,h=>by cases h
 |n+1,s,E,hn,h=>by
  simp only[QY]at h;refine An hn ?_;split at h
  ·cases h
  ·rename_i s' hs
   refine Wp.mono (hb s _ hs (λa' h=>by cases h)) λe E' hq=>?_
   cases e<;>try exact hq
   obtain⟨s2,h2,h3⟩:=hq
   injection h2 with h2
   subst h2;exact SK hb h3 h
  rename_i a' hs
  refine Wp.mono (hb s _ hs λa2 h2=>by grind) λe E' hq=>?_
  cases e<;>try exact hq
  grind
theorem AGg {id:Nat} {k:V⊕W->Option β} {H:S->RS} {body:S->Option (S⊕V⊕W)} (h:(Ah body s0).bind k=some r) (h0:Z7 (H s0) E) (hb:∀s o,body s=some o->(∀w,o= .inr (.inr w)->k (.inr w)=some r)->Wp P N c (H s).st (lR id H H2 o Q)) (h2:∀v,k (.inl v)=some r->∀E',Z7 (H2 v) E'->Q .normal E'):Wp P N (.block id (.loop c)) E Q:=by
 obtain⟨a,ha,h⟩:=Af.1 h;obtain⟨n,hn⟩:=HI.1 ha;refine Wp.block<|Wp.loop n<|SK (H:=H) (a:=a) (λs o hs ho=>?_) h0 hn
 refine Wp.mono (hb s o hs λw hw=>by grind) λe E' hq=>?_
 simp_all [lR,Yb];grind
theorem AGh {id:Nat} {k:V->Option β} {H:S->RS} {body:S->Option (S⊕V)} (h:(Ah body s0).bind k=some r) (h0:Z7 (H s0) E) (hb:∀s o,body s=some o->Wp P N c (H s).st (lR1 id H H2 o Q)) (h2:∀v,k v=some r->∀E',Z7 (H2 v) E'->Q .normal E'):Wp P N (.block id (.loop c)) E Q:=by
 obtain⟨a,ha,h⟩:=Af.1 h;obtain⟨n,hn⟩:=HI.1 ha;refine Wp.block<|Wp.loop n<|SK (H:=H) (a:=a) (λs o hs ho=>?_) h0 hn
 refine Wp.mono (hb s o hs) λe E' hq=>?_
 simp_all [lR1,Yb];grind
theorem K5 {id:Nat} {k:V⊕W->Option β} {body:S->Option (S⊕V⊕W)} (h:(Ah body s0).bind k=some r) (H:S->RS) (H2:V->RS) (hb:∀s o,body s=some o->(∀w,o= .inr (.inr w)->k (.inr w)=some r)->Wp P N c (H s).st (lR id H H2 o Q)) (h2:∀v,k (.inl v)=some r->∀E',Z7 (H2 v) E'->Q .normal E') (h0:(H s0).in E=true:=by kernel_rfl) (hn:(H s0).nf E=(H s0).st:=by kernel_rfl):Wp P N (.block id<|.loop c) E Q:=AGg h ⟨h0,hn⟩ hb h2
theorem D7 {id:Nat} {k:V->Option β} {body:S->Option (S⊕V)} (h:(Ah body s0).bind k=some r) (H:S->RS) (H2:V->RS) (hb:∀s o,body s=some o->Wp P N c (H s).st (lR1 id H H2 o Q)) (h2:∀v,k v=some r->∀E',Z7 (H2 v) E'->Q .normal E') (h0:(H s0).in E=true:=by kernel_rfl) (hn:(H s0).nf E=(H s0).st:=by kernel_rfl):Wp P N (.block id<|.loop c) E Q:=AGh h ⟨h0,hn⟩ hb h2
theorem CE {k:V->Option β} {x:Option V} (h:x.bind k=some r) (H:V->RS) (h1:∀a,x=some a->Wp P N c E (jR H (some a) (Ke (λE'=>Wp P N y E' Q) Q))) (h2:∀a,k a=some r->Wp P N y (H a).st Q):Wp P N (.seq c y) E Q:=Wp.seq<|Su h H h1 λa ha E' hE=>An hE<|h2 a ha
theorem yl1 {id:Nat} {k:V->Option β} {body:S->Option (S⊕V)} (h:(Ah body s0).bind k=some r) (H:S->RS) (H2:V->RS) (hb:∀s o,body s=some o->Wp P N c (H s).st (lR1 id H H2 o (Ke (λE'=>Wp P N y E' Q) Q))) (h2:∀v,k v=some r->Wp P N y (H2 v).st Q) (h0:(H s0).in E=true:=by kernel_rfl) (hn:(H s0).nf E=(H s0).st:=by kernel_rfl):Wp P N (.seq (.block id<|.loop c) y) E Q:=Wp.seq<|AGh h ⟨h0,hn⟩ hb λv hv E' hE=>An hE<|h2 v hv
theorem yl2 {id:Nat} {k:V⊕W->Option β} {body:S->Option (S⊕V⊕W)} (h:(Ah body s0).bind k=some r) (H:S->RS) (H2:V->RS) (hb:∀s o,body s=some o->(∀w,o= .inr (.inr w)->k (.inr w)=some r)->Wp P N c (H s).st (lR id H H2 o (Ke (λE'=>Wp P N y E' Q) Q))) (h2:∀v,k (.inl v)=some r->Wp P N y (H2 v).st Q) (h0:(H s0).in E=true:=by kernel_rfl) (hn:(H s0).nf E=(H s0).st:=by kernel_rfl):Wp P N (.seq (.block id<|.loop c) y) E Q:=Wp.seq<|AGg h ⟨h0,hn⟩ hb λv hv E' hE=>An hE<|h2 v hv
theorem en {a v:V} (h:some v=some a) (hb:(H v).in E=true:=by kernel_rfl) (hn:(H v).nf E=(H v).st:=by kernel_rfl):∃a',some a=some a'/\Z7 (H a') E:=by
 injection h with h
 subst h;exact⟨_,rfl,hb,hn⟩
theorem em {a:V⊕W} {v:V} (h:some (.inl v)=some a) (hb:(H v).in E=true:=by kernel_rfl) (hn:(H v).nf E=(H v).st:=by kernel_rfl):∃a',a.getLeft? =some a'/\Z7 (H a') E:=by
 injection h with h
 subst h;exact⟨_,rfl,hb,hn⟩
theorem el {H:S->RS} {o:S⊕W} {s:S} (h:some (.inl s)=some o) (hb:(H s).in E=true:=by kernel_rfl) (hn:(H s).nf E=(H s).st:=by kernel_rfl):∃s,o= .inl s/\Z7 (H s) E:=by
 injection h with h
 subst h;exact⟨_,rfl,hb,hn⟩
theorem ex {o:S⊕(V⊕W)} {v:V} (h:some (.inr (.inl v))=some o) (hb:(H v).in E=true:=by kernel_rfl) (hn:(H v).nf E=(H v).st:=by kernel_rfl):∃v,o= .inr (.inl v)/\Z7 (H v) E:=by
 injection h with h
 subst h;exact⟨_,rfl,hb,hn⟩
theorem ev {o:S⊕V} {v:V} (h:some (.inr v)=some o) (hb:(H v).in E=true:=by kernel_rfl) (hn:(H v).nf E=(H v).st:=by kernel_rfl):∃v,o= .inr v/\Z7 (H v) E:=by
 injection h with h
 subst h;exact⟨_,rfl,hb,hn⟩
def AFb (P:Program) (N:Nat) (ops:Array Oper) (ts mv dn:List Nat) (E:St) (X:RS):Bool:=match AAf P N ops ts mv (ops.size+1) dn E with
 |some L=>L.all λE'=>X.in E'
 |none=>false
theorem ADB {ts:List Nat} {mv:List Nat} (hb:AFb P N ops ts mv dn E X=true) (hn:(ABO P N ops ts mv dn E).map X.nf=(ABO P N ops ts mv dn E).map λ_=>X.st) (hq:∀E',Z7 X E'->Q .normal E'):KW P N ops ts dn E Q:=by
 unfold AFb at hb;split at hb
 ·rename_i L hL
  refine wM hL λE' hE=>hq E' ⟨GZ.1 hb E' hE,?_⟩
  simp_all [ABO]
 cases hb
section
variable {ts:List Nat}
theorem Pc {Q0:Exit->St->Prop} {a v:V} (mv:List Nat) (h:some v=some a) (hb:AFb P N ops ts mv dn E (H v)=true:=by kernel_rfl) (hn:(ABO P N ops ts mv dn E).map (H v).nf=(ABO P N ops ts mv dn E).map (λ_=>(H v).st):=by kernel_rfl):KW P N ops ts dn E (jR H (some a) Q0):=
 ADB hb hn λE' hE=>by
  injection h with h
  subst h;exact⟨_,rfl,hE⟩
end
theorem rk (k:Nat) (h:RW P N ops (i+k) (Qc P N ops k 0 i E) Q) (hk:(So P N ops k 0 i E).isSome=true:=by kernel_rfl):RW P N ops i E Q:=AAN k 0 h hk
theorem rkm (k m:Nat) (h:RW P N ops (i+k) (Qc P N ops k m i E) Q) (hk:(So P N ops k m i E).isSome=true:=by kernel_rfl):RW P N ops i E Q:=AAN k m h hk
theorem ADt (a b:Nat):Nat.ble a (b+(a-b))=true:=by rw[AEi];omega
theorem gm (m:Nat) (h:Q .normal (Qc P N ops (ops.size-i) m i E)) (hk:(So P N ops (ops.size-i) m i E).isSome=true:=by kernel_rfl):RW P N ops i E Q:=AAN (ops.size-i) m (RW.nil h<|ADt _ _) hk
theorem g0 (h:Q .normal (Qc P N ops (ops.size-i) 0 i E)) (hk:(So P N ops (ops.size-i) 0 i E).isSome=true:=by kernel_rfl):RW P N ops i E Q:=gm 0 h hk
section
variable {id:Nat}
theorem wm (m:Nat) (h:RW P N ops2 0 (Qc P N ops (ops.size-i) m i E) (Ke (λE'=>Wp P N y E' Q) Q)) (hk:(So P N ops (ops.size-i) m i E).isSome=true:=by kernel_rfl):RW P N ops i E (Ke (λE'=>Wp P N (.seq (.region id ops2 false) y) E' Q) Q):=gm m (ws h) hk
end
section
variable {id:Nat}
theorem w0 (h:RW P N ops2 0 (Qc P N ops (ops.size-i) 0 i E) (Ke (λE'=>Wp P N y E' Q) Q)) (hk:(So P N ops (ops.size-i) 0 i E).isSome=true:=by kernel_rfl):RW P N ops i E (Ke (λE'=>Wp P N (.seq (.region id ops2 false) y) E' Q) Q):=wm 0 h hk
end
section
variable {id:Nat}
theorem wg (h:Ke (λE'=>Wp P N y E' Q) Q .normal (Qc P N ops (ops.size-0) 0 0 E)) (hk:(So P N ops (ops.size-0) 0 0 E).isSome=true:=by kernel_rfl):Wp P N (.seq (.region id ops false) y) E Q:=ws<|g0 h hk
end
section
variable {x:Code}
theorem qs (h:Wp P N x E (Ke (λE'=>Wp P N y E' Q) Q)):Wp P N (.seq x y) E Q:=Wp.seq h
end
theorem qk (h:Q .normal E):Wp P N .skip E Q:=Wp.skip h
theorem qt (h:Q .ret E):Wp P N .ret E Q:=Wp.ret h
theorem qx {id:Nat} (h:Q (.exit id) E):Wp P N (.exit id) E Q:=Wp.exit h
theorem qb {id:Nat} (h:Wp P N c E (Yb id Q)):Wp P N (.block id c) E Q:=Wp.block h
theorem qr {id:Nat} (h:RW P N ops 0 E Q):Wp P N (.region id ops false) E Q:=AER h
section
variable {id:Nat}
theorem qd {Q1:Exit->St->Prop} (h:Wp P N c E (Yb id (Ke (λE'=>Wp P N y E' Q1) Q1))):Wp P N .skip E (Ke (λE'=>Wp P N (.seq (.block id c) y) E' Q1) Q1):=qk<|qs<|qb h
end
section
variable {id:Nat}
theorem qw {z:Code} (h:Ke (λE'=>Wp P N y E' (Ke (λE'=>Wp P N z E' Q) Q)) (Ke (λE'=>Wp P N z E' Q) Q) .normal (Qc P N ops (ops.size-0) 0 0 E)) (hk:(So P N ops (ops.size-0) 0 0 E).isSome=true:=by kernel_rfl):Wp P N (.seq (.seq (.region id ops false) y) z) E Q:=qs<|wg h hk
end
section
variable {id:Nat}
theorem qv {z:Code} (h:RW P N ops 0 E (Ke (λE'=>Wp P N y E' (Ke (λE'=>Wp P N z E' Q) Q)) (Ke (λE'=>Wp P N z E' Q) Q))):Wp P N (.seq (.seq (.region id ops false) y) z) E Q:=qs<|ws h
end
theorem wq {id:Nat} (h:Q .ret (Qc P N ops (ops.size-0) 0 0 E)) (hk:(So P N ops (ops.size-0) 0 0 E).isSome=true:=by kernel_rfl):Wp P N (.seq (.region id ops false) .ret) E Q:=wg (qt h) hk
theorem aq (hp:AN P E (oA ops i)=some s) (h:RW P N ops (i+1) (E.put (oA ops i).dst s) Q) (hk:qok P N ops i E=true:=by kernel_rfl):RW P N ops i E Q:=AFv hp h hk
theorem BQ (k:Nat) (hp:AN P (Qc P N ops k 0 i E) (oA ops (i+k))=some s) (h:RW P N ops (i+k+1) ((Qc P N ops k 0 i E).put (oA ops (i+k)).dst s) Q) (hk:(So P N ops k 0 i E).isSome=true:=by kernel_rfl) (hq:qok P N ops (i+k) (Qc P N ops k 0 i E)=true:=by kernel_rfl):RW P N ops i E Q:=AAN k 0 (AFv hp h hq) hk
theorem kq {ts:List Nat} (i:Nat) (hp:AN P E (oA ops i)=some s) (h:KW P N ops ts (i::dn) (E.put (oA ops i).dst s) Q) (hk:(qok P N ops i E&&zP ops ts dn i)=true:=by kernel_rfl):KW P N ops ts dn E Q:=AG6 i hp h hk
theorem ac {l:List AV} {x:Option α} (h:x.bind kk=some r) {enc:α->SV} (a:∀v,x=some v->Av P (Qy (oA ops i)) l (enc v) (List.replicate n .gone)) (hk:∀v,kk v=some r->RW P N ops (i+1) ((clE P E (oA ops i) 0).put (oA ops i).dst (enc v)) Q) (b:e9 P E (oA ops i) 0=some l:=by kernel_rfl) (hc:shB P E (oA ops i) 0=true\/∀v,AA (enc v)=false:=by exact .inl<|by kernel_rfl) (ho:(Sq P ops E i&&UI P N (oA ops i))=true:=by kernel_rfl):RW P N ops i E Q:=RW.c 0 h a (λv _=>hk v) b hc ho
theorem AP {l:List AV} {x:Option α} (k:Nat) (h:x.bind kk=some r) {enc:α->SV} (a:∀v,x=some v->Av P (Qy (oA ops (i+k))) l (enc v) (List.replicate n .gone)) (hk:∀v,kk v=some r->RW P N ops (i+k+1) ((clE P (Qc P N ops k 0 i E) (oA ops (i+k)) 0).put (oA ops (i+k)).dst (enc v)) Q) (hr:(So P N ops k 0 i E).isSome=true:=by kernel_rfl) (b:e9 P (Qc P N ops k 0 i E) (oA ops<|i+k) 0=some l:=by kernel_rfl) (hc:shB P (Qc P N ops k 0 i E) (oA ops<|i+k) 0=true\/∀v,AA (enc v)=false:=by exact .inl<|by kernel_rfl) (ho:(Sq P ops (Qc P N ops k 0 i E) (i+k)&&UI P N (oA ops<|i+k))=true:=by kernel_rfl):RW P N ops i E Q:=AAN k 0 (RW.c 0 h a (λv _=>hk v) b hc ho) hr
theorem acm {l:List AV} {x:Option α} (m:Nat) (h:x.bind kk=some r) {enc:α->SV} (a:∀v,x=some v->Av P (Qy (oA ops i)) l (enc v) (List.replicate n .gone)) (hk:∀v,kk v=some r->RW P N ops (i+1) ((clE P E (oA ops i) m).put (oA ops i).dst (enc v)) Q) (b:e9 P E (oA ops i) m=some l:=by kernel_rfl) (hc:shB P E (oA ops i) m=true\/∀v,AA (enc v)=false:=by exact .inl<|by kernel_rfl) (ho:(Sq P ops E i&&UI P N (oA ops i))=true:=by kernel_rfl):RW P N ops i E Q:=RW.c m h a (λv _=>hk v) b hc ho
section
variable {ts:List Nat}
theorem CV {l:List AV} {x:Option α} (m:Nat) (h:x.bind kk=some r) {enc:α->SV} (a:∀v,x=some v->Av P (Qy (oA ops i)) l (enc v) (List.replicate n .gone)) (hk:∀v,kk v=some r->KW P N ops ts (i::dn) ((clE P E (oA ops i) m).put (oA ops i).dst (enc v)) Q) (b:e9 P E (oA ops i) m=some l:=by kernel_rfl) (hc:shB P E (oA ops i) m=true\/∀v,AA (enc v)=false:=by exact .inl<|by kernel_rfl) (ho:(Sq P ops E i&&UI P N (oA ops i)&&((bits m<|G5<|oA ops i).all (λx=>!x.1)||ts.contains i))=true:=by kernel_rfl):KB P N ops ts dn i E Q:=KB.c m h a (λv _=>hk v) b hc ho
end
theorem N4 {l:List AV} {x:Option α} (h:x.bind kk=some r) {enc:α->SV} {a:List TV} (c:∀v,x=some v->Av P (Qy (oA ops i)) (.ext a::l) (enc v) (.ext (fin v)::List.replicate n .gone)) (hk:∀v,kk v=some r->RW P N ops (i+1) (((E.setRoot (sC E (oA ops i)) (fin v)).bump (sC E (oA ops i))).put (oA ops i).dst (enc v)) Q) (b:∀v,(fin v).length=a.length:=by exact λ_=>rfl) (d:AAE P E (oA ops i)=some l:=by kernel_rfl) (hb:E.boxes (sC E<|oA ops i)=some a:=by kernel_rfl) (hc:cxB P E (oA ops i)=true\/∀v,AA (enc v)=false/\Ar (fin v)=false:=by exact .inl<|by kernel_rfl) (ho:(Sq P ops E i&&UI P N (oA ops i)&&AAD E (oA ops i))=true:=by kernel_rfl):RW P N ops i E Q:=AGv h c b (λv _=>hk v) d hb hc ho
theorem oY {ts:List Nat} {l:List AV} {x:Option α} (h:x.bind kk=some r) {enc:α->SV} {a:List TV} (c:∀v,x=some v->Av P (Qy (oA ops i)) (.ext a::l) (enc v) (.ext (fin v)::List.replicate n .gone)) (hk:∀v,kk v=some r->KW P N ops ts (i::dn) (((E.setRoot (sC E (oA ops i)) (fin v)).bump (sC E (oA ops i))).put (oA ops i).dst (enc v)) Q) (b:∀v,(fin v).length=a.length:=by exact λ_=>rfl) (d:AAE P E (oA ops i)=some l:=by kernel_rfl) (hb:E.boxes (sC E<|oA ops i)=some a:=by kernel_rfl) (hc:cxB P E (oA ops i)=true\/∀v,AA (enc v)=false/\Ar (fin v)=false:=by exact .inl<|by kernel_rfl) (ho:(Sq P ops E i&&UI P N (oA ops i)&&AAD E (oA ops i)&&ts.contains i)=true:=by kernel_rfl):KB P N ops ts dn i E Q:=AGy h c b (λv _=>hk v) d hb hc ho
theorem BA {tx ty:Option β} {b:Bool} (k t:Nat) (h:(bif b then tx else ty)=some r) (ht:tx=some r->RW P N ops (i+k) ((Qc P N ops k 0 i E).rs t true) Q) (hf:ty=some r->RW P N ops (i+k) ((Qc P N ops k 0 i E).rs t false) Q) (hr:(So P N ops k 0 i E).isSome=true:=by kernel_rfl) (hc:(Qc P N ops k 0 i E).slots t=B b:=by kernel_rfl):RW P N ops i E Q:=AAN k 0 (AGs t h ht hf hc) hr
def d9 (fn:Func):Code:=fn.body.getD .skip
theorem Ya (h:fn.body.isSome=true):fn.body=some (d9 fn):=by
 unfold d9
 cases e:fn.body with
 |none=>grind
 |some c=>rfl
theorem gf {a:SV} (hf:P.funcs[f]?=some fn) (hN:fn.ntmps=N) (h:Wp P N (d9 fn) (Dw as) λe E=>(e= .normal\/e= .ret)/\∃ss E',DF P E fn.results.toList=some (ss,E')/\Ep ss=a) (hb:fn.body.isSome=true:=by kernel_rfl):Av P f as a (List.replicate as.length .gone):=gk hf (Ya hb) hN h
theorem gfa {A':Sv} (hf:P.funcs[f]?=some fn) (hN:fn.ntmps=N) (hB:∀l l',(Am l).B=(Am l').B/\(Am l).pin=none) (h:Wp P N (d9 fn) (Dw as (Am xl)) λe E=>(e= .normal\/e= .ret)/\E.amb=A') (hb:fn.body.isSome=true:=by kernel_rfl) (hr:fn.results= #[]:=by rfl):N1 P f (Am xl) as A':=AAy hf (Ya hb) hr (hB xl xl).2 (by rw[hN];exact h)
theorem rV {a cells':List TV} {b:SV} (hf:P.funcs[f]?=some fn) (hN:fn.ntmps=N) (h:Wp P N (d9 fn) (Dw (.ext a::as)) λe E=>(e= .normal\/e= .ret)/\∃ss E',DF P E fn.results.toList=some (ss,E')/\Ep ss=b/\E'.boxes (.ext 0)=some cells') (hb:fn.body.isSome=true:=by kernel_rfl) (c:cells'.isEmpty=false:=by rfl):Av P f (.ext a::as) b (.ext cells'::List.replicate as.length .gone):=gkx hf (Ya hb) hN h c
theorem AGY (h:Z7 X E) {a:List TV} (hc:X.st.boxes (.ext 0)=some a:=by kernel_rfl):(Exit.normal= .normal\/Exit.normal= .ret)/\∃ss E1,DF P E []=some (ss,E1)/\Ep ss= .tup []/\E1.boxes (.ext 0)=some a:=by
 refine⟨.inl rfl,[],E,rfl,rfl,?_⟩;obtain⟨h1,h2⟩:=h;rw[<-h2]at hc;unfold RS.nf at hc;by_cases hm:(X.b.map Prod.fst).contains (.ext 0)=true
 ·have e:(Nx E (X.s.map Prod.fst)<|X.b.map Prod.fst).boxes (.ext 0)=some ((E.boxes<|.ext 0).getD []):=by
   show((X.b.map Prod.fst).map λr=>(r,(E.boxes r).getD [])).lookup (.ext 0)=_;rw[NH (f:=λr=>(E.boxes r).getD []),Cn hm]
  rw[e]at hc;unfold RS.in at h1
  cases he:E.boxes (.ext 0)with
  |none=>grind
  |some v=>grind
 have e:(Nx E (X.s.map Prod.fst)<|X.b.map Prod.fst).boxes (.ext 0)=none:=by
  show((X.b.map Prod.fst).map λr=>(r,(E.boxes r).getD [])).lookup (.ext 0)=_
  grind
 grind
theorem ADI {Am:α->Sv} {v r:α} (h:some v=some r) (hE:Z7 X E) (hX:X.st.amb=Am v:=by kernel_rfl):(Exit.normal= .normal\/Exit.normal= .ret)/\E.amb=Am r:=by
 injection h with h
 rw[<-h,<-hX,<-hE.2];exact⟨.inl rfl,rfl⟩
section
variable {w0:Base} {a:Act}
theorem C5.storeKeep {r:Root} {t:TypeId} (h:C5 w0 FA UA N w a E blk FS US) {ad:Addr} {cs i xs:List TV} {v:Value} (hr:E.root r=some cs) (hc:BC cs q=some i) (ho:LX cs q=true) (m:pa w a blk r q j=some ad) (hx:BB w xs v.cells.toList (FS .hand) (US .hand)) (n:0<xs.length) (p:j+xs.length<=i.length) (ht:xs.length=P.cellsOf t) (hm:r.mem=true) (hq:q≠ []) (s:(storeVar t ad v).run P w= .ok () w'):w'.heap[blk r]?=w.heap[blk r]? :=by
 have y:r≠ .hand:=by rintro rfl;cases hm
 have z:=CT hx;have a1:v.cells.size=xs.length:=by simpa using z
 have u:=WB hx;have f:=h.nodup r
 cases q with
 |nil=>exact absurd rfl hq
 |cons c q=>
  have k:∃o e sz cells,cs[c]?=some (TV.sl o e sz cells)/\BC cells q=some i/\(o&&LX cells q)=true:=by grind [BC,LX]
  obtain⟨o,e,sz,cells,h0,h5,h6⟩:=k;have d:E.boxes r=some cs:=by simp_all [St.root,Root.mem];grind
  rcases h.box r hm with⟨h1,_⟩|⟨cs',cur0,T0,F,h1,h2,h3,h4⟩
  ·grind
  rw[h1]at d
  injection d with d
  subst d;obtain⟨hv,A,B,C,D,F1,U1,k1,k2,rfl,kU,k3⟩:=HB c h3 h0;have h7:Bt w a blk r c=some hv:=by
   have:Bt w a blk r c=w.cell? ((⟨blk r,0,none⟩:Addr).add c):=by cases r<;>simp_all [Bt,Root.mem]
   grind [World.cell?,Addr.add]
  rw[h4,CY]at f;have x:F1.Nodup:=(TW f.2).1
  have l:∀b∈F1,b∈FS r:=λb hb=>by grind
  have h8:∀b∈U1,b∈US r:=λb hb=>by grind
  simp only[pa,h7,Aa]at m;obtain⟨ad0,h9,rfl⟩:=AI.1 m;obtain⟨g,T,a2,X,Fm,Y,Xu,Um,Yu,a0,hg,a3,rfl,rfl,a4,_⟩:=aK k2 h6 h5 h9 hx n p x (λb hb e=>h.dis r .hand y b (l b e) hb) λb hb e=>hb.elim (λhb=>h.disU r r b (l b e)<|h8 b hb) λhb=>h.disU r .hand b (l b e) hb;have a5:g≠blk r:=by grind
  rw[a0,W7 hg (by omega) (by omega) (by omega) u]at s
  grind [setRow_other]
end
section
variable {a:Act}
theorem AFa {r:Root} (hm:r.mem=true) (hh:w'.heap[blk r]?=w.heap[blk r]?) (c k:Nat) {ad:Addr} (h:pa w a blk r [c] k=some ad):pa w' a blk r [c] k=some ad:=by
 have:Bt w' a blk r c=Bt w a blk r c:=by
  cases r with
  |slot n=>cases hm
  |hand=>cases hm
  |box n=>exact T5<|by grind [K7]
  |ext n=>exact T5<|by grind [K7]
 have hb:∀v,Nr w' v []=Nr w v []:=λv=>by
  unfold Nr;split<;>rfl
 grind [pa]
end
theorem ACB {c:Nat} {cs a xs:List TV} (hq:q≠ []) (hc:BC cs q=some a) (f:j+xs.length<=a.length) (h:((BC cs [c]).bind λa=>a[k]?).isSome=true):((BC (Dd cs q λa=>setRow a j xs) [c]).bind λa=>a[k]?).isSome=true:=by
 cases q with
 |nil=>exact absurd rfl hq
 |cons c' q=>
  simp only[BC]at hc;split at hc
  ·rename_i o e sz b d;simp only[Dd,d,BC]at h⊢;rw[Pf];by_cases he:c'=c
   ·subst he;rw[d]at h;have g:=(Ad.1 d).1;rw[Cn rfl,Cn g];have hl:(Dd b q λa=>setRow a j xs).length=b.length:=by
     cases q with
     |nil=>
      simp only[BC,A0]at hc;subst hc;exact Ed f
     |cons c q=>grind [Dd]
    grind
   grind
  cases hc
theorem ABF {a:Act} (h:n<a.tmps.size):a.put (some n) (a.eval (.tmp n))=a:=by
 unfold Act.put Act.eval;simp only;congr 1;simp_all;grind
def reP (E:St) (n:Nat) (r:Root) (c k:Nat):St:=E.put (some n)<|.one<|.ptr r (E.ver r) [c] k
def AFY (P:Program) (N:Nat) (E:St) (o:Oper) (n:Nat) (r:Root) (c k:Nat):Prop:=ACg o=true/\PH P E o=some (zS P E o,E)/\(∃q j,E.ptr? (M8 o).2.1=some (r,q,j)/\q≠ [])/\r.mem=true/\E.ptr? (.tmp n)=some (r,[c],k)/\n<N
section
variable {w0:Base} {a:Act}
theorem C5.storeP {c:Nat} {r:Root} (h:C5 w0 FA UA N w a E blk FS US) (hF:FS .hand=[]) (hU:US .hand=[]) (he:Cf P N false E o=some E') (hk:AFY P N E o n r c k):Ec P w0 FA UA N w a o (reP E' n r c k):=by
 obtain⟨c1,c2,⟨q,j,c3,c4⟩,c5,c6,c7⟩:=hk;obtain⟨ho,hd⟩:=yV c1;have he:Qv P E (M8 o).1 (M8 o).2.1 (M8 o).2.2=some E':=by grind [Cf]
 have c2':PH P E o=some (zS P E o,E):=c2;unfold PH at c2';generalize zS P E o=xs at c2';generalize M8 o=z at*;obtain⟨t,ad,x⟩:=z;unfold Qv at he;split at c2'
 ·rename_i s hs;rw[hs]at he;simp only[c2',c3]at he;split at he
  ·rename_i cs hr;split at he
   ·rename_i p hc;split at he
    ·rename_i l;obtain⟨b,e,f,g⟩:=l;obtain⟨U,h1,h2⟩:=Ml h hs;obtain⟨FS1,US1,F1,U1,h3,h4,h5,h6,_,_⟩:=JO h h1 h2 c2';rw[hF,Az]at h5;rw[hU,Az]at h6;subst h5 h6;obtain⟨_,adr,h7,h8⟩:=IU h4 c3;rw[B6 λhh=>c4 (by cases q<;>simp_all)]at he
     injection he with he
     obtain⟨w',FS',US',h9,h10,h11,h12⟩:=aL (P:=P) h4 hr hc b h7 h3 f g e<|.inl he.symm;have m:=h4.storeKeep hr hc b h7 h3 f g e c5 c4 h9;obtain⟨p1,ad2,p2,p3⟩:=IU h4 c6;have hN:=AK c7 h10.len;have u:E'.root r=some (Dd cs q λp=>setRow p j xs):=by grind [Og,M9]
     have y:(E'.place r [c] k).isSome=true:=by simp_all [ACB,St.place]
     have i:=h10.put (d:=n) (s:= .one (.ptr r (E'.ver r) [c] k)) (v:=a.eval<|.tmp n) (F:=[]) (U:=[]) c7 (by
      simp only[IJ,DH];refine⟨⟨trivial,trivial,?_,λ_=>⟨y,ad2,AFa c5 m c k p2,p3⟩⟩,λ_=>?_⟩
      ·exact A4 _
      rw[p3];rfl) Zr.none
     rw[ABF hN]at i;refine⟨.skip,w',undef,blk,_,_,?_,.inr ⟨rfl,rfl⟩,by rw[hd];exact i,by grind [Bj],by grind [Bj],λhk=>by grind [kp]⟩;simp_all [execOp,Instr.storeAt,Instr.sureAddr]
    cases he
   cases he
  cases he
 cases c2'
end
theorem AFC {c:Nat} {r:Root} {rest:List Oper} (hg:Bm P ops E o=some true) (hs:Cf P N false E o=some E') (hk:AFY P N E o n r c k) (h:G8 P N ops rest (reP E' n r c k) Q):G8 P N ops (o::rest) E Q:=by
 intro w0 FA UA w a blk FS US hr hF hU;simp only[wpList,BO hr hg,C7];exact .inl<|(hr.storeP hF hU hs hk).wp λw' v blk' FS' US' k1 k2 k3 _=>h _ _ _ _ _ _ _ _ k1 k2 k3
theorem AGt (n c k:Nat) (r:Root) (q:List Nat) (j:Nat) (hs:Cf P N false E (oA ops i)=some E') (h:RW P N ops (i+1) (reP E' n r c k) Q) (hq:E.ptr? (M8 (oA ops i)).2.1=some (r,q,j):=by kernel_rfl) (hn:E.ptr? (.tmp n)=some (r,[c],k):=by kernel_rfl) (hk:(ACg (oA ops i)&&!q.isEmpty&&r.mem&&Nat.blt n N)=true:=by rfl) (ht:PH P E (oA ops i)=some (zS P E<|oA ops i,E):=by rfl) (ho:Sq P ops E i=true:=by kernel_rfl):RW P N ops i E Q:=by
 obtain⟨h1,h2⟩:=GR ho;simp only[Ap,Dl,Fk]at hk;obtain⟨⟨⟨k1,k2⟩,k3⟩,k4⟩:=hk;unfold RW;rw[Gu h1];exact AFC h2 hs ⟨k1,ht,⟨q,j,hq,by rintro rfl;cases k2⟩,k3,hn,k4⟩ h
theorem tM {md:Region.Mode} {Q:Exit->Act->World->Prop} {T:Nat->Bool} {oi:Oper} {v:Value} (hi:ops[i]?=some oi) (l:∀(j:Nat) (o:Oper) cs b,ops[j]?=some o->o.op≠ .select cs b) (hQ:∀c a w,Q (.panic c) (a.put oi.dst v) w->Q (.panic c) a w):
  ∀(d:Nat) (listed:Array Bool) (a:Act) (w:World),
   (∀j oj,ops[j]?=some oj->j≠i->listed.getD j true=false->(∀e∈oj.after,Region.binds md e=true->e.on≠i)->oi.apart ops oj=true)->
   i∈Region.ready md ops listed->YieldsIf P ops (λ_=>True) oi v a->
   Vi P md ops Q T d (listed.setIfInBounds i true) (a.put oi.dst v) w->Vi P md ops Q T (d+1) listed a w:=by
 intro d
 induction d with
 |zero=>
  intro listed a w _ hr hy H;refine⟨λh=>(by grind),λj hj=>?_⟩;by_cases f:j=i
  ·subst f;exact hy.wpOp hi trivial ⟨λ_=>DP.refl,H⟩
  have:=ready_mono hj f;rw[H.1]at this;cases this
 |succ d ih=>
  intro listed a w g hr hy H;refine⟨λh=>(by grind),λj hj=>?_⟩;by_cases f:j=i
  ·subst f;exact hy.wpOp hi trivial ⟨λ_=>DP.refl,H⟩
  have h1:=H.2 j<|ready_mono hj f;obtain⟨m,oj,n,p⟩:=mem_ready.1 hj;have q:listed.getD i false=false:=by
   have h0:=(mem_ready.1 hr).1
   rcases Fz i listed.size with h'|h'
   ·simpa[h']using h0
   grind
  have r:∀e∈oj.after,Region.binds md e=true->e.on≠i:=λe he hb u=>by
   have h1:=p e he hb;rw[u,q]at h1;cases h1
  have h2:=wpOp_putIf n (g j oj n f m r) (λcs b=>l i oi cs b hi) (λcs b=>l j oj cs b n) hQ hy h1;have hfree':∀k ok,ops[k]?=some ok->k≠i->(listed.setIfInBounds j true).getD k true=false->
    (∀e∈ok.after,Region.binds md e=true->e.on≠i)->oi.apart ops ok=true:=λk ok hk x s y=>by
   refine g k ok hk x ?_ y;by_cases t:j=k
   ·subst t;exact m
   rw[getD_set_ne true t]at s;exact s
  refine wpOp_mono (λa' w' h3=>⟨h3.2.1,ih (listed.setIfInBounds j true) a' w' hfree' (ready_mono hr<|KF f) ?_ ?_⟩) h2
  ·exact h3.1
  rw[Array.setIfInBounds_comm _ _ f];exact h3.2.2
def vQ (o:Oper):Bool:=match o.op with
 | .move _| .assign _=>true
 |_=>false
theorem vP {w2:World} (h:vQ o=true) {a:Act} {v:Value} (hr:(execOp a.eval o).run P w= .ok (.value v) w):(execOp a.eval o).run P w2= .ok (.value v) w2:=by
 unfold vQ at h;unfold execOp at hr⊢;split at h
 ·rename_i x hx;simp only[hx]at hr⊢
  injection hr with hr
  injection hr with hr
  rw[hr];rfl
 ·rename_i x hx;simp only[hx]at hr⊢
  injection hr with hr
  injection hr with hr
  rw[hr];rfl
 cases h
def aok (P:Program) (N:Nat) (ops:Array Oper) (dn:List Nat) (i:Nat) (E:St):Bool:=Sq P ops E i&&HF N (oA ops i)&&Nat.blt dn.length ops.size&&Region.noSelect ops&&Region.free .any ops (lsd ops.size dn) i&&(Region.ready .any ops<|lsd ops.size dn).contains i&&vQ (oA ops i)&&(HR P E<|oA ops i).isSome
theorem KW.a {ts:List Nat} (i:Nat) (h:KW P N ops ts (i::dn) (E.put (oA ops i).dst ((HR P E (oA ops i)).getD (.one .junk))) Q) (hk:aok P N ops dn i E=true:=by kernel_rfl):KW P N ops ts dn E Q:=by
 simp only[aok,Ap]at hk;obtain⟨⟨⟨⟨⟨⟨⟨h1,h2⟩,h3⟩,e1⟩,e2⟩,e3⟩,e4⟩,e5⟩:=hk;obtain⟨h5,h6⟩:=GR h1;obtain⟨d,h7,h8,_⟩:=DW h2;obtain⟨s,hs⟩:=Nz.1 e5;rw[hs,D4,h7]at h;unfold KW at h⊢;rw[Uc (i:=i) h3];have ho:=HV h5;intro hQ hc w0 FA UA w a blk FS US k1 k2 k3;obtain⟨v,U,y1,y2,y3⟩:=Vm k1 hs;have e3':i∈Region.ready .any ops (lsd ops.size dn):=by simpa using e3
 refine tM (v:=v) ho (Region.noSelect_spec e1) (λc a w hx=>?_) _ (lsd ops.size dn) a w (Region.free_spec ho e2) e3' (.inl ⟨BO k1 h6,λw2 _=>?_⟩) ?_
 ·obtain⟨E',blk',FS',US',m1,_⟩:=hx
  grind
 ·exact vP e4<|y1 w λr _=>⟨λ_ _=>rfl,λ_ _=>rfl⟩
 rw[h7];refine h hQ (JX hc e3') _ _ _ _ _ _ _ _ (k1.put (by simpa[Fk]using h8) y2<|Od k1 y3 _) ?_ ?_
 ·rw[Bj (by simp),k2]
 rw[Bj (by simp),k3]
theorem Pa {n:Int} (h1: -9223372036854775808<=n) (h2:n<=9223372036854775807):IntKind.i64.wrap n=n:=by rw[IntKind.wrap_i64];omega
theorem Cl {a b:Int} (h1: -9223372036854775808<=a+b:=by omega) (h2:a+b<=9223372036854775807:=by omega):ad a b=a+b:=Pa h1 h2
theorem BY {a b:Int} (h1: -9223372036854775808<=a-b:=by omega) (h2:a-b<=9223372036854775807:=by omega):sb a b=a-b:=Pa h1 h2
theorem Qk {a b:Int} (h1: -9223372036854775808<=a*b) (h2:a*b<=9223372036854775807):ml a b=a*b:=Pa h1 h2
theorem ad1 (h:i<9223372036854775807:=by omega):ad (i:Int) 1=((i+1:Nat):Int):=by grind [Cl]
theorem KH (a b:ByteArray):seq a b=decide (a=b):=by
 unfold seq;rw[N7,HW,Bi];constructor
 ·intro h;rw[ByteArray.toList_eq,ByteArray.toList_eq]at h;cases a;simp_all
 intro h;rw[h]
theorem Aq:gi l (i:Int)=l[i]? :=by rfl
theorem DQ {x:α}:si l (i:Int) x=l.set i x:=by simp[si]
theorem Fv:decide ((i:Int)<ln l)=decide (i<l.length):=by
 simp[ln]
theorem cF [Decidable p] {a b:α} (h:¬p:=by omega):cond (decide p) a b=b:=by grind
theorem cT [Decidable p] {a b:α} (h:p:=by omega):cond (decide p) a b=a:=by grind
theorem CU {a b:β}:cond (decide (((l.length:Nat):Int)<ln l)) a b=b:=cF (by rw[ln];omega)
theorem Ds {a b:β} (h:i<l.length):cond (decide ((i:Int)<ln l)) a b=a:=cT (by rw[ln];omega)
def PC (step:σ->Nat->α->σ⊕β) (fin:σ->β):List α->Nat->σ->β
 |[],_,s=>fin s
 |x::l,i,s=>match step s i x with
  | .inl s'=>PC step fin l (i+1) s'
  | .inr b=>b
theorem jN {body:S->Option (S⊕β)} (a:σ->Int->S) (l:List α) (step:σ->Nat->α->σ⊕β) (fin:σ->β) (c:Nat->σ->Prop) (h1:∀s i x,l[i]?=some x->c i s->body (a s (i:Nat))=some (match step s i x with| .inl s'=> .inl (a s' ((i+1:Nat):Int))| .inr b=> .inr b)/\∀s',step s i x= .inl s'->c (i+1) s') (h2:∀s,c l.length s->body (a s (l.length:Nat))=some (.inr (fin s))):∀(n i:Nat) (s:σ),i+n=l.length->c i s->Ah body (a s (i:Nat))=some (PC step fin (l.drop i) i s)
 |0,i,s,hi,hs=>by
  have:i=l.length:=by omega
  subst this;rw[Ay,h2 s hs,G9<|A4 _];rfl
 |n+1,i,s,hi,hs=>by
  have d:i<l.length:=by omega
  obtain⟨h3,h4⟩:=h1 s i l[i] (Ab d) hs;rw[Ay,h3,AD d,PC]
  cases e:step s i l[i]with
  |inl s'=>simp only[];exact jN a l step fin c h1 h2 n (i+1) s' (by omega)<|h4 s' e
  |inr b=>rfl
theorem OH {s:σ} {body:S->Option (S⊕β)} (a:σ->Int->S) (l:List α) (step:σ->Nat->α->σ⊕β) (fin:σ->β) (c:Nat->σ->Prop) (h1:∀s i x,l[i]?=some x->c i s->body (a s (i:Nat))=some (match step s i x with| .inl s'=> .inl (a s' ((i+1:Nat):Int))| .inr b=> .inr b)/\∀s',step s i x= .inl s'->c (i+1) s') (h2:∀s,c l.length s->body (a s (l.length:Nat))=some (.inr (fin s))) (hs:c 0 s):Ah body (a s 0)=some (PC step fin l 0 s):=
 jN a l step fin c h1 h2 l.length 0 s (by omega) hs
def zl (z:α->Nat) (l:List α):Nat:=l.length+(l.map z).sum
theorem kT {z:α->Nat} {x:α} (h:x∈l):z x+1<=zl z l:=by
 unfold zl
 induction l with
 |nil=>cases h
 |cons y l ih=>grind
theorem PG {z:α->Nat}:l.length<=zl z l:=by unfold zl;omega
theorem ZH {body:Int->Option (Int⊕Unit⊕Bool)} (a:List α) (b:List β) (p:α->β->Bool) (hl:a.length=b.length) (hM:a.length<=9223372036854775807) (h1:∀(i:Nat) x y,a[i]?=some x->b[i]?=some y->body (i:Nat)=some (bif p x y then .inl (((i+1:Nat)):Int)else .inr (.inr false))) (h2:body (a.length:Nat)=some (.inr (.inl ()))):
  Ah body 0=some (bif(a.zip b).all (λz=>p z.1 z.2)then .inl ()else .inr false):=by
 have hz:(a.zip b).length=a.length:=by simp[hl]
 have:=OH (body:=body) (λ(_:Unit) i=>i) (a.zip b) (λ_ _ z=>bif p z.1 z.2 then .inl ()else .inr<|.inr false) (λ_=> .inl ()) (λ_ _=>True)
  (λs i x hx _=>by grind)
  (λs _=>by rw[hz];exact h2) (s:=()) trivial
 rw[this];have c:∀(m:List (α×β)) (i:Nat),PC (λ(_:Unit) _ z=>bif p z.1 z.2 then .inl ()else .inr<|.inr false) (λ_=>(.inl ():Unit⊕Bool)) m i ()=bif m.all (λz=>p z.1 z.2)then .inl ()else .inr false:=by
  intro m
  induction m with
  |nil=>intro i;rfl
  |cons z m ih=>grind [PC]
 rw[c]
theorem TB {p:α->α->Bool}:∀{a b:List α},(∀x∈a,∀y∈b,p x y=true↔x=y)->a.length=b.length->((a.zip b).all (λz=>p z.1 z.2)=true↔a=b)
 |[],[],_,_=>by simp
 |x::a,y::b,hp,h=>by
  have ih:=TB (p:=p) (a:=a) (b:=b) (λx' hx y' hy=>hp x' (Lz _ hx) y'<|Lz _ hy) (by simpa using h);simp_all
 |[],_::_,_,h=>by simp at h
 |_::_,[],_,h=>by simp at h
def Xm (f:Option Bool) (x y:γ):Prop:=∃v,f=some v/\(v=true↔x=y)
theorem r6 {g:Option Bool} (f:α->α->Option Bool) (a b:List α) (hM:a.length<=9223372036854775807) (hf:∀x∈a,∀y∈b,Xm (f x y) x y) {body:Int->Option (Int⊕Unit⊕Bool)} (hb:∀i,body i=bif decide (i<ln a)then((gi a i).bind λx=>(gi b i).bind λy=>(f x y).bind λv=>bif !v then some (.inr (.inr false))else some (.inl (ad i 1)))else some (.inr (.inl ()))) (hg:g=bif(ln a !=ln b)then some false else(Ah body 0).bind (Sum.elim (λ_=>some true) some)):Xm g a b:=by
 by_cases hl:a.length=b.length
 ·have c:(ln a !=ln b)=false:=by simp[ln,hl]
  have:=ZH (body:=body) a b (λx y=>(f x y).getD false) hl hM
   (λi x y hx hy=>by
    have d:=(Ad.1 hx).1;obtain⟨v,hv,_⟩:=hf x (Aj hx) y<|Aj hy
    grind [Fv,Aq,ad1])
   (by grind [Fv])
  rw[this,c,Ae]at hg;refine⟨(a.zip b).all λz=>(f z.1 z.2).getD false,?_,TB (p:=λx y=>(f x y).getD false) (λx hx y hy=>?_) hl⟩
  ·grind
  obtain⟨v,hv,e⟩:=hf x hx y hy
  grind
 have c:(ln a !=ln b)=true:=by simp[ln];omega
 rw[c,Ao]at hg;exact⟨false,hg,by grind⟩
theorem zQ (a b:ByteArray):Xm (some (seq a b)) a b:=⟨_,rfl,by rw[KH,Bi]⟩
theorem aC {f g:Option Bool} {x y:γ} (h:Xm f x y) (k:Xm g x y):∃v,f=some v/\g=some v:=by
 obtain⟨v,h1,h2⟩:=h;obtain⟨u,k1,k2⟩:=k
 grind
theorem aB {f:Option Bool} {x:γ} (h:Xm f x x):f=some true:=by
 obtain⟨v,h1,h2⟩:=h
 grind
theorem WK {body:S->Option (S⊕β)} (a:σ->Int->S) (n:Nat) (c:Nat->σ->Prop) (Q:β->Prop) (h1:∀s i,i<n->c i s->(∃s',body (a s (i:Nat))=some (.inl (a s' ((i+1:Nat):Int)))/\c (i+1) s')\/∃b,body (a s (i:Nat))=some (.inr b)/\Q b) (h2:∀s,c n s->∃b,body (a s (n:Nat))=some (.inr b)/\Q b):∀(k i:Nat) (s:σ),i+k=n->c i s->∃b,Ah body (a s (i:Nat))=some b/\Q b
 |0,i,s,hi,hs=>by grind [Ay]
 |k+1,i,s,hi,hs=>by
  rcases h1 s i (by omega) hs with⟨s',h3,h4⟩|⟨b,h3,h4⟩
  ·obtain⟨b,h5,h6⟩:=WK a n c Q h1 h2 k (i+1) s' (by omega) h4
   grind [Ay]
  grind [Ay]
theorem AC {s:σ} {body:S->Option (S⊕β)} (a:σ->Int->S) (n:Nat) (c:Nat->σ->Prop) (Q:β->Prop) (h1:∀s i,i<n->c i s->(∃s',body (a s (i:Nat))=some (.inl (a s' ((i+1:Nat):Int)))/\c (i+1) s')\/∃b,body (a s (i:Nat))=some (.inr b)/\Q b) (h2:∀s,c n s->∃b,body (a s (n:Nat))=some (.inr b)/\Q b) (hs:c 0 s):∃b,Ah body (a s 0)=some b/\Q b:=
 WK a n c Q h1 h2 n 0 s (by omega) hs
theorem XH {body body':S->Option (S⊕β)} (a:σ->Int->S) (n:Nat) (c:Nat->σ->Prop) (Q:β->Prop) (h1:∀s i,i<n->c i s->body' (a s (i:Nat))=body (a s (i:Nat))/\((∃s',body (a s (i:Nat))=some (.inl (a s' ((i+1:Nat):Int)))/\c (i+1) s')\/∃b,body (a s (i:Nat))=some (.inr b)/\Q b)) (h2:∀s,c n s->body' (a s (n:Nat))=body (a s (n:Nat))/\∃b,body (a s (n:Nat))=some (.inr b)/\Q b):∀(k i:Nat) (s:σ),i+k=n->c i s->∃b,Ah body (a s (i:Nat))=some b/\Ah body' (a s (i:Nat))=some b/\Q b
 |0,i,s,hi,hs=>by grind [Ay]
 |k+1,i,s,hi,hs=>by
  obtain⟨e,h⟩:=h1 s i (by omega) hs
  rcases h with⟨s',h3,h4⟩|⟨b,h3,h4⟩
  ·obtain⟨b,h5,h6,h7⟩:=XH a n c Q h1 h2 k (i+1) s' (by omega) h4
   grind [Ay]
  grind [Ay]
theorem Gk {s:σ} {body body':S->Option (S⊕β)} (a:σ->Int->S) (n:Nat) (c:Nat->σ->Prop) (Q:β->Prop) (h1:∀s i,i<n->c i s->body' (a s (i:Nat))=body (a s (i:Nat))/\((∃s',body (a s (i:Nat))=some (.inl (a s' ((i+1:Nat):Int)))/\c (i+1) s')\/∃b,body (a s (i:Nat))=some (.inr b)/\Q b)) (h2:∀s,c n s->body' (a s (n:Nat))=body (a s (n:Nat))/\∃b,body (a s (n:Nat))=some (.inr b)/\Q b) (hs:c 0 s):∃b,Ah body (a s 0)=some b/\Ah body' (a s 0)=some b/\Q b:=
 XH a n c Q h1 h2 n 0 s (by omega) hs
theorem MZ {body:Int->Option (Int⊕β)} (l:List α) (p:Nat->α->Bool) (no yes:β) (hM:l.length<=9223372036854775807) (h1:∀(i:Nat) x,l[i]?=some x->body (i:Nat)=some (bif p i x then .inl (((i+1:Nat)):Int)else .inr no)) (h2:body (l.length:Nat)=some (.inr yes)):
  Ah body 0=some (bif l.zipIdx.all (λz=>p z.2 z.1)then yes else no):=by
 have:=OH (body:=body) (λ(_:Unit) i=>i) l (λ_ i x=>bif p i x then .inl ()else .inr no) (λ_=>yes) (λ_ _=>True)
  (λs i x hx _=>by grind)
  (λs _=>h2) (s:=()) trivial
 rw[this];have a:∀(m:List α) (i:Nat),PC (λ(_:Unit) i x=>bif p i x then .inl ()else .inr no) (λ_=>yes) m i ()=bif(m.zipIdx i).all (λz=>p z.2 z.1)then yes else no:=by
  intro m
  induction m with
  |nil=>intro i;rfl
  |cons z m ih=>grind [List.zipIdx_cons,PC]
 rw[a]
theorem Tb {body:Int×List γ->Option ((Int×List γ)⊕List γ)} (l:List α) (f:α->γ) (h1:∀(i:Nat) x (a:List γ),l[i]?=some x->a.length=i->body ((i:Nat),a)=some (.inl (((i+1:Nat):Int),a++ [f x]))) (h2:∀a,body ((l.length:Nat),a)=some (.inr a)):
  Ah body (0,[])=some (l.map f):=by
 have:=OH (body:=body) (λ(s:List γ) i=>(i,s)) l (λa _ x=>(.inl (a++ [f x]):List γ⊕List γ)) (λa=>a) (λi a=>a.length=i)
  (λs i x hx hi=>by grind)
  (λs _=>h2 s) (s:=[]) rfl
 rw[this];have b:∀(m:List α) (i:Nat) (a:List γ),PC (λa _ x=>(.inl (a++ [f x]):List γ⊕List γ)) (λa=>a) m i a=a++m.map f:=by
  intro m
  induction m with
  |nil=>grind [PC]
  |cons z m ih=>grind [PC]
 grind
theorem uT {body:Int×List γ->Option ((Int×List γ)⊕List γ)} (n:Nat) (f:Nat->γ) (h1:∀(i:Nat) (a:List γ),i<n->a.length=i->body ((i:Nat),a)=some (.inl (((i+1:Nat):Int),a++ [f i]))) (h2:∀a,body ((n:Nat),a)=some (.inr a)):
  Ah body (0,[])=some ((List.range n).map f):=
 Tb (List.range n) f (λi x a hx ho=>by grind) (λa=>by grind)
theorem cA {z:α} (h:by_*n<=281474976710656) (h2:n<=9223372036854775807):mk by_ z (n:Int)=some (List.replicate n z):=by
 unfold mk
 grind
theorem AZ {m:List α} (h:(l.length+m.length)*by_<=140737488355328):ap by_ l m=some (l++m):=Cn h
theorem L5 {i:Int} (h1:0<=i) (h2:i<l.length):gi l i=some (l[i.toNat]'(by omega)):=by
 unfold gi
 grind
theorem Bb:ln l=(l.length:Int):=rfl
def L (s:ByteArray):List UInt8:=s.data.toList
theorem JH {a b:ByteArray} (h:L a=L b):a=b:=by
 cases a;simp_all [L]
theorem eP (s:ByteArray):(L s).length=s.size:=by cases s;rfl
theorem Hq (a b:ByteArray):L (a++b)=L a++L b:=by simp[L]
theorem DS (l:List UInt8):L (bs l)=l:=by simp[L,bs]
theorem OY (l:List Int):L (F7 l)=l.map λn=>UInt8.ofNat n.toNat:=strOfNums_data l
theorem K8 (s:ByteArray) (i j:Nat):L (s.extract i j)=((L s).drop i).take (j-i):=by simp[L]
theorem Bv (s:ByteArray):GF s=((L s).length:Int):=by rw[eP];rfl
theorem EN (s:ByteArray) (h:i<(L s).length):sx s (i:Int)=some (((L s)[i]).toNat:Int):=by
 have h':i<s.size:=by grind [eP]
 unfold sx;rw[Cn ⟨by omega,by omega⟩];unfold AN.bt;rw[dif_pos<|by simpa using h'];rfl
theorem FW (s:ByteArray) (h1:i<=j) (h2:j<=(L s).length):sub s (i:Int) (j:Int)=some (s.extract i j):=by grind [eP,sub]
theorem GY (a b:ByteArray) (h:(L a).length+(L b).length<=9223372036854775807):HY a b=some (a++b):=by grind [eP,HY]
theorem Se (a b:ByteArray):seq a b=decide (L a=L b):=by grind [KH,JH]
def Ch (n:Nat):List UInt8:=if h:n<=127 then [UInt8.ofNat n]else UInt8.ofNat (n %128+128)::Ch (n/128)
termination_by n
decreasing_by omega
def FV:List UInt8->Nat
 |[]=>0
 |d::ds=>d.toNat %128+128*FV ds
theorem Pg:∀(ds es:List UInt8),FV (ds++es)=FV ds+128^ds.length*FV es
 |[],es=>by simp[FV]
 |d::ds,es=>by
  simp only[Cw,FV,Pg ds es,AY,Nat.pow_succ]
  grind
theorem o7 (d:UInt8):d.toNat<256:=d.toNat_lt
theorem OR (h:n<=127):Ch n=[UInt8.ofNat n]:=by rw[Ch,dif_pos h]
theorem Xf (h:¬n<=127):Ch n=UInt8.ofNat (n %128+128)::Ch (n/128):=by rw[Ch,dif_neg h]
theorem g9:∀{ds:List UInt8} {x:UInt8},FV (ds++ [x])=0->x.toNat<128->x.toNat=0
 |[],x,h,hx=>by grind [FV]
 |d::ds,x,h,hx=>by
  simp only[Cw,FV]at h;exact g9 (ds:=ds) (by omega) hx
theorem j7:∀(ds:List UInt8) (x:UInt8),(∀d∈ds,128<=d.toNat)->x.toNat<128->(Ch (FV (ds++ [x]))=ds++ [x]↔¬(x.toNat=0/\ds≠ []))
 |[],x,_,hx=>by
  have:FV ([]++ [x])=x.toNat:=by simp[FV];omega
  rw[this,OR<|by omega];simp
 |d::ds,x,hd,hx=>by
  have ih:=j7 ds x (λe he=>hd e<|Lz _ he) hx;have h1:=hd d Hf;have h2:=o7 d;have hv:FV (d::ds++ [x])=d.toNat-128+128*FV (ds++ [x]):=by grind [FV]
  rw[hv];by_cases h0:FV (ds++ [x])=0
  ·have a:=g9 h0 hx;rw[h0,OR<|by omega];simp_all
  rw[Xf<|by omega]
  grind [UInt8.ofNat_toNat,FV]
theorem r9:∀(n:Nat),(Ch n).length<=n+1
 |n=>by
  by_cases h:n<=127
  ·rw[OR h];simp
  have:=r9<|n/128
  grind [Xf]
termination_by n=>n
decreasing_by omega
theorem j8 {body:Int×List Int->Option ((Int×List Int)⊕(Int×List Int))} (hb:∀n a,body (n,a)=bif decide (n>127)then((ap 1 a [IntKind.u8.wrap (ad (Int.tmod n 128) 128)]).bind λc=>some (.inl (qu n 128,c)))else some (.inr (n,a))):
  ∀(n:Nat) (a:List Int),a.length+n<=1099511627776->∃(m:Nat) (o:List Int),Ah body ((n:Int),a)=some ((m:Int),o)/\m<=127/\o.length<=a.length+n/\(o++ [(m:Int)]).map (λn=>UInt8.ofNat n.toNat)=a.map (λn=>UInt8.ofNat n.toNat)++Ch n
 |n,a,h=>by
  rw[Ay,hb];by_cases hn:n<=127
  ·rw[Ai (by omega),Ae]
   grind [OR]
  rw[Ac (by omega),Ao,AZ (by grind),Aa];have e1:Int.tmod (n:Int) 128=((n %128:Nat):Int):=rfl;have e2:qu (n:Int) 128=((n/128:Nat):Int):=by grind [Pa,qu]
  have e3:IntKind.u8.wrap (ad (Int.tmod (n:Int) 128) 128)=((n %128+128:Nat):Int):=by grind [Cl,IntKind.wrap_u8]
  obtain⟨m,o,h1,h2,h3,h4⟩:=j8 hb (n/128) (a++ [((n %128+128:Nat):Int)]) (by grind);rw[e2,e3];refine⟨m,o,h1,h2,by grind,?_⟩
  grind [Xf]
termination_by n=>n
decreasing_by omega
theorem AFT {s:Int} (h0:0<=s) (h1:s<4294967296):IntKind.u32.wrap (Int.tdiv s 2)=Int.fdiv s (2^(min (1:Int).toNat IntKind.u32.bits)):=by grind [IntKind.wrap_u32,IntKind.bits]
theorem an1 {s:Int} (h0:0<=s) (h1:s<4294967296):an s 1=Int.tmod s 2:=by grind [Ck,IntKind.wrap_u32,an]
theorem AEr (a b:Int):0<=xr a b/\xr a b<4294967296:=by grind [IntKind.wrap_u32,xr]
theorem jM {body:S->Option (S⊕β)} (a:σ->Int->S) (mkS':σ->Int->S') (n:Nat) (c:Nat->σ->Prop) (Q:β->Prop) (h1:∀s i,i<n->c i s->(∃s',body (a s (i:Nat))=some (.inl (a s' ((i+1:Nat):Int)))/\body' (mkS' s (i:Nat))=some (.inl (mkS' s' ((i+1:Nat):Int)))/\c (i+1) s')\/∃b,body (a s (i:Nat))=some (.inr b)/\body' (mkS' s (i:Nat))=some (.inr b)/\Q b) (h2:∀s,c n s->∃b,body (a s (n:Nat))=some (.inr b)/\body' (mkS' s (n:Nat))=some (.inr b)/\Q b):∀(k i:Nat) (s:σ),i+k=n->c i s->∃b,Ah body (a s (i:Nat))=some b/\Ah body' (mkS' s (i:Nat))=some b/\Q b
 |0,i,s,hi,hs=>by grind [Ay]
 |k+1,i,s,hi,hs=>by
  rcases h1 s i (by omega) hs with⟨s',h3,h4,h5⟩|⟨b,h3,h4,h5⟩
  ·obtain⟨b,h6,h7,h8⟩:=jM a mkS' n c Q h1 h2 k (i+1) s' (by omega) h5
   grind [Ay]
  grind [Ay]
theorem La {s:σ} {body:S->Option (S⊕β)} (a:σ->Int->S) (mkS':σ->Int->S') (n:Nat) (c:Nat->σ->Prop) (Q:β->Prop) (h1:∀s i,i<n->c i s->(∃s',body (a s (i:Nat))=some (.inl (a s' ((i+1:Nat):Int)))/\body' (mkS' s (i:Nat))=some (.inl (mkS' s' ((i+1:Nat):Int)))/\c (i+1) s')\/∃b,body (a s (i:Nat))=some (.inr b)/\body' (mkS' s (i:Nat))=some (.inr b)/\Q b) (h2:∀s,c n s->∃b,body (a s (n:Nat))=some (.inr b)/\body' (mkS' s (n:Nat))=some (.inr b)/\Q b) (hs:c 0 s):∃b,Ah body (a s 0)=some b/\Ah body' (mkS' s 0)=some b/\Q b:=
 jM a mkS' n c Q h1 h2 n 0 s (by omega) hs
theorem X9 {body:S->Option (S⊕β)} (φ:S->S') (h:∀s,body' (φ s)=(body s).map (Sum.map φ id)):∀(n:Nat) (s:S),QY body' n (φ s)=QY body n s
 |0,_=>rfl
 |n+1,s=>by
  simp only[QY,h]
  cases body s with
  |none=>rfl
  |some o=>
   cases o with
   |inl s'=>exact X9 φ h n s'
   |inr b=>rfl
theorem uU {body:S->Option (S⊕β)} (φ:S->S') (h:∀s,body' (φ s)=(body s).map (Sum.map φ id)) (s:S):Ah body' (φ s)=Ah body s:=by
 have b:∀a,Ah body' (φ s)=some a↔Ah body s=some a:=λa=>by
  rw[HI,HI];exact⟨λ⟨n,hn⟩=>⟨n,by rw[<-X9 φ h];exact hn⟩,λ⟨n,hn⟩=>⟨n,by rw[X9 φ h];exact hn⟩⟩
 cases hx:Ah body s with
 |some a=>grind
 |none=>
  cases hy:Ah body' (φ s)with
  |none=>rfl
  |some a=>grind
theorem Vv {body:S->Option (S⊕β)} (φ:S->S') (I:S->Prop) (h:∀s,I s->body' (φ s)=(body s).map (Sum.map φ id)) (hI:∀s s',I s->body s=some (.inl s')->I s'):∀(n:Nat) (s:S),I s->QY body' n (φ s)=QY body n s
 |0,_,_=>rfl
 |n+1,s,hs=>by
  simp only[QY,h s hs]
  cases hb:body s with
  |none=>rfl
  |some o=>
   cases o with
   |inl s'=>exact Vv φ I h hI n s' (hI s s' hs hb)
   |inr b=>rfl
theorem qW {body:S->Option (S⊕β)} (φ:S->S') (I:S->Prop) (h:∀s,I s->body' (φ s)=(body s).map (Sum.map φ id)) (hI:∀s s',I s->body s=some (.inl s')->I s') (s:S) (hs:I s):Ah body' (φ s)=Ah body s:=by
 have b:∀a,Ah body' (φ s)=some a↔Ah body s=some a:=λa=>by
  rw[HI,HI];exact⟨λ⟨n,hn⟩=>⟨n,by rw[<-Vv φ I h hI n s hs];exact hn⟩,λ⟨n,hn⟩=>⟨n,by rw[Vv φ I h hI n s hs];exact hn⟩⟩
 cases hx:Ah body s with
 |some a=>grind
 |none=>
  cases hy:Ah body' (φ s)with
  |none=>rfl
  |some a=>grind
theorem AAn {s:S} {b:β} {body:S->Option (S⊕β)} (I:S->Prop) (Q:β->Prop) (hI:∀s s',I s->body s=some (.inl s')->I s') (hQ:∀s b,I s->body s=some (.inr b)->Q b) (hs:I s) (h:Ah body s=some b):Q b:=by
 obtain⟨n,hn⟩:=HI.1 h;clear h
 induction n generalizing s with
 |zero=>cases hn
 |succ n ih=>grind [QY]
theorem cC {body':S'->Option (S'⊕β')} {body:S->Option (S⊕β)} (a:σ->Int->S) (mkS':σ->Int->S') (n:Nat) (c:Nat->σ->Prop) (Q:β->β'->Prop) (h1:∀s i,i<n->c i s->(∃s',body (a s (i:Nat))=some (.inl (a s' ((i+1:Nat):Int)))/\body' (mkS' s (i:Nat))=some (.inl (mkS' s' ((i+1:Nat):Int)))/\c (i+1) s')\/∃b b',body (a s (i:Nat))=some (.inr b)/\body' (mkS' s (i:Nat))=some (.inr b')/\Q b b') (h2:∀s,c n s->∃b b',body (a s (n:Nat))=some (.inr b)/\body' (mkS' s (n:Nat))=some (.inr b')/\Q b b'):∀(k i:Nat) (s:σ),i+k=n->c i s->∃b b',Ah body (a s (i:Nat))=some b/\Ah body' (mkS' s (i:Nat))=some b'/\Q b b'
 |0,i,s,hi,hs=>by grind [Ay]
 |k+1,i,s,hi,hs=>by
  rcases h1 s i (by omega) hs with⟨s',h3,h4,h5⟩|⟨b,b',h3,h4,h5⟩
  ·obtain⟨b,b',h6,h7,h8⟩:=cC a mkS' n c Q h1 h2 k (i+1) s' (by omega) h5
   grind [Ay]
  grind [Ay]
theorem jL {body':S'->Option (S'⊕β')} {s:σ} {body:S->Option (S⊕β)} (a:σ->Int->S) (mkS':σ->Int->S') (n:Nat) (c:Nat->σ->Prop) (Q:β->β'->Prop) (h1:∀s i,i<n->c i s->(∃s',body (a s (i:Nat))=some (.inl (a s' ((i+1:Nat):Int)))/\body' (mkS' s (i:Nat))=some (.inl (mkS' s' ((i+1:Nat):Int)))/\c (i+1) s')\/∃b b',body (a s (i:Nat))=some (.inr b)/\body' (mkS' s (i:Nat))=some (.inr b')/\Q b b') (h2:∀s,c n s->∃b b',body (a s (n:Nat))=some (.inr b)/\body' (mkS' s (n:Nat))=some (.inr b')/\Q b b') (hs:c 0 s):∃b b',Ah body (a s 0)=some b/\Ah body' (mkS' s 0)=some b'/\Q b b':=
 cC a mkS' n c Q h1 h2 n 0 s (by omega) hs
theorem TY {body body':S->Option (S⊕β)} (m:S->Nat) (a:S->Prop) (Q:β->Prop) (h:∀s,a s->(∃s',body s=some (.inl s')/\body' s=some (.inl s')/\a s'/\m s'<m s)\/∃b,body s=some (.inr b)/\body' s=some (.inr b)/\Q b):∀(n:Nat) (s:S),m s<=n->a s->∃b,Ah body s=some b/\Ah body' s=some b/\Q b
 |n,s,hn,hs=>by
  rcases h s hs with⟨s',h1,h2,h3,h4⟩|⟨b,h1,h2,h3⟩
  ·cases n with
   |zero=>omega
   |succ n=>
    obtain⟨b,h5,h6,h7⟩:=TY m a Q h n s' (by omega) h3
    grind [Ay]
  grind [Ay]
theorem S2 (z:α->Nat):∀(l:List α) (i:Nat) (h:i<l.length),((l.take (i+1)).map z).sum=((l.take i).map z).sum+z l[i]
 |[],i,h=>by simp at h
 |x::l,0,h=>by simp
 |x::l,i+1,h=>by
  simp only[List.take_succ_cons,HX,List.sum_cons,List.getElem_cons_succ];rw[S2 z l i (by simpa using h)];omega
theorem Ph (z:α->Nat) (l:List α) (i:Nat):((l.take i).map z).sum<=(l.map z).sum:=by grind [BI]
theorem nS (a:List α) (x:α) (post:List α):gi (a++x::post) (a.length:Nat)=some x:=by grind [Aq]
theorem lD (a:List α) (x y:α) (post:List α):si (a++x::post) (a.length:Nat) y=a++y::post:=by grind [DQ]
noncomputable section
def DB (lt:γ->γ->Bool) (xA:Int) (xB:Int) (xN:Int) (a:Int) (b:List γ):Option ((Int×List γ)⊕(List γ)):=cond (decide<|a<xN) ((tP b (ad xA a)<|ad xB a).bind λv1=>some<|.inl (ad a 1,v1))<|some<|.inr b
def CH (lt:γ->γ->Bool) (xL:List γ) (xA:Int) (xB:Int) (xN:Int):Option (List γ):=(Ah (λs:Int×List γ=>DB lt xA xB xN s.1 s.2) (0,xL)).bind λv2=>some v2
def EJ (lt:γ->γ->Bool) (xM:Int) (a:Int) (b:Int) (c:List γ):Option ((Int×Int×List γ)⊕(Int×List γ)):=cond (a !=b) (cond (decide<|a>b) ((CH lt c (sb xM a) xM b).bind λv1=>some<|.inl (sb a b,b,v1))<|(CH lt c (sb xM a) (sb (ad xM b) a) a).bind λv2=>some<|.inl (a,sb b a,v2))<|some<|.inr (a,c)
def Ff (lt:γ->γ->Bool) (xL:List γ) (xA:Int) (xM:Int) (xB:Int):Option (List γ):=(Ah (λs:Int×Int×List γ=>EJ lt xM s.1 s.2.1 s.2.2) (sb xM xA,sb xB xM,xL)).bind λv3=>(CH lt v3.2 (sb xM v3.1) xM v3.1).bind λv4=>some v4
def Bc (lt:γ->γ->Bool) (xA:Int) (a:Int) (b:List γ):Option ((Int×List γ)⊕(List γ)):=(cond (decide<|a>xA) ((gi2 b a<|sb a 1).bind λv1=>some<|lt v1.1 v1.2) (some false):Option Bool).bind λj1=>cond j1 ((tP b a<|sb a 1).bind λv2=>some<|.inl (sb a 1,v2))<|some<|.inr b
def AX (lt:γ->γ->Bool) (xA:Int) (xB:Int) (a:Int) (b:List γ):Option ((Int×List γ)⊕(List γ)):=cond (decide<|a<xB) ((Ah (λs:Int×List γ=>Bc lt xA s.1 s.2) (a,b)).bind λv3=>some<|.inl (ad a 1,v3))<|some<|.inr b
def BJ (lt:γ->γ->Bool) (xL:List γ) (xA:Int) (xB:Int):Option (List γ):=(Ah (λs:Int×List γ=>AX lt xA xB s.1 s.2) (ad xA 1,xL)).bind λv4=>some v4
def DV (lt:γ->γ->Bool) (xL:List γ) (xA:Int) (a:Int) (b:Int):Option ((Int×Int)⊕Int):=cond (decide<|a<b) ((gi2 xL (IntKind.i64.wrap<|Int.fdiv (IntKind.u64.wrap<|ad a b)<|2^(min (1:Int).toNat IntKind.u64.bits)) xA).bind λv1=>cond (lt v1.1 v1.2) (some<|.inl (ad (IntKind.i64.wrap<|Int.fdiv (IntKind.u64.wrap<|ad a b)<|2^(min (1:Int).toNat IntKind.u64.bits)) 1,b))<|some<|.inl (a,IntKind.i64.wrap<|Int.fdiv (IntKind.u64.wrap<|ad a b)<|2^(min (1:Int).toNat IntKind.u64.bits)))<|some<|.inr a
def Dn (lt:γ->γ->Bool) (v2:Int) (a:Int) (b:List γ):Option ((Int×List γ)⊕(List γ)):=cond (decide<|a<(sb v2 1)) ((tP b a<|ad a 1).bind λv3=>some<|.inl (ad a 1,v3))<|some<|.inr b
def DU (lt:γ->γ->Bool) (xL:List γ) (xM:Int) (a:Int) (b:Int):Option ((Int×Int)⊕Int):=cond (decide<|a<b) ((gi2 xL xM<|IntKind.i64.wrap<|Int.fdiv (IntKind.u64.wrap<|ad a b)<|2^(min (1:Int).toNat IntKind.u64.bits)).bind λv5=>cond (!(lt v5.1 v5.2)) (some<|.inl (ad (IntKind.i64.wrap<|Int.fdiv (IntKind.u64.wrap<|ad a b)<|2^(min (1:Int).toNat IntKind.u64.bits)) 1,b))<|some<|.inl (a,IntKind.i64.wrap<|Int.fdiv (IntKind.u64.wrap<|ad a b)<|2^(min (1:Int).toNat IntKind.u64.bits)))<|some<|.inr a
def Dm (lt:γ->γ->Bool) (v6:Int) (a:Int) (b:List γ):Option ((Int×List γ)⊕(List γ)):=cond (decide<|a>v6) ((tP b a<|sb a 1).bind λv7=>some<|.inl (sb a 1,v7))<|some<|.inr b
def DT (lt:γ->γ->Bool) (xL:List γ) (xA:Int) (xM:Int) (xB:Int) (a:Int) (b:Int):Option ((Int×Int)⊕Int):=cond (decide<|a<b) ((gi2 xL (sb (sb (ad (IntKind.i64.wrap<|Int.fdiv (IntKind.u64.wrap<|ad xA xB)<|2^(min (1:Int).toNat IntKind.u64.bits)) xM) 1)<|IntKind.i64.wrap<|Int.fdiv (IntKind.u64.wrap<|ad a b)<|2^(min (1:Int).toNat IntKind.u64.bits))<|IntKind.i64.wrap<|Int.fdiv (IntKind.u64.wrap<|ad a b)<|2^(min (1:Int).toNat IntKind.u64.bits)).bind λv9=>cond (!(lt v9.1 v9.2)) (some<|.inl (ad (IntKind.i64.wrap<|Int.fdiv (IntKind.u64.wrap<|ad a b)<|2^(min (1:Int).toNat IntKind.u64.bits)) 1,b))<|some<|.inl (a,IntKind.i64.wrap<|Int.fdiv (IntKind.u64.wrap<|ad a b)<|2^(min (1:Int).toNat IntKind.u64.bits)))<|some<|.inr a
def C3 (lt:γ->γ->Bool):Nat->(List γ)->Int->Int->Int->Option (List γ)
 |0,_,_,_,_=>none
 |n+1,xL,xA,xM,xB=>cond ((sb xM xA)==1) ((Ah (λs:Int×Int=>DV lt xL xA s.1 s.2) (xM,xB)).bind λv2=>(Ah (λs:Int×List γ=>Dn lt v2 s.1 s.2) (xA,xL)).bind λv4=>some v4) (cond ((sb xB xM)==1) ((Ah (λs:Int×Int=>DU lt xL xM s.1 s.2) (xA,xM)).bind λv6=>(Ah (λs:Int×List γ=>Dm lt v6 s.1 s.2) (xM,xL)).bind λv8=>some v8) ((cond (decide (xM>(IntKind.i64.wrap (Int.fdiv (IntKind.u64.wrap (ad xA xB)) (2^(min (1:Int).toNat IntKind.u64.bits)))))) (some (sb (ad (IntKind.i64.wrap (Int.fdiv (IntKind.u64.wrap (ad xA xB)) (2^(min (1:Int).toNat IntKind.u64.bits)))) xM) xB,IntKind.i64.wrap (Int.fdiv (IntKind.u64.wrap (ad xA xB)) (2^(min (1:Int).toNat IntKind.u64.bits))))) (some (xA,xM)):Option (Int×Int)).bind λj1=>(Ah (λs:Int×Int=>DT lt xL xA xM xB s.1 s.2) (j1.1,j1.2)).bind λv10=>(cond (decide (v10<xM)) (some (decide (xM<(sb (ad (IntKind.i64.wrap (Int.fdiv (IntKind.u64.wrap (ad xA xB)) (2^(min (1:Int).toNat IntKind.u64.bits)))) xM) v10)))) (some false):Option Bool).bind λj2=>(cond j2 ((Ff lt xL v10 xM (sb (ad (IntKind.i64.wrap (Int.fdiv (IntKind.u64.wrap (ad xA xB)) (2^(min (1:Int).toNat IntKind.u64.bits)))) xM) v10)).bind λv11=>some v11) (some xL):Option (List γ)).bind λj3=>(cond (decide (xA<v10)) (some (decide (v10<(IntKind.i64.wrap (Int.fdiv (IntKind.u64.wrap (ad xA xB)) (2^(min (1:Int).toNat IntKind.u64.bits))))))) (some false):Option Bool).bind λj4=>(cond j4 ((C3 lt n j3 xA v10 (IntKind.i64.wrap (Int.fdiv (IntKind.u64.wrap (ad xA xB)) (2^(min (1:Int).toNat IntKind.u64.bits))))).bind λv12=>some v12) (some j3):Option (List γ)).bind λj5=>cond (decide ((IntKind.i64.wrap (Int.fdiv (IntKind.u64.wrap (ad xA xB)) (2^(min (1:Int).toNat IntKind.u64.bits))))<(sb (ad (IntKind.i64.wrap (Int.fdiv (IntKind.u64.wrap (ad xA xB)) (2^(min (1:Int).toNat IntKind.u64.bits)))) xM) v10))) (cond (decide ((sb (ad (IntKind.i64.wrap (Int.fdiv (IntKind.u64.wrap (ad xA xB)) (2^(min (1:Int).toNat IntKind.u64.bits)))) xM) v10)<xB)) ((C3 lt n j5 (IntKind.i64.wrap (Int.fdiv (IntKind.u64.wrap (ad xA xB)) (2^(min (1:Int).toNat IntKind.u64.bits)))) (sb (ad (IntKind.i64.wrap (Int.fdiv (IntKind.u64.wrap (ad xA xB)) (2^(min (1:Int).toNat IntKind.u64.bits)))) xM) v10) xB).bind λv13=>some v13) (some j5)) (some j5)))
def CI (lt:γ->γ->Bool) (xN:Int) (b:Int) (a:Int) (c:List γ):Option ((Int×Int×List γ)⊕(Int×List γ)):=cond (decide<|a<=xN) ((BJ lt c b a).bind λv1=>some<|.inl (a,ad a 20,v1))<|some<|.inr (b,c)
def Dh (lt:γ->γ->Bool) (xN:Int) (a:Int) (c:Int) (b:Int) (d:List γ):Option ((Int×Int×List γ)⊕(Int×List γ)):=cond (decide<|b<=xN) ((C3 lt (List.length d+1) d c (ad c a) b).bind λv4=>some<|.inl (b,ad b<|ml 2 a,v4))<|some<|.inr (c,d)
def Di (lt:γ->γ->Bool) (xN:Int) (a:Int) (b:List γ):Option ((Int×List γ)⊕(List γ)):=cond (decide<|a<xN) ((Ah (λs:Int×Int×List γ=>Dh lt xN a s.1 s.2.1 s.2.2) (0,ml 2 a,b)).bind λv5=>cond (decide<|(ad v5.1 a)<xN) ((C3 lt (List.length v5.2+1) v5.2 v5.1 (ad v5.1 a) xN).bind λv6=>some<|.inl (ml a 2,v6))<|some<|.inl (ml a 2,v5.2))<|some<|.inr b
def CZ (lt:γ->γ->Bool) (xL:List γ) (xN:Int):Option (List γ):=(Ah (λs:Int×Int×List γ=>CI lt xN s.1 s.2.1 s.2.2) (0,20,xL)).bind λv2=>(BJ lt v2.2 v2.1 xN).bind λv3=>(Ah (λs:Int×List γ=>Di lt xN s.1 s.2) (20,v3)).bind λv7=>some v7
def cB (xX:Int):Option Int:=(cond (decide<|xX>=4294967296) (some (Int.fdiv xX<|2^(min (32:Int).toNat IntKind.u64.bits),32)) (some (xX,0)):Option (Int×Int)).bind λj1=>(cond (decide<|j1.1>=65536) (some (Int.fdiv j1.1<|2^(min (16:Int).toNat IntKind.u64.bits),ad j1.2 16)) (some (j1.1,j1.2)):Option (Int×Int)).bind λj2=>(cond (decide<|j2.1>=256) (some (Int.fdiv j2.1<|2^(min (8:Int).toNat IntKind.u64.bits),ad j2.2 8)) (some (j2.1,j2.2)):Option (Int×Int)).bind λj3=>(sx (bs [0,1,2,2,3,3,3,3,4,4,4,4,4,4,4,4,5,5,5,5,5,5,5,5,5,5,5,5,5,5,5,5,6,6,6,6,6,6,6,6,6,6,6,6,6,6,6,6,6,6,6,6,6,6,6,6,6,6,6,6,6,6,6,6,7,7,7,7,7,7,7,7,7,7,7,7,7,7,7,7,7,7,7,7,7,7,7,7,7,7,7,7,7,7,7,7,7,7,7,7,7,7,7,7,7,7,7,7,7,7,7,7,7,7,7,7,7,7,7,7,7,7,7,7,7,7,7,7,8,8,8,8,8,8,8,8,8,8,8,8,8,8,8,8,8,8,8,8,8,8,8,8,8,8,8,8,8,8,8,8,8,8,8,8,8,8,8,8,8,8,8,8,8,8,8,8,8,8,8,8,8,8,8,8,8,8,8,8,8,8,8,8,8,8,8,8,8,8,8,8,8,8,8,8,8,8,8,8,8,8,8,8,8,8,8,8,8,8,8,8,8,8,8,8,8,8,8,8,8,8,8,8,8,8,8,8,8,8,8,8,8,8,8,8,8,8,8,8,8,8,8,8,8,8,8,8])<|IntKind.u8.wrap j3.1).bind λx1=>some<|ad j3.2<|IntKind.i64.wrap x1
def XG (xX:Int):Option Int:=(cB xX).bind λv1=>some v1
def FZ (lt:γ->γ->Bool) (xL:List γ) (xA:Int) (xB:Int):Option (Unit⊕Unit⊕(List γ)):=cond (decide<|(sb xB xA)<=12) ((BJ lt xL xA xB).bind λv1=>some<|.inr<|.inr v1) none
def E7 (lt:γ->γ->Bool) (xL:List γ) (xA:Int) (xB:Int) (a:Int):Option (List γ):=(Ah (λ_:Unit=>FZ lt xL xA xB) ()).bind<|Sum.elim (λv2=>some xL) some
def LC (lt:γ->γ->Bool) (l:List γ):Option (List γ):=(XG<|IntKind.u64.wrap<|ln l).bind λv=>E7 lt l 0 (ln l) v
end
end Go.TI
