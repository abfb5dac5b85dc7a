/- What walks of Go code need. No condition. -/
import Derived.Test.YtacibgiakaoomaaGreatRAT2
import Derived.Laws.StructEq
import Derived.Laws.Strings
import Derived.Laws.BitsLemmas
set_option linter.unusedSimpArgs false
set_option linter.unusedVariables false
namespace Go.TI
open Go Go.RowKit
theorem oC:∀t:TV,(NC t).isSl=t.isSl:=by intro t;cases t<;>rfl
theorem Na:∀(cs:List TV) (j:Nat),(Bm cs)[j]?=cs[j]?.map NC
 |[],j=>by simp[Bm]
 |t::ts,0=>by simp[Bm]
 |t::ts,j+1=>by simpa[Bm]using Na ts j
theorem WI:∀(q:List Nat) (cs:List TV),B7 (Bm cs) q=(B7 cs q).map Bm
 |[],cs=>rfl
 |c::q,cs=>by
  simp only[B7,Na]
  cases cs[c]? with
  |none=>rfl
  |some t=>
   cases t with
   |sl o e sz cells=>exact WI q cells
   |_=>rfl
def pO:TV->List TV->TV
 | .sl _ e s _,row=> .sl false e s row
 |t,_=>t
def Zk (cs:List TV) (j:Nat) (a:List TV):List TV:=match cs[j]? with
 |some t=>cs.set j<|pO t a
 |none=>cs
variable {E E':St} {N i sz n e d j b t by_:Nat} {P:Program} {Q:Exit->St->Prop} {γ β α S V σ W S' A β':Type} {ops ops2:Array Oper} {dn FA UA:List Nat} {c y:Code} {w:World} {blk:Root->Nat} {s:SV} {FS US:Root->List Nat} {o:Oper} {f sf g:FuncId} {fn:Func} {as:List AV} {T T':TypeId} {row row':List TV} {t':TV} {K:St->Prop} {rest:List Oper} {p:Prop} {r:β} {l:List α} {kk:α->Option β} {s0:S} {body':S'->Option (S'⊕β)} {k:V->Option β} {Am:List γ->QD} {lt:γ->γ->Bool} {xl:List γ} {fin:α->List TV}
theorem iB {s:Nat} {cs:List TV} {a:List TV} (h:cs[j]?=some (.sl true e s a)) (c:Nat):(Zk cs j (Bm a))[c]?=if c=j then some (.sl false e s (Bm a))else cs[c]? :=by grind [Zk,pO]
theorem zV {s:Nat} {q:List Nat} {r1:List TV} {cs:List TV} {a:List TV} (h:cs[j]?=some (.sl true e s a)) (hq:B7 cs q=some r1) (i:Nat):
  ∃r2,B7 (Zk cs j (Bm a)) q=some r2/\(r1[i]?.isSome=true->r2[i]?.isSome=true)/\(K8 r1[i]?=true->K8 r2[i]?=true):=by
 cases q with
 |nil=>
  injection hq with hq
  subst hq;refine⟨_,rfl,?_,?_⟩
  ·rw[iB h]
   grind
  rw[iB h];split
  ·intro _;rfl
  exact id
 |cons c q=>
  simp only[B7,iB h]
  grind [WI,Na,oC,B7,K8]
theorem Yx:∀{ts:List TV} {vs:List Value} {F U:List Nat} {j:Nat} {t:TV},Bv w ts vs F U->ts[j]?=some t->F.Nodup->(∀v F1 U1,Dl w t v F1 U1->∃F2 U2,Dl w t' v F2 U2/\I5 F1 U1 F2 U2)->
  ∃F' U',Bv w (ts.set j t') vs F' U'/\I5 F U F' U'
 |[],vs,F,U,j,t,h,hj,_,_=>by simp at hj
 |x::ts,vs,F,U,0,t,h,hj,hn,hk=>by
  simp at hj;subst hj;obtain⟨v,a,F1,F2,U1,U2,rfl,rfl,rfl,h1,h2⟩:=h;obtain⟨F1',U1',a1,a2⟩:=hk v F1 U1 h1;exact⟨F1'++F2,U1'++U2,by grind [Bv],Sf hn a2 I5.refl⟩
 |x::ts,vs,F,U,j+1,t,h,hj,hn,hk=>by
  obtain⟨v,a,F1,F2,U1,U2,rfl,rfl,rfl,h1,h2⟩:=h;obtain⟨F2',U2',a1,a2⟩:=Yx h2 (by simpa using hj) (Dg.1 hn).2.1 hk;exact⟨F1++F2',U1++U2',by grind [Bv],Sf hn I5.refl a2⟩
theorem Z3 {a:Act} {blk:Root->Nat}:∀{ts:List TV} {vs:List Value} {F U:List Nat} {j:Nat} {t:TV},C6 w a E blk ts vs F U->ts[j]?=some t->F.Nodup->(∀v F1 U1,DI w a E blk t v F1 U1->∃F2 U2,DI w a E blk t' v F2 U2/\I5 F1 U1 F2 U2)->
  ∃F' U',C6 w a E blk (ts.set j t') vs F' U'/\I5 F U F' U'
 |[],vs,F,U,j,t,h,hj,_,_=>by simp at hj
 |x::ts,vs,F,U,0,t,h,hj,hn,hk=>by
  simp at hj;subst hj;obtain⟨v,b,F1,F2,U1,U2,rfl,rfl,rfl,h1,h2⟩:=h;obtain⟨F1',U1',a1,a2⟩:=hk v F1 U1 h1;exact⟨F1'++F2,U1'++U2,by exact⟨v,b,F1',F2,U1',U2,rfl,rfl,rfl,a1,h2⟩,Sf hn a2 I5.refl⟩
 |x::ts,vs,F,U,j+1,t,h,hj,hn,hk=>by
  obtain⟨v,b,F1,F2,U1,U2,rfl,rfl,rfl,h1,h2⟩:=h;obtain⟨F2',U2',a1,a2⟩:=Z3 h2 (by simpa using hj) (Dg.1 hn).2.1 hk;exact⟨F1++F2',U1++U2',by exact⟨v,b,F1,F2',U1,U2',rfl,rfl,rfl,h1,a1⟩,Sf hn I5.refl a2⟩
def frE (E:St) (r:Root) (j:Nat) (a:List TV):St:=match E.root r with
 |some cs=>E.setRoot r<|Zk cs j a
 |none=>E
theorem pN {a:Act} {r:Root} {s:Nat} {cs:List TV} {b:List TV} (hr:E.root r=some cs) (hj:cs[j]?=some (.sl true e s b)) (hh:r≠ .hand) (R:Root):BR w w a a E (E.setRoot r (Zk cs j (Bm b))) blk blk R:=by
 have d:(E.setRoot r<|Zk cs j<|Bm b).ver=E.ver:=by cases r<;>rfl
 have f:(E.setRoot r<|Zk cs j<|Bm b).gen=E.gen:=by cases r<;>rfl
 have g:(Zk cs j<|Bm b).length=cs.length:=by simp[Zk,hj]
 have c:∀cs0,E.root R=some cs0->∃cs1,(E.setRoot r<|Zk cs j<|Bm b).root R=some cs1/\∀q r1,B7 cs0 q=some r1->∀i:Nat,∃r2,B7 cs1 q=some r2/\(r1[i]?.isSome=true->r2[i]?.isSome=true)/\(K8 r1[i]?=true->K8 r2[i]?=true):=by
  intro cs0 h0;by_cases hR:R=r
  ·subst hR;rw[hr]at h0
   injection h0 with h0
   subst h0;refine⟨Zk cs j<|Bm b,?_,λq r1 hq i=>zV hj hq i⟩
   cases R with
   |slot n=>
    simp only[St.root,St.setRoot,BM,CC]at hr⊢
    injection hr with hr
    congr 1
    cases hs:E.slots n with
    |one t=>
     rw[hs]at hr;subst hr;have:(Zk [t] j<|Bm b).length=1:=g
     match hf:Zk [t] j (Bm b),this with
     |[x],_=>rfl
    |agg ts=>rfl
    |tup ss=>grind [SV.cells]
   |box n=>simp[St.root,St.setRoot,BM]
   |ext n=>simp[St.root,St.setRoot,BM]
   |hand=>exact absurd rfl hh
  refine⟨cs0,?_,λq r1 hq i=>⟨r1,hq,id,id⟩⟩;rw[<-h0];cases r<;>cases R<;>simp only[St.root,St.setRoot,BM]<;>first
   |exact absurd rfl hh
   |rfl
   |grind
   |(rw[Bi];intro e;injection e with e;exact hR<|by rw[e])
   |(rw[Bi];intro e;cases e)
 constructor
 ·refine .inr ⟨by rw[d],λq i v h1 h2=>⟨h1,?_⟩,λq i ad hq h1 h2=>⟨h1,?_⟩⟩
  ·unfold St.place at h2⊢
   cases h0:E.root R with
   |none=>rw[h0]at h2;cases h2
   |some cs0=>
    rw[h0]at h2;obtain⟨cs1,k1,k2⟩:=c cs0 h0;simp only[Aa]at h2
    cases hc:B7 cs0 q with
    |none=>rw[hc]at h2;cases h2
    |some r1=>
     obtain⟨r2,k3,_,k4⟩:=k2 q r1 hc i
     grind
  unfold St.place at h2⊢
  cases h0:E.root R with
  |none=>grind
  |some cs0=>
   rw[h0]at h2;obtain⟨cs1,k1,k2⟩:=c cs0 h0;simp only[Aa]at h2
   cases hc:B7 cs0 q with
   |none=>grind
   |some r1=>
    obtain⟨r2,k3,k4,_⟩:=k2 q r1 hc i
    grind
 refine .inr ⟨by rw[f],λi ad h1 h2=>⟨h1,?_⟩⟩;unfold St.place at h2⊢
 cases h0:E.root R with
 |none=>grind
 |some cs0=>
  rw[h0]at h2;obtain⟨cs1,k1,k2⟩:=c cs0 h0;obtain⟨r2,k3,k4,_⟩:=k2 [] cs0 rfl i;rw[k1];simp only[Aa,k3];exact k4 h2
section
variable {w0:Base} {a:Act}
theorem Cw.freeze {r:Root} {s:Nat} (h:Cw w0 FA UA N w a E blk FS US) {cs:List TV} {c:List TV} (hr:E.root r=some cs) (hj:cs[j]?=some (.sl true e s c)) (hh:r≠ .hand):
  ∃FS' US',Cw w0 FA UA N w a (E.setRoot r (Zk cs j (Bm c))) blk FS' US'/\FS' .hand=FS .hand/\US' .hand=US .hand:=by
 have o:=pN (w:=w) (a:=a) (blk:=blk) hr hj hh;have p:Zk cs j (Bm c)=cs.set j (.sl false e s<|Bm c):=by grind [Zk,pO]
 have g:∀v F1 U1,Dl w (.sl true e s c) v F1 U1->∃F2 U2,Dl w (.sl false e s<|Bm c) v F2 U2/\I5 F1 U1 F2 U2:=λv F1 U1 h1=>ACy h1<|vQ.s rfl
 have u:∃F' U',I5 (FS r) (US r) F' U'/\(∀n,r= .slot n->Im w a (E.setRoot r<|Zk cs j<|Bm c) blk ((E.slots n).withCells<|Zk cs j<|Bm c) (a.eval<|.tmp n) F' U')/\
   (r.mem=true->∃d T F,w.heap[blk r]?=some (.cells d T (0,0))/\Bv w (Zk cs j<|Bm c) d.toList F U'/\F'=blk r::F):=by
  cases r with
  |slot n=>
   injection hr with hr
   have hs:=H4 o (h.slot n) (λ_ _=>rfl) λ_ _=>rfl
   cases i:E.slots n with
   |one t=>
    rw[i]at hr hs;simp only[SV.cells]at hr;subst hr;have x:j=0:=by grind
    subst x;simp at hj;subst hj;obtain⟨F2,U2,k1,k2⟩:=g _ _ _ hs.1;refine⟨F2,U2,k2,λm hm=>?_,λhm=>by cases hm⟩
    injection hm with hm
    subst hm;rw[i,p];exact⟨k1,λ_=>hs.2 rfl⟩
   |agg ts=>
    rw[i]at hr hs;simp only[SV.cells]at hr;subst hr;obtain⟨vs,k0,k1⟩:=hs;obtain⟨F2,U2,k2,k3⟩:=Z3 (t':= .sl false e s (Bm c)) k1 hj (h.nodup _) g;refine⟨F2,U2,k3,λm hm=>?_,λhm=>by cases hm⟩
    grind [SV.withCells,Im]
   |tup ss=>grind [SV.cells]
  |hand=>exact absurd rfl hh
  |box n=>
   rcases h.box (.box n) rfl with⟨k,_⟩|⟨cs0,d,T,F,k1,k2,k3,k4⟩
   ·grind [St.root]
   simp only[St.root]at hr;rw[k1]at hr
   injection hr with hr
   subst hr;have f:=h.nodup<|.box n;rw[k4]at f;obtain⟨y,l⟩:=Du.1 f;obtain⟨F2,U2,k5,k6⟩:=Yx (t':= .sl false e s (Bm c)) k3 hj l g;refine⟨blk (.box n)::F2,U2,?_,λm hm=>(by cases hm),λ_=>⟨d,T,F2,k2,by grind,rfl⟩⟩;rw[k4];refine⟨k6.1.cons_cons _,λb hb=>?_⟩
   rcases k6.2 b hb with q|⟨q1,q2⟩
   ·exact .inl q
   grind
  |ext n=>
   rcases h.box (.ext n) rfl with⟨k,_⟩|⟨cs0,d,T,F,k1,k2,k3,k4⟩
   ·grind [St.root]
   simp only[St.root]at hr;rw[k1]at hr
   injection hr with hr
   subst hr;have f:=h.nodup<|.ext n;rw[k4]at f;obtain⟨y,l⟩:=Du.1 f;obtain⟨F2,U2,k5,k6⟩:=Yx (t':= .sl false e s (Bm c)) k3 hj l g;refine⟨blk (.ext n)::F2,U2,?_,λm hm=>(by cases hm),λ_=>⟨d,T,F2,k2,by grind,rfl⟩⟩;rw[k4];refine⟨k6.1.cons_cons _,λb hb=>?_⟩
   rcases k6.2 b hb with q|⟨q1,q2⟩
   ·exact .inl q
   grind
 obtain⟨F',U',hl,h3,z⟩:=u
 have h0:∀b∈F',b∈FS r:=λb hb=>hl.1.subset hb
 refine⟨BM FS r F',BM US r U',?_,by grind [Bb],by grind [Bb]⟩;have hF:∀R b,b∈BM FS r F' R->b∈FS R:=by
  intro R b hb;by_cases hR:R=r
  ·grind [BQ]
  grind [Bb]
 have hU:∀R b,b∈BM US r U' R->b∈US R\/(R=r/\b∈FS r/\b∉F'):=by
  intro R b hb;by_cases hR:R=r
  ·subst hR;rw[BQ]at hb
   rcases hl.2 b hb with q|⟨q1,q2⟩
   ·exact .inl q
   grind
  grind [Bb]
 constructor
 ·intro n;by_cases hn:r= .slot n
  ·simp_all [St.setRoot,BM]
  rw[Bb λe=>hn e.symm,Bb λe=>hn e.symm];have h1:(E.setRoot r<|Zk cs j<|Bm c).slots n=E.slots n:=by
   cases r with
   |slot m=>simp_all [St.setRoot,BM];grind
   |_=>rfl
  rw[h1];exact H4 o (h.slot n) (λ_ _=>rfl) λ_ _=>rfl
 ·intro R hm;by_cases hR:R=r
  ·subst hR;right;obtain⟨d,T,F,k1,k2,k3⟩:=z hm;refine⟨_,d,T,F,?_,k1,by rw[BQ];exact k2,by rw[BQ,k3]⟩
   cases R with
   |slot n=>cases hm
   |hand=>cases hm
   |box n=>simp[St.setRoot,BM]
   |ext n=>simp[St.setRoot,BM]
  rw[Bb hR,Bb hR];have h1:(E.setRoot r<|Zk cs j<|Bm c).boxes R=E.boxes R:=by
   cases r<;>simp only[St.setRoot,BM]<;>first
    |rfl
    |(rw[Bi hR])
  rw[h1];exact h.box R hm
 ·have:(E.setRoot r<|Zk cs j<|Bm c).boxes .hand=E.boxes .hand:=by
   cases r<;>simp only[St.setRoot,BM]<;>first
    |exact absurd rfl hh
    |rfl
    |(rw[Bi<|by simp])
  rw[this];exact h.nohand
 ·intro R;by_cases hR:R=r
  ·subst hR;rw[BQ];exact hl.1.nodup<|h.nodup R
  rw[Bb hR];exact h.nodup R
 ·exact λR S h2 b hb hb'=>h.dis R S h2 b (hF R b hb)<|hF S b hb'
 ·intro R S b hb hb'
  rcases hU S b hb' with q|⟨rfl,q1,q2⟩
  ·exact h.disU R S b (hF R b hb) q
  by_cases hR:R=S
  ·grind [BQ]
  exact h.dis R S hR b (hF R b hb) q1
 ·exact λR b hb=>h.inF R b<|hF R b hb
 ·intro R b hb
  rcases hU R b hb with q|⟨rfl,q1,_⟩
  ·exact h.inU R b q
  obtain⟨q2,q3⟩:=h.inF R b q1
  grind
 ·exact h.disA
 ·exact h.os
 ·exact h.tape
 ·exact h.output
 ·exact h.size
 ·exact h.keep
 ·exact h.len
 ·exact h.nodef
 ·exact h.xblk
 ·rw[Ek];exact h.ambB
 ·rw[Ek];exact h.ambI
 ·rw[H6];exact h.frz
 ·exact h.ambF
 rw[Ek];exact h.pin
end
theorem zX {r:Root} (h:Rk E r j=some row):∃cs e s,E.root r=some cs/\cs[j]?=some (.sl true e s row)/\frE E r j (Bm row)=E.setRoot r (Zk cs j (Bm row)):=by grind [Rj,frE]
def Xz:Root->Bool
 | .hand=>false
 |_=>true
theorem Tv {r:Root} (h:Xz r=true):r≠ .hand:=by rintro rfl;cases h
theorem RW.fz (r:Root) (j:Nat) (hs:Bm row=row') (h:RW P N ops i (frE E r j row') Q) (ho:Rk E r j=some row:=by kernel_rfl) (hh:Xz r=true:=by rfl):RW P N ops i E Q:=by
 intro w0 FA UA w a blk FS US hr hF hU;obtain⟨cs,e,s,h1,h2,h3⟩:=zX ho;obtain⟨FS',US',k1,k2,k3⟩:=hr.freeze h1 h2<|Tv hh;rw[<-hs,h3]at h;exact h _ _ _ _ _ _ _ _ k1 (by rw[k2,hF])<|by rw[k3,hU]
theorem KW.fz {ts:List Nat} (r:Root) (j:Nat) (hs:Bm row=row') (h:KW P N ops ts dn (frE E r j row') Q) (ho:Rk E r j=some row:=by kernel_rfl) (hh:Xz r=true:=by rfl):KW P N ops ts dn E Q:=by
 intro hq hc w0 FA UA w a blk FS US hr hF hU;obtain⟨cs,e,s,h1,h2,h3⟩:=zX ho;obtain⟨FS',US',k1,k2,k3⟩:=hr.freeze h1 h2<|Tv hh;rw[<-hs,h3]at h;exact h hq hc _ _ _ _ _ _ _ _ k1 (by rw[k2,hF])<|by rw[k3,hU]
theorem Wp.fz (r:Root) (j:Nat) (hs:Bm row=row') (h:Wp P N c (frE E r j row') Q) (ho:Rk E r j=some row:=by kernel_rfl) (hh:Xz r=true:=by rfl):Wp P N c E Q:=by
 intro w0 FA UA w a blk FS US hr hF hU;obtain⟨cs,e,s,h1,h2,h3⟩:=zX ho;obtain⟨FS',US',k1,k2,k3⟩:=hr.freeze h1 h2<|Tv hh;rw[<-hs,h3]at h;exact h _ _ _ _ _ _ _ _ k1 (by rw[k2,hF])<|by rw[k3,hU]
def St.fzs (E:St) (f:Option Nat):St:={E with fz:=f}
theorem n9 {a:Act} {f:Option Nat} (r:Root):BR w w a a E (E.fzs f) blk blk r:=by
 have hp:∀q j,(E.fzs f).place r q j=E.place r q j:=λq j=>by cases r<;>rfl
 exact⟨.inr ⟨rfl,λq j v h1 h2=>⟨h1,by rw[hp];exact h2⟩,λq j ad _ h1 h2=>⟨h1,by rw[hp];exact h2⟩⟩,.inr ⟨rfl,λj ad h1 h2=>⟨h1,by rw[hp];exact h2⟩⟩⟩
theorem Cw.fzs {w0:Base} {a:Act} (h:Cw w0 FA UA N w a E blk FS US) (f:Option Nat) (hf:∀n,f=some n->Frz w0 a n):Cw w0 FA UA N w a (E.fzs f) blk FS US where
 slot:=λn=>H4 n9 (h.slot n) (λ_ _=>rfl) λ_ _=>rfl
 box:=h.box
 nohand:=h.nohand
 nodup:=h.nodup
 dis:=h.dis
 disU:=h.disU
 inF:=h.inF
 inU:=h.inU
 disA:=h.disA
 os:=h.os
 tape:=h.tape
 output:=h.output
 size:=h.size
 keep:=h.keep
 len:=h.len
 nodef:=h.nodef
 xblk:=h.xblk
 ambB:=h.ambB
 ambI:=h.ambI
 frz:=hf
 ambF:=h.ambF
 pin:=h.pin
theorem sL (n:Nat):(2*n+1)/2=n:=by omega
theorem sK (n:Nat):¬(2*n+1) %2=0:=by omega
def ABt (o:Oper):Bool:=match o.op with
 | .buildSlice t len parts=>Nat.beq len 0&&Nat.beq parts.size 0
 |_=>false
theorem ACw {a:Act} {nx:Next} {w':World} (hb:ABt o=true) (hd:o.dst=some d) (hN:d<N) (hs:Ci P N false E o=some E') (hr:(execOp a.eval o).run P w= .ok nx w'):∃B,nx= .value (.slice B 0 0):=by
 unfold ABt at hb;split at hb
 ·rename_i t len parts ho;rw[Aj]at hb;have h1:=AP hb.1;have h2:=AP hb.2;subst h1;have h3:parts= #[]:=Array.eq_empty_of_size_eq_zero h2;subst h3;simp only[Ci,hd,BE hN,ho,L7]at hs;split at hs
  ·rename_i e hu;split at hs
   ·rename_i zs ss hz b;obtain⟨i,z,hi,c,f,g⟩:=Js (w:=w) hz;simp_all [run_underlying,execOp,Instr.buildSlice,sizeOf,typeInfo,newRow,Instr.fill];grind
   cases hs
  cases hs
 cases hb
def wK (x:Operand):Nat:=match x with
 | .tmp n=>n
 |_=>0
theorem qS {ts:List Nat} (h:KW P N ops ts (i::dn) (((Ci P N false E (oA ops i)).getD E).fzs (some (2*((oA ops i).dst.getD 0)+1))) Q) (hs:(Ci P N false E (oA ops i)).isSome=true:=by kernel_rfl) (hk:(QF P ops E i&&ABt (oA ops i)&&Hg N (oA ops i))=true:=by kernel_rfl):KB P N ops ts dn i E Q:=by
 have hs':=getD_some (a:=E) hs;simp only[Aj]at hk;obtain⟨h1,h2⟩:=GU hk.1.1;obtain⟨d,h3,_,h4⟩:=DR hk.2;rw[h3]at h;simp only[CX]at h;have b:kp (oA ops i)=true:=by grind [ABt,kp]
 intro w0 FA UA w a blk FS US hr hF hU;unfold wpOp;simp only[Hx h1,BF hr h2,CC];obtain⟨nx,w',v,blk',FS',US',k1,k2,k3,k4,k5,k6⟩:=QN hr hF hU hs';obtain⟨B,hB⟩:=ACw (N:=N) hk.1.2 h3 h4 hs' k1;have hv:v= .slice B 0 0:=by grind
 refine .inl ?_;unfold Oper.wp;rw[k1,hB];refine⟨λ_=>k6 b,_,blk',FS',US',h,?_,k4,k5⟩;rw[hv]at k3;refine k3.fzs _ λn hn=>?_
 injection hn with hn
 subst hn;unfold Frz;rw[Bi<|sK d,sL d,h3];refine⟨B,?_⟩;have:=k3.len;simp only[Act.eval,Act.put];rw[Array.getD_eq_getD_getElem?];have hl:=hr.len
 grind
theorem KB.a {ts:List Nat} (hs:Ci P N false E (oA ops i)=some E') (h:KW P N ops ts (i::dn) (E'.fzs none) Q) (hk:(QF P ops E i&&zL (oA ops i)&&Nat.beq (Eu (oA ops i)).1 (Eu (oA ops i)).2.1&&Hg N (oA ops i))=true:=by kernel_rfl) (hx:(Eu<|oA ops i).2.2.1= .tmp (wK (Eu<|oA ops i).2.2.1):=by kernel_rfl) (hz:E.fz=some (2*wK (Eu<|oA ops i).2.2.1+1):=by kernel_rfl):KB P N ops ts dn i E Q:=by
 simp only[Aj]at hk;obtain⟨⟨⟨h0,h5⟩,h6⟩,h7⟩:=hk;obtain⟨h1,h2⟩:=GU h0;obtain⟨d,h3,_,h4⟩:=DR h7;have c:=AP h6;have ho:=gI h5;rw[<-c]at ho;intro w0 FA UA w a blk FS US hr hF hU;unfold wpOp;simp only[Hx h1,BF hr h2,CC];have he:MP P E d (Eu<|oA ops i).1 (Eu<|oA ops i).2.2.1 (Eu<|oA ops i).2.2.2=some E':=by grind [Ci]
 obtain⟨nx,w',v,blk',FS',US',k1,k2,k3,k4,k5,_,k6⟩:=Vm hr hF hU ho h3 h4 he;have b:=hr.frz _ hz;unfold Frz at b;rw[Bi<|sK _,sL,<-hx]at b;obtain⟨B,hB⟩:=b;refine .inl ?_;unfold Oper.wp;rw[k1]
 rcases k2 with rfl|⟨rfl,rfl⟩
 ·exact⟨λ_=>k6 B hB,_,blk',FS',US',h,k3.fzs none (λn hn=>by cases hn),k4,k5⟩
 exact⟨λ_=>k6 B hB,_,blk',FS',US',h,k3.fzs none (λn hn=>by cases hn),k4,k5⟩
def rm (k:IntKind) (a b:Int):Option Int:=if b=0 then none else some<|a.tmod b
def ban (k:IntKind) (a b:Int):Int:=k.wrap (BitVec.ofInt k.bits a&&&BitVec.ofInt k.bits b).toNat
def bxo (k:IntKind) (a b:Int):Int:=k.wrap (BitVec.ofInt k.bits a^^^BitVec.ofInt k.bits b).toNat
def AB2 (P:Program) (E:St) (o:Oper) (k:IntKind) (q:Bool):Option (Int×Int):=match o.op with
 | .binOp op t x y _=>bif(match op with| .rem=>!q| .quo=>q|_=>false)then(match E.cell1 P t x,E.cell1 P t y with
  |some (.int k' a),some (.int k'' b)=>bif decide (k'=k)&&decide (k''=k)then some (a,b)else none
  |_,_=>none)else none
 |_=>none
theorem prm {k:IntKind} {a b v:Int} (hx:rm k a b=some v) (hc:AB2 P E o k false=some (a,b):=by kernel_rfl):AK P E o=some (.one<|.int k v):=by
 unfold AB2 at hc;split at hc
 ·rename_i op t x y t' ho;cases op<;>simp only[BK,Al,Ad,reduceCtorEq]at hc;split at hc
  ·grind [rm,AK,Wa,WN,zM]
  cases hc
 cases hc
def iY (P:Program) (f:FuncId) (as:List AV) (a:List TV):Prop:=∀(w:World) (vs:List Value) (FA UA:List Nat),KA w as vs FA UA->FA.Nodup->(∀b∈FA,b∉UA)->(∀b∈FA++UA,b<w.heap.size)->
  Calls P f vs.toArray w λe w'=>∃v F U G V,e= .returned v/\AAx w w' FA UA (.tup []) [.ext a] [v] (.tuple #[]) F U G V
theorem gkp {cells:List TV} (hf:P.funcs[f]?=some fn) (hb:fn.body=some c) (hN:fn.ntmps=N) (h:Wp P N c (Dr as) λe E=>(e= .normal\/e= .ret)/\∃t r,fn.results.toList=[.tmp t]/\E.ptr? (.tmp t)=some (r,[],0)/\r.mem=true/\E.boxes r=some cells) (s:cells.isEmpty=false:=by rfl):iY P f as cells:=by
 subst hN;intro w vs FA UA ha l j m;obtain⟨blk,FS,US,hr,hF,hU⟩:=RH (N:=fn.ntmps) ha l j m (A:=QD.none) (fz:=none) trivial (λb hb=>by cases hb);refine calls_of_wp hf hb<|wp_mono (h _ _ _ _ _ _ _ _ hr hF hU) ?_;rintro e a w' ⟨E,blk',FS',US',⟨he,t,r,h1,h2,h3,h4⟩,k3,h5,h6⟩;obtain⟨u,ad,i,o⟩:=Kd k3 h2;have p:ad=⟨blk' r,0,none⟩:=by
  cases r with
  |slot n=>cases h3
  |hand=>cases h3
  |box n=>injection i with i;grind [Addr.add]
  |ext n=>injection i with i;grind [Addr.add]
 obtain⟨d,T,F3,b2,b3,b4⟩:∃d T F3,w'.heap[blk' r]?=some (.cells d T (0,0))/\Bv w' cells d.toList F3 (US' r)/\FS' r=blk' r::F3:=by
  rcases k3.box r h3 with⟨q,_⟩|⟨cs,d,T,F3,q1,q2,q3,q4⟩
  ·grind
  grind
 have hne':cells≠ []:=by grind
 have k:(fn.results.toList.mapM<|Px P a.tmps).run P w'= .ok [a.eval<|.tmp t] w':=by
  rw[h1,List.mapM_cons];rfl
 have g:a.defers=[]/\∃v,(results fn a.tmps).run P w'= .ok v w'/\∃v' F U G V,Ending.returned v= .returned v'/\AAx w w' FA UA (.tup []) [.ext cells] [v'] (.tuple #[]) F U G V:=by
  refine⟨k3.nodef,_,NQ k,a.eval<|.tmp t,[],[],FS' r,US' r,by simp,?_⟩
  exact{
   res:=by grind [i8,Vt]
   fin:=⟨_,[],FS' r,[],US' r,[],rfl,by simp,by simp,⟨blk' r,d,T,F3,by rw[o,p],b2,b3,b4,hne'⟩,⟨rfl,rfl,rfl⟩⟩
   nodup:=by simpa using k3.nodup r
   dis:=λb hb hb'=>k3.disU r r b (by simpa using hb)<|by simpa using hb'
   inF:=λb hb=>k3.inF r b<|by simpa using hb
   inU:=λb hb=>k3.inU r b<|by simpa using hb
   os:=k3.os
   tape:=k3.tape
   output:=k3.output
   size:=k3.size
   keep:=λb hb hF=>k3.keep b hb hF (λe=>by cases e)}
 rcases he with rfl|rfl
 ·exact g
 exact g
section
variable {w0:Base} {a:Act}
theorem AAj {l:List (Bool×TypeId×Operand)} {ss:List (Option SV)} {E1:St} {c:Bool} {K:Act->World->Prop} {Q:Exit->Act->World->Prop} (h:Cw w0 FA UA N w a E blk FS US) (hF:FS .hand=[]) (hU:US .hand=[]) {args:Array Operand} {tys:Array TypeId} (ho:o.op= .call {callee:= .value (.func f),args:=args,argTypes:=tys}) (hf:bG P f) (hd:o.dst=some d) (hN:d<N) (hl:l.map (λx=>x.2.2)=args.toList) {i:List TV} (hg:iY P f as i) (h1:Oq P E l=some (ss,E1)) (h2:Jf P E1 l ss=some (as,c)) (h3:c=true\/A0 i=false) (hK:∀w' v blk' FS' US',Cw w0 FA UA N w' (a.put (some d) v) (E1.newBox d i) blk' FS' US'->FS' .hand=[]->US' .hand=[]->K (a.put (some d) v) w'):o.wp P a w K Q:=by
 obtain⟨FS1,US1,F,U,k1,k2,k3,k4,_⟩:=P2 h h1;rw[hF,A5]at k3;rw[hU,A5]at k4;obtain⟨U',k5,k6⟩:=KI k2 k1 h2;have y:l.map (λx=>a.eval x.2.2)=(args.map a.eval).toList:=by
  rw[OZ,<-hl,IY];rfl
 rw[y]at k5;have m:∀b∈F,b∉U':=by
  intro b hb hb';rw[<-k3]at hb
  rcases k6 b hb' with h4|⟨r,h4⟩|⟨_,r,h5,h4⟩
  ·rw[<-k4]at h4;exact k2.disU .hand .hand b hb h4
  ·exact k2.disU .hand r b hb h4
  exact k2.dis .hand r (JO h5) b hb h4
 have k:=hg w _ F U' k5 (by rw[<-k3];exact k2.nodup .hand) m (by
  intro b hb
  rcases Az.1 hb with hb|hb
  ·exact(k2.inF .hand b (by rw[k3];exact hb)).2
  rcases k6 b hb with h4|⟨r,h4⟩|⟨_,r,h5,h4⟩
  ·exact(k2.inU .hand b (by rw[k4];exact h4)).2
  ·exact(k2.inU r b h4).2
  exact(k2.inF r b h4).2)
 unfold Oper.wp;rw[HM ho hf];simp only[Oper.upon];rw[Array.toArray_toList]at k;refine Calls.mono k ?_;rintro e w' ⟨v,Fr,Ur,G,V,rfl,g⟩;obtain⟨v0,vs0,G1,G2,V1,V2,p,rfl,rfl,⟨b0,z,T,F0,rfl,e1,e2,rfl,e3⟩,⟨rfl,rfl,rfl⟩⟩:=g.fin
 injection p with p _
 subst p;have q:=g.res;simp only[i8,Vt]at q;obtain⟨_,_,_,rfl,rfl⟩:=q;have t:=g.nodup;simp only[A5,AO]at t;have a1:∀b∈b0::F0,(b∈FS1 .hand\/w.heap.size<=b)/\b<w'.heap.size:=by
  intro b hb;have:=g.inF b<|by simpa using hb
  grind
 have h8:∀b∈V1,(∃s,b∈US1 s)\/((b∈FS1 .hand\/w.heap.size<=b)/\b∉b0::F0/\b<w'.heap.size):=by
  intro b hb;obtain⟨h4,h5⟩:=g.inU b<|by simpa using hb
  have h9:b∉b0::F0:=λe=>g.dis b (by simpa using e)<|by simpa using hb
  grind [Kc]
 have j:∀b,b<w.heap.size->b∉FS1 .hand->w'.heap[b]?=w.heap[b]? :=λb hb u=>g.keep b hb<|by grind
 let E2:St:={E1 with boxes:=BM E1.boxes (.box d)<|some i,ver:=BM E1.ver (.box d)<|E1.ver (.box d)+1,gen:=BM E1.gen (.box d) (E1.gen (.box d)+1)}
 let blk1:=BM blk (.box d) b0
 have h0:Root.box d≠Root.hand:=by simp
 have h6:∀s,BR w w' a a E1 E2 blk blk1 s:=by
  intro s;by_cases hs:s= .box d
  ·subst hs;exact⟨.inl (by simp[E2,BM]),.inl<|by simp[E2,BM]⟩
  have hv:E2.ver s=E1.ver s:=by grind [BM]
  have hg:E2.gen s=E1.gen s:=by grind [BM]
  by_cases hh:s= .hand
  ·subst hh;exact FB hv hg<|by simp[St.root,k2.nohand]
  refine D7 k2 hv hg ?_ (λ_ _=>rfl) (λ_=>by grind [BM]) (λb hb=>j b (k2.inF s b hb).2<|k2.dis s .hand hh b hb) λb hb=>j b (k2.inU s b hb).2 λe=>k2.disU .hand s b e hb;cases s<;>simp_all [E2,St.root,BM]
 have g1:=k2.two (w':=w') (a':=a) (E':=E2) (blk':=blk1) (r1:= .box d) (r2:= .hand) (L1:=b0::F0) (L2:=[]) (V1:=V1) (V2:=[]) h0
  (by simpa using t)
  (λb hb=>by grind)
  (λb hb=>by grind)
  g.size g.os g.tape g.output (λb hb _ u=>j b hb u) h6
  (λn _ _=>⟨rfl,rfl⟩)
  (λs _ hs _=>⟨by grind [BM],by grind [BM]⟩)
  (.inr ⟨i,z,T,F0,by simp[E2,BM],by grind [BM],e2,by simp[blk1,BM]⟩)
  trivial (by simp[E2,BM,k2.nohand]) k2.len k2.nodef (hfz:=λn hn=>k2.frz n hn)
 have h7:Im w' a E2 blk1 (.one<|.ptr (.box d) (E2.gen<|.box d) [] 0) (.pointer<|some ⟨b0,0,none⟩) [] []:=by
  have a0:E2.stamp (.box d) []=E2.gen (.box d):=rfl
  grind [UD,St.place,St.root,BM,B7,pa,Addr.add]
 have g2:=g1.put (d:=d) hN h7 ZQ.none;have:=hK w' _ blk1 _ _ g2 (by rfl)<|by rfl
 grind
end
theorem ADW {l:List AV} {x:Option α} (h:x.bind kk=some r) {c:α->List TV} (f:∀v,x=some v->iY P (OT (oA ops i)) l (c v)) (hk:∀v,x=some v->kk v=some r->RW P N ops (i+1) ((clE P E (oA ops i) 0).newBox ((oA ops i).dst.getD 0) (c v)) Q) (b:ZV P E (oA ops i) 0=some l:=by kernel_rfl) (hc:shB P E (oA ops i) 0=true:=by kernel_rfl) (ho:(QF P ops E i&&S9 P N (oA ops i)&&Hg N (oA ops i))=true:=by kernel_rfl):RW P N ops i E Q:=by
 obtain⟨v,hv,h⟩:=Ag.1 h;simp only[Aj]at ho;obtain⟨h1,h2⟩:=GU ho.1.1;obtain⟨args,tys,h3,h4,h5,h6⟩:=Oe ho.1.2;obtain⟨d,h7,_,h8⟩:=DR ho.2;have e:=hk v hv h;rw[h7]at e;unfold RW;rw[Gh h1];intro w0 FA UA w a blk FS US hr hF hU;simp only[wpList,BF hr h2,CC];unfold ZV shB shA at*;unfold clE at e
 cases hm:mvA P E (oA ops i) 0 with
 |none=>grind
 |some z=>
  obtain⟨ss,E1⟩:=z;rw[hm]at b hc e;simp only at b hc e
  cases hs:Jf P E1 (bits 0<|FY<|oA ops i) ss with
  |none=>grind
  |some y=>
   rw[hs]at b hc
   injection b with b
   subst b;refine .inl<|AAj hr hF hU h3 h4 h7 h8 (l:=bits 0<|FY<|oA ops i) (by rw[OW,h6]) (f v hv) hm hs (.inl hc) λw' v' blk' FS' US' k1 k2 k3=>e _ _ _ _ _ _ _ _ k1 k2 k3
theorem rsp {rs:List ResultVar} {a:List TV} (t:Nat) (h1:rs=[.tmp t]) (h:(match E.ptr? (.tmp t)with
 |some (r,[],0)=>bif r.mem then E.boxes r else none
 |_=>none)=some a):∃t r,rs=[.tmp t]/\E.ptr? (.tmp t)=some (r,[],0)/\r.mem=true/\E.boxes r=some a:=by grind
def xtE (N:Nat) (E:St) (o:Oper):Option St:=match o.op,o.dst with
 | .extract t ix,some d=>bif Nat.blt d N then Nx E d t ix else none
 |_,_=>none
theorem ACo {w0:Base} {a:Act} (h:Cw w0 FA UA N w a E blk FS US) (hF:FS .hand=[]) (hU:US .hand=[]) (he:xtE N E o=some E'):
  ∃v blk' FS' US',(∀w2,(execOp a.eval o).run P w2= .ok (.value v) w2)/\Cw w0 FA UA N w (a.put o.dst v) E' blk' FS' US'/\FS' .hand=[]/\US' .hand=[]:=by
 unfold xtE at he;split at he
 ·rename_i t ix d ho hd
  cases hN:Nat.blt d N with
  |false=>grind
  |true=>
   rw[hN]at he;have hN':d<N:=by simp_all
   obtain⟨nx,w',v,blk',FS',US',k1,k2,k3,k4,k5,_⟩:=Ej.extract (P:=P) h hF hU ho hd hN' he;have e:∃x,∀w2,(execOp a.eval o).run P w2= .ok (.value x) w2:=by
    unfold Nx at he;split at he
    ·rename_i n;split at he
     ·rename_i ss b;split at he
      ·rename_i s c;have hs:=h.slot n;rw[b]at hs;obtain⟨vs,f,hx⟩:=hs;obtain⟨v,A,B,C,D,F1,U1,h1,h2,h3,h4,h5⟩:=XS ix hx c;simp_all [execOp,Instr.extract];grind
      cases he
     cases he
    cases he
   grind
 cases he
theorem Ja {ts:List Nat} (i:Nat) (h:KW P N ops ts (i::dn) ((xtE N E (oA ops i)).getD E) Q) (hs:(xtE N E (oA ops i)).isSome=true:=by kernel_rfl) (hk:(QF P ops E i&&tQ ops ts dn i)=true:=by kernel_rfl):KW P N ops ts dn E Q:=by
 have hs':=getD_some (a:=E) hs;simp only[Aj,tQ]at hk;obtain⟨h1,h3,h4⟩:=hk;obtain⟨h5,h6⟩:=GU h1;unfold KW at h⊢;rw[Sg (i:=i) h3];intro hQ hc w0 FA UA w a blk FS US k1 k2 k3;obtain⟨e1,e2,e3,e4,e5⟩:=UX h4;obtain⟨v,blk',FS',US',g1,g2,g3,g4⟩:=ACo (P:=P) k1 k2 k3 hs';refine Mt (v:=v) (n:=ops.size) (Hx h5) (Region.noSelect_spec e1) (λc a w hx=>?_) e4 e5 _ _ a w hc (Region.free_spec (Hx h5) e2) e3 (.inl ⟨BF k1 h6,λw2 _=>g1 w2⟩) ?_
 ·obtain⟨E',blk',FS',US',m1,_⟩:=hx
  grind
 exact h hQ (Jn hc e3) _ _ _ _ _ _ _ _ g2 g3 g4
def iT (P:Program) (E:St) (o:Oper) (s:SV):Prop:=∀(N:Nat) (w0:Base) (FA UA:List Nat) (w:World) (a:Act) (blk:Root->Nat) (FS US:Root->List Nat),Cw w0 FA UA N w a E blk FS US->EC P w a E blk FS US o s
theorem AEv (hp:iT P E (oA ops i) s) (h:RW P N ops (i+1) (E.put (oA ops i).dst s) Q) (hk:(QF P ops E i&&Hg N (oA ops i))=true:=by kernel_rfl):RW P N ops i E Q:=by
 rw[Aj]at hk;obtain⟨h1,h2⟩:=GU hk.1;obtain⟨d,h3,_,h4⟩:=DR hk.2;rw[h3]at h;unfold RW;rw[Gh h1];intro w0 FA UA w a blk FS US hr hF hU;simp only[wpList,BF hr h2,CC];exact .inl<|(Lp hr hF hU (hp _ _ _ _ _ _ _ _ _ hr) h3 h4).wp λw' v blk' FS' US' k1 k2 k3 _=>h _ _ _ _ _ _ _ _ k1 k2 k3
theorem AE5 {m:Nat} (hp:iT P E (oA ops i) s) (h:SW P N ops m (i+1) (E.put (oA ops i).dst s) K) (hk:(QF P ops E i&&Hg N (oA ops i)&&Nat.blt i m)=true:=by kernel_rfl):SW P N ops m i E K:=by
 simp only[Aj]at hk;obtain⟨h1,h2⟩:=GU hk.1.1;obtain⟨d,h3,_,h4⟩:=DR hk.1.2;rw[h3]at h;unfold SW;rw[Qh h1 hk.2];intro w0 FA UA w a blk FS US k1 k2 k3;obtain⟨v,U,g1,g2,g3⟩:=hp _ _ _ _ _ _ _ _ _ k1;have hr:=g1 w λr _=>⟨λ_ _=>rfl,λ_ _=>rfl⟩;simp only[wpStill,BF k1 h2,CC,Oper.still,hr,Oper.stillUpon_value];rw[h3];refine h _ _ _ _ _ _ _ _ (k1.put h4 g2<|MO k1 g3 _) ?_ ?_
 ·grind [Bb]
 grind [Bb]
theorem AE6 {ts:List Nat} (i:Nat) (hp:iT P E (oA ops i) s) (h:KW P N ops ts (i::dn) (E.put (oA ops i).dst s) Q) (hk:(QF P ops E i&&Hg N (oA ops i)&&tQ ops ts dn i)=true:=by kernel_rfl):KW P N ops ts dn E Q:=by
 simp only[Aj,tQ]at hk;obtain⟨⟨h1,h2⟩,h3,h4⟩:=hk;obtain⟨h5,h6⟩:=GU h1;obtain⟨d,h7,_,h8⟩:=DR h2;unfold KW at h⊢;rw[Sg (i:=i) h3];rw[h7]at h;intro hQ hc w0 FA UA w a blk FS US k1 k2 k3;obtain⟨e1,e2,e3,e4,e5⟩:=UX h4;obtain⟨v,U,g1,g2,g3⟩:=hp _ _ _ _ _ _ _ _ _ k1;refine Mt (v:=v) (n:=ops.size) (Hx h5) (Region.noSelect_spec e1) (λc a w hx=>?_) e4 e5 _ _ a w hc (Region.free_spec (Hx h5) e2) e3 (.inl ⟨BF k1 h6,λw2 e=>?_⟩) ?_
 ·obtain⟨E',blk',FS',US',m1,_⟩:=hx
  grind
 ·exact g1 w2 λr hr=>⟨λb hb=>e.2 b (k1.inF r b hb).2,λb hb=>e.2 b (k1.inU r b hb).2⟩
 rw[h7];refine h hQ (Jn hc e3) _ _ _ _ _ _ _ _ (k1.put h8 g2<|MO k1 g3 _) ?_ ?_
 ·grind [Bb]
 grind [Bb]
def ADF (o:Oper):Bool:=match o.op with
 | .assign (.const _)| .move (.const _)=>true
 |_=>false
theorem pjk (h:ADF o=true:=by kernel_rfl):iT P E o (.one .junk):=by
 intro N w0 FA UA w a blk FS US hr;unfold ADF at h;split at h
 ·rename_i v ho;exact⟨v,[],λw2 _=>by simp_all [execOp,Act.eval],by simp[Im,DI,TV.isJunk],by simp⟩
 ·rename_i v ho;exact⟨v,[],λw2 _=>by simp_all [execOp,Act.eval],by simp[Im,DI,TV.isJunk],by simp⟩
 cases h
abbrev pb (n:Nat):SV:= .one (.ptr (.box n) 0 [] 0)
abbrev px (n:Nat):SV:= .one (.ptr (.ext n) 0 [] 0)
abbrev i6 (n:Int):TV:= .int .i64 n
abbrev tb (b:Bool):TV:= .bool b
abbrev ts (s:ByteArray):TV:= .str s
abbrev rg (n:Nat):List AV:=List.replicate n .gone
theorem jr {w:β} {f:V->Option β} {a:V⊕β} (h:some (.inr w)=some a) (hk:Sum.elim f some a=some r):some w=some r:=by grind
theorem jo {o:S⊕(V⊕β)} {w:β} {f:V->Option β} (h:some (.inr (.inr w))=some o) (hk:∀w,o= .inr (.inr w)->Sum.elim f some (.inr w)=some r):some w=some r:=by grind
theorem rr {v r:β} (h:some v=some r):v=r:=Option.some.inj h
theorem rq {e:Exit} {rs:List ResultVar} {a:SV} (he:e= .normal\/e= .ret:=by first|exact .inr rfl|exact .inl rfl) (hk:(DC P E rs).map (λz=>Eh z.1)=some a:=by kernel_rfl):(e= .normal\/e= .ret)/\∃ss E',DC P E rs=some (ss,E')/\Eh ss=a:=⟨he,rsz hk⟩
theorem rx {e:Exit} {rs:List ResultVar} {b:SV} {a:List TV} (he:e= .normal\/e= .ret:=by first|exact .inr rfl|exact .inl rfl) (hk:(DC P E rs).map (λz=>(Eh z.1,z.2.boxes<|.ext 0))=some (b,some a):=by kernel_rfl):(e= .normal\/e= .ret)/\∃ss E',DC P E rs=some (ss,E')/\Eh ss=b/\E'.boxes (.ext 0)=some a:=⟨he,rsx hk⟩
section
variable {id:Nat}
theorem ws (h:RW P N ops 0 E (Jt (λE'=>Wp P N y E' Q) Q)):Wp P N (.seq (.region id ops false) y) E Q:=Wp.seq<|ACl h
end
theorem BC {f:α->List TV} {n:Int} (hf:∀x,(f x).length=sz) (h:(gi l n).bind kk=some r) (hk:∀x,gi l n=some x->kk x=some r->RW P N ops (i+1) (E.put (oA ops i).dst (lH E (oA ops i) (n.toNat*sz+0))) Q) (hc:zK P E (oA ops i) sz=some (A8 f l,n):=by kernel_rfl) (hq:xZ P N ops i E=true:=by kernel_rfl):RW P N ops i E Q:=
 bd h λx gx h=>RW.q (I9 hf gx hc) (hk x gx h) hq
def rC (P:Program) (N:Nat) (ops:Array Oper) (ts dn:List Nat) (E:St) (i:Nat):Option St:=bif Nat.blt i ops.size&&Hg N (oA ops i)&&tQ ops ts dn i then
 (match Be P ops E (oA ops i)with
 |some false=>some<|E.put (oA ops i).dst<|.tup []
 |some true=>match Hu P E (oA ops i)with
  |some s=>some<|E.put (oA ops i).dst s
  |none=>xtE N E<|oA ops i
 |none=>none)else none
theorem tst {ts:List Nat} (hs:rC P N ops ts dn E i=some E') (h:KW P N ops ts (i::dn) E' Q):KW P N ops ts dn E Q:=by grind [ADY,ADb,Ja,rC,QF]
def tA (P:Program) (N:Nat) (ops:Array Oper) (ts dn:List Nat) (E:St):List Nat->Option (Nat×St)
 |[]=>none
 |i::l=>match rC P N ops ts dn E i with
  |some E'=>some (i,E')
  |none=>tA P N ops ts dn E l
theorem mC {ts:List Nat}:∀{l:List Nat} {E':St},tA P N ops ts dn E l=some (i,E')->rC P N ops ts dn E i=some E'
 |[],_,h=>by cases h
 |j::l,E',h=>by
  simp only[tA]at h;split at h
  ·grind
  exact mC h
def ACi (P:Program) (N:Nat) (ops:Array Oper) (ts:List Nat) (mv:List Nat) (E:St) (i:Nat):Option St:=bif QF P ops E i&&(kp (oA ops i)||ts.contains i)then Ci P N (mv.contains i) E (oA ops i)else none
def ABJ (f:A->Option (List St)):List A->Option (List St)
 |[]=>some []
 |x::l=>match f x,ABJ f l with
  |some a,some b=>some (a++b)
  |_,_=>none
theorem mW {f:A->Option (List St)}:∀{l:List A} {L:List St},ABJ f l=some L->∀x∈l,∃a,f x=some a/\∀E∈a,E∈L
 |[],_,_,x,hx=>by cases hx
 |y::l,L,h,x,hx=>by
  simp only[ABJ]at h;split at h
  ·rename_i a b h1 h2
   injection h with h
   subst h
   rcases Gi.1 hx with rfl|hx
   ·grind
   obtain⟨a',h3,h4⟩:=mW h2 x hx
   grind
  cases h
def uH (P:Program) (N:Nat) (ops:Array Oper) (ts mv:List Nat):Nat->List Nat->St->Option (List St)
 |0,_,_=>none
 |n+1,dn,E=>match Region.ready .any ops (zB ops.size dn)with
  |[]=>some [E]
  |rs=>bif Nat.blt dn.length ops.size then(match tA P N ops ts dn E rs with
   |some (i,E')=>uH P N ops ts mv n (i::dn) E'
   |none=>ABJ (λi=>match ACi P N ops ts mv E i with
    |some E'=>uH P N ops ts mv n (i::dn) E'
    |none=>none) rs)else none
theorem qR {ts:List Nat} {mv:List Nat}:∀{n:Nat} {dn:List Nat} {E:St} {L:List St},uH P N ops ts mv n dn E=some L->(∀E'∈L,Q .normal E')->KW P N ops ts dn E Q
 |0,_,_,_,h,_=>by cases h
 |n+1,dn,E,L,h,hq=>by
  simp only[uH]at h;split at h
  ·grind [KW.done]
  rename_i b
  cases hb:Nat.blt dn.length ops.size with
  |false=>grind
  |true=>
   rw[hb]at h;split at h
   ·rename_i i E' hf;exact tst (mC hf) (qR h hq)
   refine KW.all _ (λi hi=>?_) b (by grind [rdy]);obtain⟨a,h1,h2⟩:=mW h i hi;split at h1
   ·rename_i E' hs;unfold ACi at hs
    cases hc:(QF P ops E i&&(kp (oA ops i)||ts.contains i))with
    |false=>grind
    |true=>
     rw[hc]at hs;exact EX hs (qR h1 λE'' hE=>hq E''<|h2 E'' hE) hc
   cases h1
def yJ (P:Program) (N:Nat) (ops:Array Oper) (ts mv dn:List Nat) (E:St):List St:=(uH P N ops ts mv (ops.size+1) dn E).getD []
theorem nP {c:List PanicEntry} {X:Prop} (h:(Exit.panic c= .normal\/Exit.panic c= .ret)/\X):False:=by grind
section
variable {w0:Base} {a:Act}
theorem Cw.resay (h:Cw w0 FA UA N w a E blk FS US) (hd:d<N) (hs:Im w a E blk s (a.eval (.tmp d)) [] []):∃FS' US',Cw w0 FA UA N w a (E.put (some d) s) blk FS' US'/\FS' .hand=FS .hand/\US' .hand=US .hand:=by
 have k:=h.put (F:=[]) (U:=[]) hd hs ZQ.none;have e:a.put (some d) (a.eval<|.tmp d)=a:=by
  cases a with
  |mk tmps defers=>simp_all [Act.put,Act.eval];grind
 grind [Bb]
end
theorem Cw.toAdr {w0:Base} {a:Act} (h:Cw w0 FA UA N w a E blk FS US) (hd:d<N) (hs:E.ptr? (.tmp d)=some (.ext 0,[],0)) (hp:E.amb.pin=some b):∃FS' US',Cw w0 FA UA N w a (E.put (some d) (.one (.adr ⟨b,0,none⟩))) blk FS' US'/\FS' .hand=FS .hand/\US' .hand=US .hand:=by
 obtain⟨_,ad,h1,h2⟩:=Kd h hs;refine h.resay hd ?_;rw[h2];have e:=h.xblk 0;rw[h.pin b hp]at e;simp only[pa,e,Addr.add]at h1
 injection h1 with h1
 subst h1;refine⟨?_,λ_=>rfl⟩;show Dl w (.adr ⟨b,0,none⟩) _ [] [];simp[Dl]
section
variable {w0:Base} {a:Act}
theorem Cw.toPtr (h:Cw w0 FA UA N w a E blk FS US) (hd:d<N) (hs:E.slots d= .one (.adr ⟨b,0,none⟩)) (hp:E.amb.pin=some b) {c:List TV} (hb:E.boxes (.ext 0)=some c) (f:c.isEmpty=false):
  ∃FS' US',Cw w0 FA UA N w a (E.put (some d) (.one (.ptr (.ext 0) (E.gen (.ext 0)) [] 0))) blk FS' US'/\FS' .hand=FS .hand/\US' .hand=US .hand:=by
 have hv:a.eval (.tmp d)= .pointer (some ⟨b,0,none⟩):=by
  have:=h.slot d;rw[hs]at this;exact this.1.1
 refine h.resay hd ?_;have e:=h.xblk 0;rw[h.pin b hp]at e;refine⟨⟨rfl,rfl,A3 _,λ_=>⟨?_,⟨b,0,none⟩,?_,hv⟩⟩,λ_=>by rw[hv];rfl⟩
 ·grind [St.place,St.root,B7]
 grind [pa,Addr.add]
end
def pnE (E:St) (d b:Nat):St:=E.put (some d)<|.one<|.adr ⟨b,0,none⟩
def ACC (N:Nat) (E:St) (d:Nat):Bool:=Nat.blt d N&&(match E.ptr? (.tmp d)with
 |some (.ext 0,[],0)=>true
 |_=>false)
theorem AA1 (h:ACC N E d=true):d<N/\E.ptr? (.tmp d)=some (.ext 0,[],0):=by grind [FT,ACC]
theorem ADU (d:Nat) (h:RW P N ops i (pnE E d b) Q) (hp:E.amb.pin=some b:=by kernel_rfl) (ho:ACC N E d=true:=by kernel_rfl):RW P N ops i E Q:=by
 intro w0 FA UA w a blk FS US hr hF hU;obtain⟨h1,h2⟩:=AA1 ho;obtain⟨FS',US',k1,k2,k3⟩:=hr.toAdr h1 h2 hp;exact h _ _ _ _ _ _ _ _ k1 (by rw[k2,hF])<|by rw[k3,hU]
def npE (E:St) (d:Nat):St:=E.put (some d)<|.one<|.ptr (.ext 0) (E.gen<|.ext 0) [] 0
def ABe (N:Nat) (E:St) (d:Nat):Bool:=Nat.blt d N&&(match E.boxes (.ext 0)with
 |some cells=>!cells.isEmpty
 |none=>false)
theorem sM (h:ABe N E d=true):d<N/\∃a,E.boxes (.ext 0)=some a/\a.isEmpty=false:=by grind [FT,ABe]
theorem nC (d:Nat) (h:RW P N ops i (npE E d) Q) (hp:E.amb.pin=some b:=by kernel_rfl) (hs:E.slots d= .one (.adr ⟨b,0,none⟩):=by kernel_rfl) (ho:ABe N E d=true:=by kernel_rfl):RW P N ops i E Q:=by
 intro w0 FA UA w a blk FS US hr hF hU;obtain⟨h1,c,h2,h3⟩:=sM ho;obtain⟨FS',US',k1,k2,k3⟩:=hr.toPtr h1 hs hp h2 h3;exact h _ _ _ _ _ _ _ _ k1 (by rw[k2,hF])<|by rw[k3,hU]
theorem tM {ts:List Nat} (d:Nat) (h:KW P N ops ts dn (npE E d) Q) (hp:E.amb.pin=some b:=by kernel_rfl) (hs:E.slots d= .one (.adr ⟨b,0,none⟩):=by kernel_rfl) (ho:ABe N E d=true:=by kernel_rfl):KW P N ops ts dn E Q:=by
 intro hq hc w0 FA UA w a blk FS US hr hF hU;obtain⟨h1,c,h2,h3⟩:=sM ho;obtain⟨FS',US',k1,k2,k3⟩:=hr.toPtr h1 hs hp h2 h3;exact h hq hc _ _ _ _ _ _ _ _ k1 (by rw[k2,hF])<|by rw[k3,hU]
structure ZH (n c b g cap:Nat) (e T T':TypeId) (sz:Nat) (rest:List Value) (enc:γ->List TV) (w:World) (l:List γ):Prop where
 ne:b≠g/\c≠g/\c≠b
 len:l.length=n
 ptr:w.heap[c]?=some (.cells #[.pointer (some ⟨b,0,none⟩)] T' (0,0))
 box:w.heap[b]?=some (.cells (.slice (some ⟨g,0,none⟩) n cap::rest).toArray T (0,0))
 row:∃cur,w.heap[g]?=some (.cells cur e (0,0))/\cur.size=cap*sz/\cur.toList.take (l.length*sz)=(A8 enc l).map TV.val
 le:l.length<=cap/\cap<=maxLen
theorem rW {e:TypeId} {l:List γ} {k:Nat} {n c b g cap:Nat} {rest:List Value} {enc:γ->List TV} (h:ZH n c b g cap e T T' sz rest enc w l) (hk:k<l.length*sz):w.cell? ⟨g,k,none⟩=((A8 enc l).map TV.val)[k]? :=by
 obtain⟨a,h1,h2,h3⟩:=h.row
 grind [World.cell?]
def Hv (n c b g cap:Nat) (e T T':TypeId) (sz:Nat) (rest:List Value) (enc:γ->List TV) (l:List γ):QD where
 B:=[c,b,g]
 I:=λw=>ZH n c b g cap e T T' sz rest enc w l
 st:=λw w' h hk=>⟨h.ne,h.len,by rw[hk c<|by simp];exact h.ptr,by rw[hk b<|by simp];exact h.box,by rw[hk g<|by simp];exact h.row,h.le⟩
 rd:=λad=>if ad.spot.isSome=true then none else if ad.block=c then(if ad.off=0 then some (.pointer<|some ⟨b,0,none⟩)else none)else if ad.block=b then(if ad.off=0 then some (.slice (some ⟨g,0,none⟩) n cap)else none)else if ad.block=g then(if ad.off<l.length*sz then((A8 enc l).map TV.val)[ad.off]? else none)else none
 rdI:=λw ad v h hr=>by
  obtain⟨bl,off,spot⟩:=ad
  cases spot with
  |some s=>simp at hr
  |none=>
   simp only[Option.isSome_none,ME,pD]at hr;split at hr
   ·rename_i hb;subst hb;split at hr
    ·rename_i ho;subst ho
     injection hr with hr
     subst hr;simp[World.cell?,h.ptr]
    cases hr
   split at hr
   ·rename_i hb;subst hb;split at hr
    ·rename_i ho;subst ho
     injection hr with hr
     subst hr;simp[World.cell?,h.box]
    cases hr
   grind [rW]
theorem jH {e:TypeId} {ie:TypeInfo} {c b g cap:Nat} {rest:List Value} {enc:γ->List TV} (h:∀x,(enc x).length=sz) (n:Nat) (gS:Bool) (hx:∀args W,(callFunc sf args).run P W=((Extern.ReflectliteSwapper.swap gS args).run P W).andThen λv w'=> .ok (.value v) w') (h6:P.info? e=some ie) (o:ie.size=sz) (q:∀w,(isAgg e).run P w= .ok true w):
  Mn P (Hv n c b g cap e T T' sz rest enc) sf #[.slice (some ⟨g,0,none⟩) n cap,typeHandle P e]:=by
 intro l i j x y hi hj w hI hB;obtain⟨⟨r,s,t⟩,hn,u,h0,h3,h7⟩:=hI;have a5:b<w.heap.size:=hB b (by simp[Hv]);have a6:c<w.heap.size:=hB c (by simp[Hv]);have a7:g<w.heap.size:=hB g (by simp[Hv]);obtain⟨f,hg,h8,h4⟩:=h3;obtain⟨i0,i1⟩:=If hi;obtain⟨j0,j1⟩:=If hj;obtain⟨a,rfl⟩:=BW i0;obtain⟨d,rfl⟩:=BW j0;simp only[C1]at i1 j1;have la:=(Ae.1 i1).1;have lc:=(Ae.1 j1).1;have hX:((enc x).map TV.val).length=sz:=by grind
 have hY:((enc y).map TV.val).length=sz:=by grind
 have a4:l.length*sz<=f.size:=by simp_all [BS]
 have h9:(a+1)*sz<=l.length*sz:=BS _ la;have a0:(d+1)*sz<=l.length*sz:=BS _ lc;rw[Lo]at h9 a0;have hI:ZH n c b g cap e T T' sz rest enc w l:=⟨⟨r,s,t⟩,hn,u,h0,⟨f,hg,h8,h4⟩,h7⟩;have cell:∀(m:Nat) (z:γ),l[m]?=some z->∀k v,((enc z).map TV.val)[k]?=some v->w.cell? ⟨g,0+m*ie.size+k,none⟩=some v:=by
  intro m z hm k v hk;have a1:=(Ae.1 hk).1;rw[By,h]at a1;have lm:=(Ae.1 hm).1;have a2:(m+1)*sz<=l.length*sz:=BS _ lm;rw[Lo]at a2;rw[o,Ln,rW hI<|by omega];have e1:(A8 enc l)[m*sz+k]?=(enc z)[k]? :=by
   have h2:(A8 enc l)[m*sz+k]?=((A8 enc l).drop<|m*sz)[k]? :=by grind
   grind [JI,AE,T5]
  grind
 have frz:∀(m k:Nat),w.frozen? ⟨g,0+m*ie.size+k,none⟩=false:=by grind [World.frozen?]
 have p:=Go.Lib.run_swap_cells (P:=P) gS e ie h6 q g 0 n cap a d (by omega) (by omega) ((enc x).map TV.val) ((enc y).map TV.val) (by rw[hX,o]) (by rw[hY,o]) (λv hv=>by grind [Xm]) (λv hv=>by grind [Xm]) w (cell a x i1) (cell d y j1) (λk _=>frz a k) λk _=>frz d k;simp only[Ln,o]at p;have h1:=IV e (0,0) g ((enc y).map TV.val) (a*sz) f w hg (by rw[hY];omega);have a8:(setRow f.toList (a*sz)<|(enc y).map TV.val).toArray.size=f.size:=by grind [ED]
 have h2:=IV e (0,0) g ((enc x).map TV.val) (d*sz) _ _ h1 (by grind);have kB:∀k,k<w.heap.size->k≠g->((w.setCells g (a*sz)<|(enc y).map TV.val).setCells g (d*sz)<|(enc x).map TV.val).heap[k]?=w.heap[k]? :=by grind [World.heap_setCells_other]
 refine⟨(w.setCells g (a*sz)<|(enc y).map TV.val).setCells g (d*sz)<|(enc x).map TV.val,?_,⟨?_,?_,?_,?_,?_⟩,?_⟩
 ·rw[hx];have ea:(#[Value.int .i64 (a:Int),Value.int .i64 (d:Int)]++ #[Value.slice (some ⟨g,0,none⟩) n cap,typeHandle P e])= #[.int .i64 (a:Int),.int .i64 (d:Int),.slice (some ⟨g,0,none⟩) n cap,typeHandle P e]:=rfl;rw[ea,p];rfl
 ·rw[World.os_setCells,World.os_setCells]
 ·rw[ID,ID]
 ·rw[World.output_setCells,World.output_setCells]
 ·grind
 ·grind [Hv]
 have h5:(si (si l (a:Int) y) (d:Int) x).length=l.length:=by simp[si]
 have lcur:f.toList.length=f.size:=by simp
 have a9:(setRow f.toList (a*sz)<|(enc y).map TV.val).length=f.size:=by omega
 have b0:(setRow (setRow f.toList (a*sz)<|(enc y).map TV.val) (d*sz)<|(enc x).map TV.val).length=f.size:=by grind [ED]
 refine⟨⟨r,s,t⟩,h5.trans hn,by grind,by grind,⟨_,h2,?_,?_⟩,by grind⟩
 ·grind
 rw[h5];rw[L9 (by rw[hX];omega) (by grind),L9 (by rw[hY];omega) (by grind),h4,<-P3,<-P3];have e1:setRow (A8 enc l) (a*sz) (enc y)=A8 enc (si l (a:Int) y):=by
  have:=RQ h (z:=y) hi
  grind
 obtain⟨z0,a3⟩:∃z0,gi (si l (a:Int) y) (d:Int)=some z0:=by grind [si,gi]
 have e2:=RQ h (z:=x) a3
 grind
theorem sC {e:TypeId} {l:List γ} {n c b g cap:Nat} {rest:List Value} {enc:γ->List TV}:(Hv n c b g cap e T T' sz rest enc l).rd ⟨c,0,none⟩=some (.pointer (some ⟨b,0,none⟩)):=by
 simp[Hv]
theorem sD {e:TypeId} {l:List γ} {n c b g cap:Nat} {rest:List Value} {enc:γ->List TV} (h:c≠b):(Hv n c b g cap e T T' sz rest enc l).rd ⟨b,0,none⟩=some (.slice (some ⟨g,0,none⟩) n cap):=by
 simp[Hv,h.symm]
theorem r9 {e:TypeId} {l:List γ} {i:Int} {k:Nat} {t:TV} {n c b g cap:Nat} {rest:List Value} {enc:γ->List TV} (a:∀x,(enc x).length=sz) {x:γ} {ad:Addr} (hi:gi l i=some x) (hk:(enc x)[k]?=some t) (hb:b≠g) (hc:c≠g) (d:ad=⟨g,i.toNat*sz+k,none⟩):(Hv n c b g cap e T T' sz rest enc l).rd ad=some t.val:=by
 subst d;obtain⟨i0,i1⟩:=If hi;have lm:=(Ae.1 i1).1;have f:=(Ae.1 hk).1;rw[a]at f;have h:(i.toNat+1)*sz<=l.length*sz:=BS _ lm;have e1:(A8 enc l)[i.toNat*sz+k]?=(enc x)[k]? :=by
  have h2:(A8 enc l)[i.toNat*sz+k]?=((A8 enc l).drop<|i.toNat*sz)[k]? :=by grind
  grind [JI,AE,T5]
 grind [Hv]
theorem AAu (d:Nat) {ad:Addr} {x:Nat} (hk:EY P N ops rest (E.put (some d) (.one (.adr ad))) K) (hs:E.slots x= .one (.adr ad)) (ho:o.op= .nilCheck (.tmp x):=by rfl) (hd:o.dst=some d:=by rfl) (hN:Nat.blt d N=true:=by rfl) (hg:Be P ops E o=some true:=by rfl):EY P N ops (o::rest) E K:=
 EY.any d (.adr ad) hk (λw0 FA UA w a blk FS US h=>by
  have h1:=iO h hs;refine⟨.pointer<|some ad,?_,by simp[Dl],rfl⟩
  simp_all [execOp]) hd hN hg
def T6 (o:Oper):Nat:=o.dst.getD 0
def AEb (E:St) (ops:Array Oper) (i:Nat) (r:Root) (t:TV):St:=(((((E.put (some<|T6<|oA ops i)<|.one .junk).put (some<|T6<|oA ops<|i+1)<|.one .junk).setRoot r [t]).bump r).put (some<|T6<|oA ops<|i+2)<|.tup [])
def ACq:Operand->Nat
 | .tmp n=>n
 |_=>0
def jL (o:Oper):Nat:=match o.op with
 | .makeInterface _ x=>ACq x
 |_=>0
def eY (o:Oper):Nat:=match o.op with
 | .makeFunc _ _ c=>ACq<|c[0]?.getD<|.tmp 0
 |_=>0
def ACs (o:Oper):Array TypeId:=match o.op with
 | .call c=>c.argTypes
 |_=> #[]
def bX (s:SV):Nat:=match s with
 | .one (.view _ v _ _)=>v
 |_=>0
theorem RW.srt {rr:β} {l:List γ} {kk:List γ->Option β} {x:Option (List γ)} (h:x.bind kk=some rr) {enc:γ->List TV} {a:FuncId} (r:Root) (hs:∀l',x=some l'->S2 P (OT (oA ops (i+2))) t e sz enc a l l') (hk:∀l',x=some l'->kk l'=some rr->RW P N ops (i+3) (AEb E ops i r (.sl true e sz (A8 enc l'))) Q) (b:∀x,(enc x).length=sz) (d:∀x,(enc x).all TV.flat=true) (hx:E.slots (jL (oA ops i))= .one (.view r (bX (E.slots (jL (oA ops i)))) [] 0):=by kernel_rfl) (c:E.ver r=bX (E.slots<|jL<|oA ops i):=by kernel_rfl) (hp:E.ptr? (.tmp<|eY<|oA ops<|i+1)=some (r,[],0):=by kernel_rfl) (hc:E.boxes r=some [.sl true e sz<|A8 enc l]:=by kernel_rfl) (hm:r.mem=true:=by kernel_rfl) (h1:(oA ops i).op= .makeInterface t (.tmp<|jL<|oA ops i):=by kernel_rfl) (h2:(oA ops<|i+1).op= .makeFunc (.func a) #[] #[.tmp<|eY<|oA ops<|i+1]:=by kernel_rfl) (h3:(oA ops<|i+2).op= .call {callee:= .value (.func<|OT<|oA ops<|i+2),args:= #[.tmp<|T6<|oA ops i,.tmp<|T6<|oA ops<|i+1],argTypes:=ACs (oA ops<|i+2)}:=by kernel_rfl) (k1:(oA ops i).dst=some (T6<|oA ops i):=by kernel_rfl) (k2:(oA ops<|i+1).dst=some (T6<|oA ops<|i+1):=by kernel_rfl) (k3:(oA ops<|i+2).dst=some (T6<|oA ops<|i+2):=by kernel_rfl) (g1:(oA ops i).guard=none:=by kernel_rfl) (g2:(oA ops<|i+1).guard=none:=by kernel_rfl) (g3:(oA ops<|i+2).guard=none:=by kernel_rfl) (hN:(Nat.blt (T6<|oA ops i) N&&Nat.blt (T6<|oA ops<|i+1) N&&Nat.blt (T6<|oA ops<|i+2) N&&!Nat.beq (T6<|oA ops i) (T6<|oA ops<|i+1)&&!Nat.beq (eY<|oA ops<|i+1) (T6<|oA ops i)&&Nat.blt 0 sz&&Nat.blt (i+2) ops.size)=true:=by kernel_rfl) (ht:P.underlying t=some (.slice e):=by kernel_rfl) (hf:S9 P N (oA ops<|i+2)=true:=by kernel_rfl):RW P N ops i E Q:=by
 obtain⟨l',hl',h⟩:=Ag.1 h;simp only[Aj,D6]at hN;obtain⟨⟨⟨⟨⟨⟨q1,q2⟩,q3⟩,q4⟩,q5⟩,q6⟩,q7⟩:=hN;have b2:Nat.blt (i+1) ops.size=true:=by grind [FT]
 have b1:Nat.blt i ops.size=true:=by grind [FT]
 have hk':=hk l' hl' h;unfold RW at hk'⊢;rw[Gh b1,Gh b2,Gh q7];exact G4.srt (hs l' hl') hk' b d hx c hp hc hm h1 h2 h3 k1 k2 k3 g1 g2 g3 q1 q2 q3 q4 q5 q6 ht (Oe hf).choose_spec.choose_spec.2.1
def iN (o:Oper):Nat:=match o.op with
 | .call c=>match c.args.toList with
  |[x]=>ACq x
  |_=>0
 |_=>0
def jD (s:SV):Nat:=match s with
 | .one (.view (.slot n) _ _ _)=>n
 |_=>0
def Vh (P:Program) (f:FuncId) (t e sz:Nat) (enc:γ->List TV) (g:FuncId) (l l':List γ):Prop:=∀(w:World) (c b:Nat) (v:Value) (rest:List Value) (T T':TypeId),w.heap[c]?=some (.cells #[.pointer<|some ⟨b,0,none⟩] T' (0,0))->w.heap[b]?=some (.cells (v::rest).toArray T (0,0))->w.ownsRow 0 e sz v l.length ((A8 enc l).map TV.val)->b∉B5 v->c∉B5 v->c≠b->
  Calls P f #[.iface t v,.func (.func g) #[] #[.pointer<|some ⟨c,0,none⟩]] w λr w'=>r= .returned (.tuple #[])/\Gb w w' (c::b::B5 v)/\w'.heap[c]?=w.heap[c]? /\w'.heap[b]?=w.heap[b]? /\w'.ownsRow 0 e sz v l'.length ((A8 enc l').map TV.val)
def zJ (c b:Nat) (v:Value) (rest:List Value) (T T':TypeId) (e sz n:Nat) (xs:List Value):QD where
 B:=c::b::B5 v
 I:=λw=>w.heap[c]?=some (.cells #[.pointer<|some ⟨b,0,none⟩] T' (0,0))/\w.heap[b]?=some (.cells (v::rest).toArray T (0,0))/\w.ownsRow 0 e sz v n xs
 st:=λw w' h hk=>⟨by grind,by grind,h.2.2.1,by
  rcases h.2.2.2 with q|⟨g,cap,a,rfl,q1,q2,q3⟩
  ·exact .inl q
  grind [B5,Value.ownBlock]⟩
theorem ABP {l l':List γ} {rc:Root} {o1 o2 o3:Oper} {ver:Nat} {enc:γ->List TV} {f c:FuncId} {rs:List TV} {d1 d2 d3 x p b0:Nat} {tys:Array TypeId} (hs:Vh P f t e sz enc c l l') (hk:G4 P N ops rest (((((E.put (some d1) (.one .junk)).put (some d2) (.one .junk)).setRoot (.ext 0) (.sl true e sz (A8 enc l')::rs)).bump (.ext 0)).put (some d3) (.tup [])) Q) (k:∀x,(enc x).length=sz) (j:∀x,(enc x).all TV.flat=true) (hpin:E.amb.pin=some b0) (hx:E.slots x= .one (.view (.ext 0) ver [] 0)) (a2:E.ver (.ext 0)=ver) (hp:E.ptr? (.tmp p)=some (rc,[],0)) (hc:E.boxes (.ext 0)=some (.sl true e sz (A8 enc l)::rs)) (m:E.boxes rc=some [.adr ⟨b0,0,none⟩]) (hm:rc.mem=true) (h1:o1.op= .makeInterface t (.tmp x)) (h2:o2.op= .makeFunc (.func c) #[] #[.tmp p]) (h3:o3.op= .call {callee:= .value (.func f),args:= #[.tmp d1,.tmp d2],argTypes:=tys}) (k1:o1.dst=some d1) (k2:o2.dst=some d2) (k3:o3.dst=some d3) (g1:o1.guard=none) (g2:o2.guard=none) (g3:o3.guard=none) (a7:Nat.blt d1 N=true) (a8:Nat.blt d2 N=true) (a9:Nat.blt d3 N=true) (c0:Nat.beq d1 d2=false) (a3:Nat.beq p d1=false) (c2:Nat.blt 0 sz=true) (ht:P.underlying t=some (.slice e)) (hf:bG P f):G4 P N ops (o1::o2::o3::rest) E Q:=by
 have hN1':d1<N:=by simp_all
 have hN2':d2<N:=by simp_all
 have hN3':d3<N:=by simp_all
 have hne':d1≠d2:=by intro e;simp_all
 have hne2':p≠d1:=by intro e;simp_all
 have hsz':0<sz:=by simp_all
 have h0:rc≠ .ext 0:=by grind
 intro w0 FA UA w a blk FS US hr hF hU;have a4:blk (.ext 0)=b0:=by rw[hr.xblk,hr.pin b0 hpin]
 obtain⟨v,vs,T,F2,U1,U2,b1,b2,b3,b4,b5⟩:∃v vs T F2 U1 U2,w.heap[blk<|.ext 0]?=some (.cells (v::vs).toArray T (0,0))/\(∃F1,Dl w (.sl true e sz<|A8 enc l) v F1 U1/\FS (.ext 0)=blk (.ext 0)::(F1++F2))/\Bv w rs vs F2 U2/\US (.ext 0)=U1++U2/\True:=by
  rcases hr.box (.ext 0) rfl with⟨q1,_⟩|⟨cs,g,T,F,q1,q2,q3,q4⟩
  ·grind
  rw[hc]at q1
  injection q1 with q1
  subst q1;simp only[Bv]at q3;obtain⟨v,o,F1,F2,U1,U2,e1,rfl,e3,q5,q6⟩:=q3;have:g=(v::o).toArray:=by grind
  grind
 obtain⟨F1,b2,b6⟩:=b2;obtain⟨T',c1⟩:∃T',w.heap[blk rc]?=some (.cells #[.pointer<|some ⟨b0,0,none⟩] T' (0,0)):=by
  rcases hr.box rc hm with⟨q1,_⟩|⟨cs,g,T,F,q1,q2,q3,q4⟩
  ·grind
  rw[m]at q1
  injection q1 with q1
  subst q1;simp only[Bv,Dl]at q3;obtain⟨v,o,F1,F2,U1,U2,e1,rfl,e3,⟨rfl,_⟩,rfl,_⟩:=q3;have:g= #[.pointer<|some ⟨b0,0,none⟩]:=by grind
  grind
 have h4:blk rc∈FS rc:=by
  rcases hr.box rc hm with⟨q1,_⟩|⟨cs,g,T,F,q1,q2,q3,q4⟩
  ·grind
  rw[q4];simp
 simp only[Dl]at b2;obtain⟨n,xs,F',b7,b8,rfl⟩:=b2;have h5:=U6 b8<|Gz j l;obtain⟨rfl,rfl⟩:=KY b8<|Gz j l;subst h5;have h6:n=l.length:=by
  have q:=b7.1;rw[By,Ep k l]at q
  grind [Nat.eq_of_mul_eq_mul_right]
 subst h6;rw[AO]at b6;rw[A5]at b4;have u:=hr.nodup<|.ext 0;rw[b6]at u
 have h7:blk (.ext 0)∉B5 v:=λhx=>(Du.1 u).1<|BT _ hx
 have y:∀x∈FS (.ext 0),x≠blk rc:=λx hx e=>hr.dis _ _ h0 _ h4<|e▸hx
 have h8:blk rc∉B5 v:=λhx=>y (blk rc) (by grind) rfl
 have h9:blk rc≠blk (.ext 0):=λe=>y (blk<|.ext 0) (by rw[b6];simp) e.symm
 have evx:a.eval (.tmp x)=v:=by
  have q:=hr.slot x;simp_all [Im,DI,pv,Bu,Addr.add,World.cell?]
 have evp:a.eval (.tmp p)= .pointer (some ⟨blk rc,0,none⟩):=by
  obtain⟨_,ad,q1,q2⟩:=Kd hr hp;rw[q2]
  cases rc with
  |slot n=>cases hm
  |hand=>cases hm
  |box n=>grind [pa,Addr.add]
  |ext n=>grind [pa,Addr.add]
 obtain⟨FS1,US1,r1,r2,r3⟩:=UJ hr hF hU hN1'<|.iface t v;have e1:(execOp a.eval o1).run P w= .ok (.value<|.iface t v) w:=by simp_all [run_underlying,execOp,Instr.makeInterface]
 simp only[wpList,BF hr<|Jm (P:=P) (ops:=ops) g1,CC];refine .inl ?_
 try unfold Oper.wp
 rw[e1,Oper.upon_value,k1];have evp1:(a.put (some d1)<|.iface t v).eval (.tmp p)= .pointer (some ⟨blk rc,0,none⟩):=by grind [CP]
 obtain⟨FS2,US2,s1,s2,s3⟩:=UJ r1 r2 r3 hN2'<|.func (.func c) #[] #[.pointer<|some ⟨blk rc,0,none⟩];have e2:(execOp (a.put (some d1)<|.iface t v).eval o2).run P w= .ok (.value<|.func (.func c) #[] #[.pointer<|some ⟨blk rc,0,none⟩]) w:=by simp_all [execOp,Instr.makeFunc]
 simp only[wpList,BF r1<|Jm (P:=P) (ops:=ops) g2,CC];refine .inl ?_
 try unfold Oper.wp
 rw[e2,Oper.upon_value,k2];simp only[wpList,BF s1<|Jm (P:=P) (ops:=ops) g3,CC];refine .inl ?_;have c6:d1<a.tmps.size:=AM hN1' hr.len;have c7:d2<(a.put (some d1)<|.iface t v).tmps.size:=AM hN2' r1.len
 try unfold Oper.wp
 rw[HM h3 hf];have ea: #[Operand.tmp d1,.tmp d2].map ((a.put (some d1)<|.iface t v).put (some d2)<|.func (.func c) #[] #[.pointer<|some ⟨blk rc,0,none⟩]).eval= #[.iface t v,.func (.func c) #[] #[.pointer<|some ⟨blk rc,0,none⟩]]:=by grind [Ig,CP]
 rw[ea];simp only[Oper.upon];refine Calls.mono (hs w (blk rc) (blk<|.ext 0) v vs T T' (by grind) b1 b7 h7 h8 h9) ?_;rintro ee w' ⟨rfl,h,c8,d0,a0⟩;have a1:((E.put (some d1)<|.one .junk).put (some d2)<|.one .junk).boxes (.ext 0)=some (.sl true e sz (A8 enc l)::rs):=hc;obtain⟨G1,G2,V2,f1,f2,f3,f4⟩:∃G1 G2 V2,FS2 (.ext 0)=blk (.ext 0)::(G1++G2)/\G1=B5 v/\US2 (.ext 0)=V2/\Bv w rs vs G2 V2:=by
  rcases s1.box (.ext 0) rfl with⟨q1,_⟩|⟨cs,g,T2,F2,q1,q2,q3,q4⟩
  ·grind
  grind [KY,Gz,Bv,Dl]
 subst f2;have i:=s1.nodup<|.ext 0;rw[f1]at i;have a5:blk rc∈FS2 rc:=by
  have a6:((E.put (some d1)<|.one .junk).put (some d2)<|.one .junk).boxes rc=some [.adr ⟨b0,0,none⟩]:=m
  rcases s1.box rc hm with⟨q1,_⟩|⟨cs,g,T,F,q1,q2,q3,q4⟩
  ·grind
  rw[q4];simp
 have keepb:∀b,b<w.heap.size->b∉B5 v->w'.heap[b]?=w.heap[b]? :=by
  intro b hb hv;by_cases q1:b=blk rc
  ·grind
  by_cases q2:b=blk (.ext 0)
  ·grind
  exact h.keep b hb<|by grind
 have z:Gb w w' (FS2<|.ext 0):=⟨h.os,h.tape,h.output,h.size,λb hb hn=>keepb b hb λhv=>hn<|by grind⟩
 have hG:∀b∈G2,w'.heap[b]?=w.heap[b]? :=λb hb=>keepb b (s1.inF (.ext 0) b<|by grind).2
  (λhv=>(Dg.1 (Du.1 i).2).2.2 b hv b hb rfl)
 have hV:∀b∈V2,w'.heap[b]?=w.heap[b]? :=λb hb=>keepb b (s1.inU (.ext 0) b (by rw[f3];exact hb)).2
  (λhv=>s1.disU (.ext 0) (.ext 0) b (by grind) (by rw[f3];exact hb))
 obtain⟨FS3,US3,t1,t2,t3⟩:=s1.turn s2 s3 (r:= .ext 0) rfl a1 (cells':= .sl true e sz (A8 enc l')::rs) (by simp) (w':=w') z
  ⟨(
   v::vs).toArray,T,B5 v++G2,by grind,by
   rw[f3];simp only[Bv];refine⟨v,vs,B5 v,G2,[],V2,by simp,rfl,rfl,?_,Fw f4 hG hV⟩;simp only[Dl]
   exact⟨l'.length,_,[],a0,TQ<|Gz j l',by simp⟩,f1⟩
 obtain⟨FS4,US4,u1,u2,u3⟩:=t1.land (w':=w') (d:=d3) (s:= .tup []) (v:= .tuple #[]) (F:=[]) (U:=[]) hN3' (by simp[Im,QH]) Ds (by simp) (by simp) (A3 _) rfl rfl rfl λ_ _ _=>rfl;rw[k3];exact hk _ _ _ _ _ _ _ _ u1 u2 u3
def ABZ:Option (List TV)->List TV
 |some (_::ts)=>ts
 |_=>[]
def rt0:Option (Root×List Nat×Nat)->Root
 |some (r,_,_)=>r
 |none=> .hand
def s2E (E:St) (ops:Array Oper) (i:Nat) (t:TV):St:=(((((E.put (some<|T6<|oA ops i)<|.one .junk).put (some<|T6<|oA ops<|i+1)<|.one .junk).setRoot (.ext 0) (t::ABZ (E.boxes<|.ext 0))).bump<|.ext 0).put (some<|T6<|oA ops<|i+2)<|.tup [])
theorem AC1 {rr:β} {l:List γ} {kk:List γ->Option β} {b0:Nat} {x:Option (List γ)} (h:x.bind kk=some rr) {enc:γ->List TV} {a:FuncId} (hs:∀l',x=some l'->Vh P (OT (oA ops (i+2))) t e sz enc a l l') (hk:∀l',x=some l'->kk l'=some rr->RW P N ops (i+3) (s2E E ops i (.sl true e sz (A8 enc l'))) Q) (b:∀x,(enc x).length=sz) (d:∀x,(enc x).all TV.flat=true) (hpin:E.amb.pin=some b0:=by kernel_rfl) (hx:E.slots (jL<|oA ops i)= .one (.view (.ext 0) (bX<|E.slots<|jL<|oA ops i) [] 0):=by kernel_rfl) (c:E.ver (.ext 0)=bX (E.slots<|jL<|oA ops i):=by kernel_rfl) (hp:E.ptr? (.tmp<|eY<|oA ops<|i+1)=some (rt0<|E.ptr?<|.tmp<|eY<|oA ops<|i+1,[],0):=by kernel_rfl) (hc:E.boxes (.ext 0)=some (.sl true e sz (A8 enc l)::ABZ (E.boxes<|.ext 0)):=by kernel_rfl) (f:E.boxes (rt0<|E.ptr?<|.tmp<|eY<|oA ops<|i+1)=some [.adr ⟨b0,0,none⟩]:=by kernel_rfl) (hm:(rt0<|E.ptr?<|.tmp<|eY<|oA ops<|i+1).mem=true:=by kernel_rfl) (h1:(oA ops i).op= .makeInterface t (.tmp<|jL<|oA ops i):=by kernel_rfl) (h2:(oA ops<|i+1).op= .makeFunc (.func a) #[] #[.tmp<|eY<|oA ops<|i+1]:=by kernel_rfl) (h3:(oA ops<|i+2).op= .call {callee:= .value (.func<|OT<|oA ops<|i+2),args:= #[.tmp<|T6<|oA ops i,.tmp<|T6<|oA ops<|i+1],argTypes:=ACs (oA ops<|i+2)}:=by kernel_rfl) (k1:(oA ops i).dst=some (T6<|oA ops i):=by kernel_rfl) (k2:(oA ops<|i+1).dst=some (T6<|oA ops<|i+1):=by kernel_rfl) (k3:(oA ops<|i+2).dst=some (T6<|oA ops<|i+2):=by kernel_rfl) (g1:(oA ops i).guard=none:=by kernel_rfl) (g2:(oA ops<|i+1).guard=none:=by kernel_rfl) (g3:(oA ops<|i+2).guard=none:=by kernel_rfl) (hN:(Nat.blt (T6<|oA ops i) N&&Nat.blt (T6<|oA ops<|i+1) N&&Nat.blt (T6<|oA ops<|i+2) N&&!Nat.beq (T6<|oA ops i) (T6<|oA ops<|i+1)&&!Nat.beq (eY<|oA ops<|i+1) (T6<|oA ops i)&&Nat.blt 0 sz&&Nat.blt (i+2) ops.size)=true:=by kernel_rfl) (ht:P.underlying t=some (.slice e):=by kernel_rfl) (hf:S9 P N (oA ops<|i+2)=true:=by kernel_rfl):RW P N ops i E Q:=by
 obtain⟨l',hl',h⟩:=Ag.1 h;simp only[Aj,D6]at hN;obtain⟨⟨⟨⟨⟨⟨q1,q2⟩,q3⟩,q4⟩,q5⟩,q6⟩,q7⟩:=hN;have b2:Nat.blt (i+1) ops.size=true:=by grind [FT]
 have b1:Nat.blt i ops.size=true:=by grind [FT]
 have hk':=hk l' hl' h;unfold RW at hk'⊢;rw[Gh b1,Gh b2,Gh q7];exact ABP (hs l' hl') hk' b d hpin hx c hp hc f hm h1 h2 h3 k1 k2 k3 g1 g2 g3 q1 q2 q3 q4 q5 q6 ht (Oe hf).choose_spec.choose_spec.2.1
theorem AEq {a cells':List TV} {b:SV} (hf:P.funcs[f]?=some fn) (hb:fn.body=some c) (hN:fn.ntmps=N) (h:∀b0,Wp P N c (Dr (.ext a::as) (kR b0)) λe E=>(e= .normal\/e= .ret)/\∃ss E',DC P E fn.results.toList=some (ss,E')/\Eh ss=b/\E'.boxes (.ext 0)=some cells') (d:cells'.isEmpty=false:=by rfl):Aw P f (.ext a::as) b (.ext cells'::List.replicate as.length .gone):=Zf kR AA2 hf hb (by rw[hN];exact h) d
def iD (P:Program) (N:Nat) (ops:Array Oper) (E:St) (i:Nat):Option (FuncId×Array Value×Int×Int):=bif QF P ops E i&&Hg N (oA ops i)then
 (match(oA ops i).op with
 | .call c=>match c.callee,c.args.toList with
  | .value (.tmp t),[o1,o2]=>match E.slots t,E.cell1 P 0 o1,E.cell1 P 0 o2 with
   | .one (.fn (.func g) fr cap),some<|.int .i64 x,some (.int .i64 y)=>bif fr.isEmpty then some (g,cap,x,y)else none
   |_,_,_=>none
  |_,_=>none
 |_=>none)else none
theorem d9 {cap:Array Value} {x y:Int} (h:iD P N ops E i=some (g,cap,x,y)):QF P ops E i=true/\(∃d,(oA ops i).dst=some d/\Nat.blt d N=true)/\∃t o1 o2 tys,(oA ops i).op= .call {callee:= .value (.tmp t),args:= #[o1,o2],argTypes:=tys}/\E.slots t= .one (.fn (.func g) #[] cap)/\E.cell1 P 0 o1=some (.int .i64 x)/\E.cell1 P 0 o2=some (.int .i64 y):=by
 unfold iD at h
 cases hb:(QF P ops E i&&Hg N (oA ops i))with
 |false=>grind
 |true=>
  rw[hb]at h;simp only[Aj]at hb;obtain⟨d,h1,h2,_⟩:=DR hb.2;refine⟨hb.1,⟨d,h1,h2⟩,?_⟩;split at h
  ·rename_i c hc;split at h
   ·rename_i t o1 o2 k1 k2;split at h
    ·rename_i g' fr cap' x' y' m1 m2 m3
     cases he:fr.isEmpty with
     |false=>grind
     |true=>
      rw[he]at h;obtain⟨rfl,rfl,rfl,rfl⟩:=h;have a:fr= #[]:=by simpa using he
      subst a;have ha:c.args= #[o1,o2]:=Array.toList_inj.1 k2;rw[hc];cases c
      grind
    cases h
   cases h
  cases h
theorem tL {rr:β} {l:List γ} {k:γ×γ->Option β} {cap:Array Value} (a:Ik P Am lt g cap) {x y:Int} (h:(vR l x y).bind k=some rr) (hk:∀v,k v=some rr->RW P N ops (i+1) (E.put (oA ops i).dst (.one (.bool (lt v.1 v.2)))) Q) (hc:iD P N ops E i=some (g,cap,x,y):=by kernel_rfl) (hA:E.amb=Am l:=by kernel_rfl):RW P N ops i E Q:=by
 obtain⟨h1,⟨d,h2,h3⟩,t,o1,o2,tys,h4,h5,h6,h7⟩:=d9 hc;obtain⟨h8,h9⟩:=GU h1
 grind [Gh,ABQ,RW]
theorem tK {rr:β} {l:List γ} {k:List γ->Option β} {cap:Array Value} (a:Mn P Am sf cap) (hB:∀l l',(Am l).B=(Am l').B/\(Am l).pin=none) {x y:Int} (h:(nY l x y).bind k=some rr) (hk:∀v,k v=some rr->RW P N ops (i+1) (({E with amb:=Am v}:St).put (oA ops i).dst<|.tup []) Q) (hc:iD P N ops E i=some (sf,cap,x,y):=by kernel_rfl) (hA:E.amb=Am l:=by kernel_rfl):RW P N ops i E Q:=by
 obtain⟨h1,⟨d,h2,h3⟩,t,o1,o2,tys,h4,h5,h6,h7⟩:=d9 hc;obtain⟨h8,h9⟩:=GU h1
 grind [Gh,ABO,RW]
def ACh (P:Program) (N:Nat) (ops:Array Oper) (E:St) (i:Nat):Option (FuncId×List AV):=bif QF P ops E i&&Hg N (oA ops i)then
 (match(oA ops i).op with
 | .call c=>match c.callee with
  | .value (.func f)=>match P.funcs[f]? with
   |some fn=>match Jf P E ((c.argTypes.toList.zip c.args.toList).map λ(t,x)=>(false,t,x)) (List.replicate c.args.size none)with
    | some (l, b) => bif b && (l.all qB && (!(fn.name == "runtime.NumGoroutine") && (!fn.body.isNone && Nat.beq c.argTypes.size c.args.size))) then some (f, l) else none
    |none=>none
   |none=>none
  |_=>none
 |_=>none)else none
theorem RI {rr:β} {l:List AV} {k:List γ->Option β} {x:Option (List γ)} (h:x.bind k=some rr) (hB:∀l l',(Am l).B=(Am l').B/\(Am l).pin=none) (a:∀v,x=some v->Mq P f (Am xl) l (Am v)) (hk:∀v,k v=some rr->RW P N ops (i+1) (({E with amb:=Am v}:St).put (oA ops i).dst<|.tup []) Q) (hc:ACh P N ops E i=some (f,l):=by kernel_rfl) (hA:E.amb=Am xl:=by kernel_rfl):RW P N ops i E Q:=by
 unfold ACh at hc
 cases hb:(QF P ops E i&&Hg N (oA ops i))with
 |false=>grind
 |true=>
  rw[hb]at hc;simp only[Aj]at hb;obtain⟨d,h1,h2,_⟩:=DR hb.2;obtain⟨h8,h9⟩:=GU hb.1;split at hc
  ·rename_i c j;split at hc
   ·split at hc
    ·rename_i fn e;split at hc
     ·rename_i l' b g
      cases hq : (b && (l'.all qB && (!(fn.name == "runtime.NumGoroutine") && (!fn.body.isNone && Nat.beq c.argTypes.size c.args.size)))) with
      |false=>grind
      |true=>
       rw[hq]at hc;obtain⟨rfl,rfl⟩:=hc;simp only[Aj,D6]at hq;obtain⟨rfl,q1,q2,q3,q4⟩:=hq;unfold RW;rw[Gh h8];refine AC9 (fn:=fn) h d Am (A:=Am xl) (args:=c.args) (tys:=c.argTypes) ?_ hA (λv=>⟨(hB _ _).1,(hB _ v).2⟩) g (ZD q1) a (λv _ hv=>by have:=hk v hv;rw[h1]at this;exact this) e q2 q3 h1 h2 (AP q4) h9;cases c
       grind
     cases hc
    cases hc
   cases hc
  cases hc
theorem ra {Am:α->QD} {e:Exit} {v r:α} (h:some v=some r) (he:e= .normal\/e= .ret:=by first|exact .inr rfl|exact .inl rfl) (hA:E.amb=Am v:=by kernel_rfl):(e= .normal\/e= .ret)/\E.amb=Am r:=by grind
structure RS where
 s:List (Nat×SV)
 b:List (Root×List TV)
 a:QD
def RS.st (x:RS):St:=ADD x.s x.b x.a
abbrev rs (s:List (Nat×SV)) (b:List (Root×List TV)):RS:=⟨s,b,QD.none⟩
abbrev QX (s:List (Nat×SV)) (b:List (Root×List TV)) (a:QD):RS:=⟨s,b,a⟩
def RS.in (X:RS) (E:St):Bool:=X.b.all λr=>r.1.mem&&(E.boxes r.1).isSome
def RS.nf (X:RS) (E:St):St:=Ml E (X.s.map Prod.fst)<|X.b.map Prod.fst
def Xy (X:RS) (E:St):Prop:=X.in E=true/\X.nf E=X.st
def jR (H:V->RS) (v:Option V) (Q:Exit->St->Prop):Exit->St->Prop
 | .normal,E=>∃a,v=some a/\Xy (H a) E
 |e,E=>Q e E
def lR (id:Nat) (H:S->RS) (H2:V->RS) (o:S⊕V⊕W) (Q:Exit->St->Prop):Exit->St->Prop
 | .normal,E=>∃s,o= .inl s/\Xy (H s) E
 | .exit i,E=>if i=id then∃v,o= .inr (.inl v)/\Xy (H2 v) E else Q (.exit i) E
 |e,E=>Q e E
def lR1 (id:Nat) (H:S->RS) (H2:V->RS) (o:S⊕V) (Q:Exit->St->Prop):Exit->St->Prop
 | .normal,E=>∃s,o= .inl s/\Xy (H s) E
 | .exit i,E=>if i=id then∃v,o= .inr v/\Xy (H2 v) E else Q (.exit i) E
 |e,E=>Q e E
variable {X:RS} {H:V->RS} {H2:V->RS}
theorem Aq (h:Xy X E) (hw:Wp P N c X.st Q):Wp P N c E Q:=Wp.norm _ _ _ (by rw[List.all_map];exact h.1) h.2 hw
theorem TK {x:Option V} (h:x.bind k=some r) (H:V->RS) (h1:∀a,x=some a->Wp P N c E (jR H (some a) Q)) (h2:∀a,k a=some r->∀E',Xy (H a) E'->Q .normal E'):Wp P N c E Q:=by
 obtain⟨a,ha,h⟩:=Ag.1 h
 refine Wp.mono (h1 a ha) λe E' hq=>?_
 cases e<;>try exact hq
 obtain⟨a',h3,h4⟩:=hq
 grind
theorem fj2 {k:V⊕W->Option β} {x:Option (V⊕W)} (h:x.bind k=some r) (H:V->RS) (h1:∀a,x=some a->k a=some r->Wp P N c E (jR H a.getLeft? Q)) (h2:∀a,k (.inl a)=some r->∀E',Xy (H a) E'->Q .normal E'):Wp P N c E Q:=by
 obtain⟨a,ha,h⟩:=Ag.1 h
 refine Wp.mono (h1 a ha h) λe E' hq=>?_
 cases e<;>try exact hq
 obtain⟨a',h3,h4⟩:=hq
 grind
theorem QY {H:S->RS} {Q':Exit->St->Prop} {body:S->Option (S⊕A)} {a:A} (hb:∀s o,body s=some o->(∀a',o= .inr a'->a'=a)->Wp P N c (H s).st (λe E=>match e with| .normal=>∃s,o= .inl s/\Xy (H s) E|e=>Q' e E)):
  ∀{n:Nat} {s:S} {E:St},Xy (H s) E->Ps body n s=some a->iS P N c Q' n E
 |0,s,E,_,h=>by cases h
 |n+1,s,E,hn,h=>by
  simp only[Ps]at h;refine Aq hn ?_;split at h
  ·cases h
  ·rename_i s' hs
   refine Wp.mono (hb s _ hs (λa' h=>by cases h)) λe E' hq=>?_
   cases e<;>try exact hq
   obtain⟨s2,h2,h3⟩:=hq
   injection h2 with h2
   subst h2;exact QY hb h3 h
  rename_i a' hs
  refine Wp.mono (hb s _ hs λa2 h2=>by grind) λe E' hq=>?_
  cases e<;>try exact hq
  grind
theorem ADK {id:Nat} {k:V⊕W->Option β} {H:S->RS} {body:S->Option (S⊕V⊕W)} (h:(Ai body s0).bind k=some r) (h0:Xy (H s0) E) (hb:∀s o,body s=some o->(∀w,o= .inr (.inr w)->k (.inr w)=some r)->Wp P N c (H s).st (lR id H H2 o Q)) (h2:∀v,k (.inl v)=some r->∀E',Xy (H2 v) E'->Q .normal E'):Wp P N (.block id (.loop c)) E Q:=by
 obtain⟨a,ha,h⟩:=Ag.1 h;obtain⟨n,hn⟩:=Hk.1 ha;refine Wp.block<|Wp.loop n<|QY (H:=H) (a:=a) (λs o hs ho=>?_) h0 hn
 refine Wp.mono (hb s o hs λw hw=>by grind) λe E' hq=>?_
 simp_all [lR,Wc];grind
theorem ADL {id:Nat} {H:S->RS} {body:S->Option (S⊕V)} (h:(Ai body s0).bind k=some r) (h0:Xy (H s0) E) (hb:∀s o,body s=some o->Wp P N c (H s).st (lR1 id H H2 o Q)) (h2:∀v,k v=some r->∀E',Xy (H2 v) E'->Q .normal E'):Wp P N (.block id (.loop c)) E Q:=by
 obtain⟨a,ha,h⟩:=Ag.1 h;obtain⟨n,hn⟩:=Hk.1 ha;refine Wp.block<|Wp.loop n<|QY (H:=H) (a:=a) (λs o hs ho=>?_) h0 hn
 refine Wp.mono (hb s o hs) λe E' hq=>?_
 simp_all [lR1,Wc];grind
theorem Mc {id:Nat} {k:V⊕W->Option β} {body:S->Option (S⊕V⊕W)} (h:(Ai body s0).bind k=some r) (H:S->RS) (H2:V->RS) (hb:∀s o,body s=some o->(∀w,o= .inr (.inr w)->k (.inr w)=some r)->Wp P N c (H s).st (lR id H H2 o Q)) (h2:∀v,k (.inl v)=some r->∀E',Xy (H2 v) E'->Q .normal E') (h0:(H s0).in E=true:=by kernel_rfl) (hn:(H s0).nf E=(H s0).st:=by kernel_rfl):Wp P N (.block id<|.loop c) E Q:=ADK h ⟨h0,hn⟩ hb h2
theorem E5 {id:Nat} {body:S->Option (S⊕V)} (h:(Ai body s0).bind k=some r) (H:S->RS) (H2:V->RS) (hb:∀s o,body s=some o->Wp P N c (H s).st (lR1 id H H2 o Q)) (h2:∀v,k v=some r->∀E',Xy (H2 v) E'->Q .normal E') (h0:(H s0).in E=true:=by kernel_rfl) (hn:(H s0).nf E=(H s0).st:=by kernel_rfl):Wp P N (.block id<|.loop c) E Q:=ADL h ⟨h0,hn⟩ hb h2
theorem Di {x:Option V} (h:x.bind k=some r) (H:V->RS) (h1:∀a,x=some a->Wp P N c E (jR H (some a) (Jt (λE'=>Wp P N y E' Q) Q))) (h2:∀a,k a=some r->Wp P N y (H a).st Q):Wp P N (.seq c y) E Q:=Wp.seq<|TK h H h1 λa ha E' hE=>Aq hE<|h2 a ha
theorem vV {id:Nat} {body:S->Option (S⊕V)} (h:(Ai body s0).bind k=some r) (H:S->RS) (H2:V->RS) (hb:∀s o,body s=some o->Wp P N c (H s).st (lR1 id H H2 o (Jt (λE'=>Wp P N y E' Q) Q))) (h2:∀v,k v=some r->Wp P N y (H2 v).st Q) (h0:(H s0).in E=true:=by kernel_rfl) (hn:(H s0).nf E=(H s0).st:=by kernel_rfl):Wp P N (.seq (.block id<|.loop c) y) E Q:=Wp.seq<|ADL h ⟨h0,hn⟩ hb λv hv E' hE=>Aq hE<|h2 v hv
theorem yl2 {id:Nat} {k:V⊕W->Option β} {body:S->Option (S⊕V⊕W)} (h:(Ai body s0).bind k=some r) (H:S->RS) (H2:V->RS) (hb:∀s o,body s=some o->(∀w,o= .inr (.inr w)->k (.inr w)=some r)->Wp P N c (H s).st (lR id H H2 o (Jt (λE'=>Wp P N y E' Q) Q))) (h2:∀v,k (.inl v)=some r->Wp P N y (H2 v).st Q) (h0:(H s0).in E=true:=by kernel_rfl) (hn:(H s0).nf E=(H s0).st:=by kernel_rfl):Wp P N (.seq (.block id<|.loop c) y) E Q:=Wp.seq<|ADK h ⟨h0,hn⟩ hb λv hv E' hE=>Aq hE<|h2 v hv
theorem en {a v:V} (h:some v=some a) (hb:(H v).in E=true:=by kernel_rfl) (hn:(H v).nf E=(H v).st:=by kernel_rfl):∃a',some a=some a'/\Xy (H a') E:=by
 injection h with h
 subst h;exact⟨_,rfl,hb,hn⟩
theorem em {a:V⊕W} {v:V} (h:some (.inl v)=some a) (hb:(H v).in E=true:=by kernel_rfl) (hn:(H v).nf E=(H v).st:=by kernel_rfl):∃a',a.getLeft? =some a'/\Xy (H a') E:=by
 injection h with h
 subst h;exact⟨_,rfl,hb,hn⟩
theorem el {H:S->RS} {o:S⊕W} {s:S} (h:some (.inl s)=some o) (hb:(H s).in E=true:=by kernel_rfl) (hn:(H s).nf E=(H s).st:=by kernel_rfl):∃s,o= .inl s/\Xy (H s) E:=by
 injection h with h
 subst h;exact⟨_,rfl,hb,hn⟩
theorem ex {o:S⊕(V⊕W)} {v:V} (h:some (.inr (.inl v))=some o) (hb:(H v).in E=true:=by kernel_rfl) (hn:(H v).nf E=(H v).st:=by kernel_rfl):∃v,o= .inr (.inl v)/\Xy (H v) E:=by
 injection h with h
 subst h;exact⟨_,rfl,hb,hn⟩
theorem ev {o:S⊕V} {v:V} (h:some (.inr v)=some o) (hb:(H v).in E=true:=by kernel_rfl) (hn:(H v).nf E=(H v).st:=by kernel_rfl):∃v,o= .inr v/\Xy (H v) E:=by
 injection h with h
 subst h;exact⟨_,rfl,hb,hn⟩
def ACG (P:Program) (N:Nat) (ops:Array Oper) (ts mv dn:List Nat) (E:St) (X:RS):Bool:=match uH P N ops ts mv (ops.size+1) dn E with
 |some L=>L.all λE'=>X.in E'
 |none=>false
theorem AA5 {ts:List Nat} {mv:List Nat} (hb:ACG P N ops ts mv dn E X=true) (hn:(yJ P N ops ts mv dn E).map X.nf=(yJ P N ops ts mv dn E).map λ_=>X.st) (hq:∀E',Xy X E'->Q .normal E'):KW P N ops ts dn E Q:=by
 unfold ACG at hb;split at hb
 ·rename_i L hL
  refine qR hL λE' hE=>hq E' ⟨List.all_eq_true.1 hb E' hE,?_⟩
  simp_all [yJ]
 cases hb
section
variable {ts:List Nat}
theorem OR {Q0:Exit->St->Prop} {a v:V} (mv:List Nat) (h:some v=some a) (hb:ACG P N ops ts mv dn E (H v)=true:=by kernel_rfl) (hn:(yJ P N ops ts mv dn E).map (H v).nf=(yJ P N ops ts mv dn E).map (λ_=>(H v).st):=by kernel_rfl):KW P N ops ts dn E (jR H (some a) Q0):=
 AA5 hb hn λE' hE=>by
  injection h with h
  subst h;exact⟨_,rfl,hE⟩
end
theorem rk (k:Nat) (h:RW P N ops (i+k) (OA P N ops k 0 i E) Q) (hk:(Q6 P N ops k 0 i E).isSome=true:=by kernel_rfl):RW P N ops i E Q:=vL k 0 h hk
theorem rkm (k m:Nat) (h:RW P N ops (i+k) (OA P N ops k m i E) Q) (hk:(Q6 P N ops k m i E).isSome=true:=by kernel_rfl):RW P N ops i E Q:=vL k m h hk
theorem AAX (a b:Nat):Nat.ble a (b+(a-b))=true:=by rw[ABM];omega
theorem gm (m:Nat) (h:Q .normal (OA P N ops (ops.size-i) m i E)) (hk:(Q6 P N ops (ops.size-i) m i E).isSome=true:=by kernel_rfl):RW P N ops i E Q:=vL (ops.size-i) m (RW.nil h<|AAX _ _) hk
theorem g0 (h:Q .normal (OA P N ops (ops.size-i) 0 i E)) (hk:(Q6 P N ops (ops.size-i) 0 i E).isSome=true:=by kernel_rfl):RW P N ops i E Q:=gm 0 h hk
section
variable {id:Nat}
theorem wm (m:Nat) (h:RW P N ops2 0 (OA P N ops (ops.size-i) m i E) (Jt (λE'=>Wp P N y E' Q) Q)) (hk:(Q6 P N ops (ops.size-i) m i E).isSome=true:=by kernel_rfl):RW P N ops i E (Jt (λE'=>Wp P N (.seq (.region id ops2 false) y) E' Q) Q):=gm m (ws h) hk
end
section
variable {id:Nat}
theorem w0 (h:RW P N ops2 0 (OA P N ops (ops.size-i) 0 i E) (Jt (λE'=>Wp P N y E' Q) Q)) (hk:(Q6 P N ops (ops.size-i) 0 i E).isSome=true:=by kernel_rfl):RW P N ops i E (Jt (λE'=>Wp P N (.seq (.region id ops2 false) y) E' Q) Q):=wm 0 h hk
end
section
variable {id:Nat}
theorem wg (h:Jt (λE'=>Wp P N y E' Q) Q .normal (OA P N ops (ops.size-0) 0 0 E)) (hk:(Q6 P N ops (ops.size-0) 0 0 E).isSome=true:=by kernel_rfl):Wp P N (.seq (.region id ops false) y) E Q:=ws<|g0 h hk
end
section
variable {x:Code}
theorem qs (h:Wp P N x E (Jt (λE'=>Wp P N y E' Q) Q)):Wp P N (.seq x y) E Q:=Wp.seq h
end
theorem qk (h:Q .normal E):Wp P N .skip E Q:=Wp.skip h
theorem qt (h:Q .ret E):Wp P N .ret E Q:=Wp.ret h
theorem qx {id:Nat} (h:Q (.exit id) E):Wp P N (.exit id) E Q:=Wp.exit h
theorem qb {id:Nat} (h:Wp P N c E (Wc id Q)):Wp P N (.block id c) E Q:=Wp.block h
theorem qr {id:Nat} (h:RW P N ops 0 E Q):Wp P N (.region id ops false) E Q:=ACl h
section
variable {id:Nat}
theorem qd {Q1:Exit->St->Prop} (h:Wp P N c E (Wc id (Jt (λE'=>Wp P N y E' Q1) Q1))):Wp P N .skip E (Jt (λE'=>Wp P N (.seq (.block id c) y) E' Q1) Q1):=qk<|qs<|qb h
end
section
variable {id:Nat}
theorem qw {z:Code} (h:Jt (λE'=>Wp P N y E' (Jt (λE'=>Wp P N z E' Q) Q)) (Jt (λE'=>Wp P N z E' Q) Q) .normal (OA P N ops (ops.size-0) 0 0 E)) (hk:(Q6 P N ops (ops.size-0) 0 0 E).isSome=true:=by kernel_rfl):Wp P N (.seq (.seq (.region id ops false) y) z) E Q:=qs<|wg h hk
end
section
variable {id:Nat}
theorem qv {z:Code} (h:RW P N ops 0 E (Jt (λE'=>Wp P N y E' (Jt (λE'=>Wp P N z E' Q) Q)) (Jt (λE'=>Wp P N z E' Q) Q))):Wp P N (.seq (.seq (.region id ops false) y) z) E Q:=qs<|ws h
end
theorem wq {id:Nat} (h:Q .ret (OA P N ops (ops.size-0) 0 0 E)) (hk:(Q6 P N ops (ops.size-0) 0 0 E).isSome=true:=by kernel_rfl):Wp P N (.seq (.region id ops false) .ret) E Q:=wg (qt h) hk
theorem aq (hp:AK P E (oA ops i)=some s) (h:RW P N ops (i+1) (E.put (oA ops i).dst s) Q) (hk:xZ P N ops i E=true:=by kernel_rfl):RW P N ops i E Q:=RW.q hp h hk
theorem Ck (k:Nat) (hp:AK P (OA P N ops k 0 i E) (oA ops (i+k))=some s) (h:RW P N ops (i+k+1) ((OA P N ops k 0 i E).put (oA ops (i+k)).dst s) Q) (hk:(Q6 P N ops k 0 i E).isSome=true:=by kernel_rfl) (hq:xZ P N ops (i+k) (OA P N ops k 0 i E)=true:=by kernel_rfl):RW P N ops i E Q:=vL k 0 (RW.q hp h hq) hk
theorem kq {ts:List Nat} (i:Nat) (hp:AK P E (oA ops i)=some s) (h:KW P N ops ts (i::dn) (E.put (oA ops i).dst s) Q) (hk:(xZ P N ops i E&&tQ ops ts dn i)=true:=by kernel_rfl):KW P N ops ts dn E Q:=KW.q i hp h hk
theorem ac {l:List AV} {x:Option α} (h:x.bind kk=some r) {enc:α->SV} (a:∀v,x=some v->Aw P (OT (oA ops i)) l (enc v) (List.replicate n .gone)) (hk:∀v,kk v=some r->RW P N ops (i+1) ((clE P E (oA ops i) 0).put (oA ops i).dst (enc v)) Q) (b:ZV P E (oA ops i) 0=some l:=by kernel_rfl) (hc:shB P E (oA ops i) 0=true\/∀v,AI (enc v)=false:=by exact .inl<|by kernel_rfl) (ho:(QF P ops E i&&S9 P N (oA ops i))=true:=by kernel_rfl):RW P N ops i E Q:=RW.c 0 h a (λv _=>hk v) b hc ho
theorem AU {l:List AV} {x:Option α} (k:Nat) (h:x.bind kk=some r) {enc:α->SV} (a:∀v,x=some v->Aw P (OT (oA ops (i+k))) l (enc v) (List.replicate n .gone)) (hk:∀v,kk v=some r->RW P N ops (i+k+1) ((clE P (OA P N ops k 0 i E) (oA ops (i+k)) 0).put (oA ops (i+k)).dst (enc v)) Q) (hr:(Q6 P N ops k 0 i E).isSome=true:=by kernel_rfl) (b:ZV P (OA P N ops k 0 i E) (oA ops<|i+k) 0=some l:=by kernel_rfl) (hc:shB P (OA P N ops k 0 i E) (oA ops<|i+k) 0=true\/∀v,AI (enc v)=false:=by exact .inl<|by kernel_rfl) (ho:(QF P ops (OA P N ops k 0 i E) (i+k)&&S9 P N (oA ops<|i+k))=true:=by kernel_rfl):RW P N ops i E Q:=vL k 0 (RW.c 0 h a (λv _=>hk v) b hc ho) hr
theorem acm {l:List AV} {x:Option α} (m:Nat) (h:x.bind kk=some r) {enc:α->SV} (a:∀v,x=some v->Aw P (OT (oA ops i)) l (enc v) (List.replicate n .gone)) (hk:∀v,kk v=some r->RW P N ops (i+1) ((clE P E (oA ops i) m).put (oA ops i).dst (enc v)) Q) (b:ZV P E (oA ops i) m=some l:=by kernel_rfl) (hc:shB P E (oA ops i) m=true\/∀v,AI (enc v)=false:=by exact .inl<|by kernel_rfl) (ho:(QF P ops E i&&S9 P N (oA ops i))=true:=by kernel_rfl):RW P N ops i E Q:=RW.c m h a (λv _=>hk v) b hc ho
section
variable {ts:List Nat}
theorem DT {l:List AV} {x:Option α} (m:Nat) (h:x.bind kk=some r) {enc:α->SV} (a:∀v,x=some v->Aw P (OT (oA ops i)) l (enc v) (List.replicate n .gone)) (hk:∀v,kk v=some r->KW P N ops ts (i::dn) ((clE P E (oA ops i) m).put (oA ops i).dst (enc v)) Q) (b:ZV P E (oA ops i) m=some l:=by kernel_rfl) (hc:shB P E (oA ops i) m=true\/∀v,AI (enc v)=false:=by exact .inl<|by kernel_rfl) (ho:(QF P ops E i&&S9 P N (oA ops i)&&((bits m<|FY<|oA ops i).all (λx=>!x.1)||ts.contains i))=true:=by kernel_rfl):KB P N ops ts dn i E Q:=KB.c m h a (λv _=>hk v) b hc ho
end
theorem SU {l:List AV} {x:Option α} (h:x.bind kk=some r) {enc:α->SV} {a:List TV} (c:∀v,x=some v->Aw P (OT (oA ops i)) (.ext a::l) (enc v) (.ext (fin v)::List.replicate n .gone)) (hk:∀v,kk v=some r->RW P N ops (i+1) (((E.setRoot (mI E (oA ops i)) (fin v)).bump (mI E (oA ops i))).put (oA ops i).dst (enc v)) Q) (b:∀v,(fin v).length=a.length:=by exact λ_=>rfl) (d:vF P E (oA ops i)=some l:=by kernel_rfl) (hb:E.boxes (mI E<|oA ops i)=some a:=by kernel_rfl) (hc:cxB P E (oA ops i)=true\/∀v,AI (enc v)=false/\A0 (fin v)=false:=by exact .inl<|by kernel_rfl) (ho:(QF P ops E i&&S9 P N (oA ops i)&&vE E (oA ops i))=true:=by kernel_rfl):RW P N ops i E Q:=ADV h c b (λv _=>hk v) d hb hc ho
theorem kcx {ts:List Nat} {l:List AV} {x:Option α} (h:x.bind kk=some r) {enc:α->SV} {a:List TV} (c:∀v,x=some v->Aw P (OT (oA ops i)) (.ext a::l) (enc v) (.ext (fin v)::List.replicate n .gone)) (hk:∀v,kk v=some r->KW P N ops ts (i::dn) (((E.setRoot (mI E (oA ops i)) (fin v)).bump (mI E (oA ops i))).put (oA ops i).dst (enc v)) Q) (b:∀v,(fin v).length=a.length:=by exact λ_=>rfl) (d:vF P E (oA ops i)=some l:=by kernel_rfl) (hb:E.boxes (mI E<|oA ops i)=some a:=by kernel_rfl) (hc:cxB P E (oA ops i)=true\/∀v,AI (enc v)=false/\A0 (fin v)=false:=by exact .inl<|by kernel_rfl) (ho:(QF P ops E i&&S9 P N (oA ops i)&&vE E (oA ops i)&&ts.contains i)=true:=by kernel_rfl):KB P N ops ts dn i E Q:=ADZ h c b (λv _=>hk v) d hb hc ho
theorem B6 {tx ty:Option β} {b:Bool} (k t:Nat) (h:(bif b then tx else ty)=some r) (ht:tx=some r->RW P N ops (i+k) ((OA P N ops k 0 i E).rs t true) Q) (hf:ty=some r->RW P N ops (i+k) ((OA P N ops k 0 i E).rs t false) Q) (hr:(Q6 P N ops k 0 i E).isSome=true:=by kernel_rfl) (hc:(OA P N ops k 0 i E).slots t=B b:=by kernel_rfl):RW P N ops i E Q:=vL k 0 (ADT t h ht hf hc) hr
def ZB (fn:Func):Code:=fn.body.getD .skip
theorem Wb (h:fn.body.isSome=true):fn.body=some (ZB fn):=by
 unfold ZB
 cases e:fn.body with
 |none=>grind
 |some c=>rfl
theorem gf {a:SV} (hf:P.funcs[f]?=some fn) (hN:fn.ntmps=N) (h:Wp P N (ZB fn) (Dr as) λe E=>(e= .normal\/e= .ret)/\∃ss E',DC P E fn.results.toList=some (ss,E')/\Eh ss=a) (hb:fn.body.isSome=true:=by kernel_rfl):Aw P f as a (List.replicate as.length .gone):=gk hf (Wb hb) hN h
theorem gfa {A':QD} (hf:P.funcs[f]?=some fn) (hN:fn.ntmps=N) (hB:∀l l',(Am l).B=(Am l').B/\(Am l).pin=none) (h:Wp P N (ZB fn) (Dr as (Am xl)) λe E=>(e= .normal\/e= .ret)/\E.amb=A') (hb:fn.body.isSome=true:=by kernel_rfl) (hr:fn.results= #[]:=by rfl):Mq P f (Am xl) as A':=u7 hf (Wb hb) hr (hB xl xl).2 (by rw[hN];exact h)
theorem vS {a cells':List TV} {b:SV} (hf:P.funcs[f]?=some fn) (hN:fn.ntmps=N) (h:Wp P N (ZB fn) (Dr (.ext a::as)) λe E=>(e= .normal\/e= .ret)/\∃ss E',DC P E fn.results.toList=some (ss,E')/\Eh ss=b/\E'.boxes (.ext 0)=some cells') (hb:fn.body.isSome=true:=by kernel_rfl) (c:cells'.isEmpty=false:=by rfl):Aw P f (.ext a::as) b (.ext cells'::List.replicate as.length .gone):=gkx hf (Wb hb) hN h c
theorem AEp (h:Xy X E) {a:List TV} (hc:X.st.boxes (.ext 0)=some a:=by kernel_rfl):(Exit.normal= .normal\/Exit.normal= .ret)/\∃ss E1,DC P E []=some (ss,E1)/\Eh ss= .tup []/\E1.boxes (.ext 0)=some a:=by
 refine⟨.inl rfl,[],E,rfl,rfl,?_⟩;obtain⟨h1,h2⟩:=h;rw[<-h2]at hc;unfold RS.nf at hc;by_cases hm:(X.b.map Prod.fst).contains (.ext 0)=true
 ·have e:(Ml E (X.s.map Prod.fst)<|X.b.map Prod.fst).boxes (.ext 0)=some ((E.boxes<|.ext 0).getD []):=by
   show((X.b.map Prod.fst).map λr=>(r,(E.boxes r).getD [])).lookup (.ext 0)=_;rw[M6 (f:=λr=>(E.boxes r).getD []),BE hm]
  rw[e]at hc;unfold RS.in at h1
  cases he:E.boxes (.ext 0)with
  |none=>grind
  |some v=>grind
 have e:(Ml E (X.s.map Prod.fst)<|X.b.map Prod.fst).boxes (.ext 0)=none:=by
  show((X.b.map Prod.fst).map λr=>(r,(E.boxes r).getD [])).lookup (.ext 0)=_
  grind
 grind
theorem ABc {Am:α->QD} {v r:α} (h:some v=some r) (hE:Xy X E) (hX:X.st.amb=Am v:=by kernel_rfl):(Exit.normal= .normal\/Exit.normal= .ret)/\E.amb=Am r:=by
 injection h with h
 rw[<-h,<-hX,<-hE.2];exact⟨.inl rfl,rfl⟩
theorem nU {md:Region.Mode} {Q:Exit->Act->World->Prop} {T:Nat->Bool} {oi:Oper} {v:Value} (hi:ops[i]?=some oi) (l:∀(j:Nat) (o:Oper) cs b,ops[j]?=some o->o.op≠ .select cs b) (hQ:∀c a w,Q (.panic c) (a.put oi.dst v) w->Q (.panic c) a w):
  ∀(d:Nat) (listed:Array Bool) (a:Act) (w:World),
   (∀j oj,ops[j]?=some oj->j≠i->listed.getD j true=false->(∀e∈oj.after,Region.binds md e=true->e.on≠i)->oi.apart ops oj=true)->
   i∈Region.ready md ops listed->YieldsIf P ops (λ_=>True) oi v a->
   Tc P md ops Q T d (listed.setIfInBounds i true) (a.put oi.dst v) w->Tc P md ops Q T (d+1) listed a w:=by
 intro d
 induction d with
 |zero=>
  intro listed a w _ hr hy H;refine⟨λh=>(by grind),λj hj=>?_⟩;by_cases f:j=i
  ·subst f;exact hy.wpOp hi trivial ⟨λ_=>DK.refl,H⟩
  have:=ready_mono hj f;rw[H.1]at this;cases this
 |succ d ih=>
  intro listed a w g hr hy H;refine⟨λh=>(by grind),λj hj=>?_⟩;by_cases f:j=i
  ·subst f;exact hy.wpOp hi trivial ⟨λ_=>DK.refl,H⟩
  have h1:=H.2 j<|ready_mono hj f;obtain⟨m,oj,n,p⟩:=mem_ready.1 hj;have q:listed.getD i false=false:=by
   have h0:=(mem_ready.1 hr).1
   rcases EU i listed.size with h'|h'
   ·simpa[h']using h0
   grind
  have r:∀e∈oj.after,Region.binds md e=true->e.on≠i:=λe he hb u=>by
   have h1:=p e he hb;rw[u,q]at h1;cases h1
  have h2:=wpOp_putIf n (g j oj n f m r) (λcs b=>l i oi cs b hi) (λcs b=>l j oj cs b n) hQ hy h1;have hfree':∀k ok,ops[k]?=some ok->k≠i->(listed.setIfInBounds j true).getD k true=false->
    (∀e∈ok.after,Region.binds md e=true->e.on≠i)->oi.apart ops ok=true:=λk ok hk x s y=>by
   refine g k ok hk x ?_ y;by_cases t:j=k
   ·subst t;exact m
   rw[getD_set_ne true t]at s;exact s
  refine wpOp_mono (λa' w' h3=>⟨h3.2.1,ih (listed.setIfInBounds j true) a' w' hfree' (ready_mono hr<|JO f) ?_ ?_⟩) h2
  ·exact h3.1
  rw[Array.setIfInBounds_comm _ _ f];exact h3.2.2
def pW (o:Oper):Bool:=match o.op with
 | .move _| .assign _=>true
 |_=>false
theorem pV {w2:World} (h:pW o=true) {a:Act} {v:Value} (hr:(execOp a.eval o).run P w= .ok (.value v) w):(execOp a.eval o).run P w2= .ok (.value v) w2:=by
 unfold pW at h;unfold execOp at hr⊢;split at h
 ·rename_i x hx;simp only[hx]at hr⊢
  injection hr with hr
  injection hr with hr
  rw[hr];rfl
 ·rename_i x hx;simp only[hx]at hr⊢
  injection hr with hr
  injection hr with hr
  rw[hr];rfl
 cases h
def aok (P:Program) (N:Nat) (ops:Array Oper) (dn:List Nat) (i:Nat) (E:St):Bool:=QF P ops E i&&Hg N (oA ops i)&&Nat.blt dn.length ops.size&&Region.noSelect ops&&Region.free .any ops (zB ops.size dn) i&&(Region.ready .any ops<|zB ops.size dn).contains i&&pW (oA ops i)&&(Hu P E<|oA ops i).isSome
theorem KW.a {ts:List Nat} (i:Nat) (h:KW P N ops ts (i::dn) (E.put (oA ops i).dst ((Hu P E (oA ops i)).getD (.one .junk))) Q) (hk:aok P N ops dn i E=true:=by kernel_rfl):KW P N ops ts dn E Q:=by
 simp only[aok,Aj]at hk;obtain⟨⟨⟨⟨⟨⟨⟨h1,h2⟩,h3⟩,e1⟩,e2⟩,e3⟩,e4⟩,e5⟩:=hk;obtain⟨h5,h6⟩:=GU h1;obtain⟨d,h7,h8,_⟩:=DR h2;obtain⟨s,hs⟩:=Mo.1 e5;rw[hs,CX,h7]at h;unfold KW at h⊢;rw[Sg (i:=i) h3];have ho:=Hx h5;intro hQ hc w0 FA UA w a blk FS US k1 k2 k3;obtain⟨v,U,y1,y2,y3⟩:=Tg k1 hs;have e3':i∈Region.ready .any ops (zB ops.size dn):=by simpa using e3
 refine nU (v:=v) ho (Region.noSelect_spec e1) (λc a w hx=>?_) _ (zB ops.size dn) a w (Region.free_spec ho e2) e3' (.inl ⟨BF k1 h6,λw2 _=>?_⟩) ?_
 ·obtain⟨E',blk',FS',US',m1,_⟩:=hx
  grind
 ·exact pV e4<|y1 w λr _=>⟨λ_ _=>rfl,λ_ _=>rfl⟩
 rw[h7];refine h hQ (Jn hc e3') _ _ _ _ _ _ _ _ (k1.put (by simpa[FT]using h8) y2<|MO k1 y3 _) ?_ ?_
 ·rw[Bb (by simp),k2]
 rw[Bb (by simp),k3]
theorem O0 {n:Int} (h1: -9223372036854775808<=n) (h2:n<=9223372036854775807):IntKind.i64.wrap n=n:=by rw[IntKind.wrap_i64];omega
theorem BZ {a b:Int} (h1: -9223372036854775808<=a+b:=by omega) (h2:a+b<=9223372036854775807:=by omega):ad a b=a+b:=O0 h1 h2
theorem BL {a b:Int} (h1: -9223372036854775808<=a-b:=by omega) (h2:a-b<=9223372036854775807:=by omega):sb a b=a-b:=O0 h1 h2
theorem OI {a b:Int} (h1: -9223372036854775808<=a*b) (h2:a*b<=9223372036854775807):ml a b=a*b:=O0 h1 h2
theorem ad1 (h:i<9223372036854775807:=by omega):ad (i:Int) 1=((i+1:Nat):Int):=by grind [BZ]
theorem KJ (a b:ByteArray):seq a b=decide (a=b):=by
 unfold seq;rw[Bool.eq_iff_iff,G5,AZ];constructor
 ·intro h;rw[ByteArray.toList_eq,ByteArray.toList_eq]at h;cases a;simp_all
 intro h;rw[h]
theorem Ap:gi l (i:Int)=l[i]? :=by rfl
theorem Ew {x:α}:si l (i:Int) x=l.set i x:=by simp[si]
theorem JB:decide ((i:Int)<ln l)=decide (i<l.length):=by
 simp[ln]
theorem cF [Decidable p] {a b:α} (h:¬p:=by omega):cond (decide p) a b=b:=by grind
theorem cT [Decidable p] {a b:α} (h:p:=by omega):cond (decide p) a b=a:=by grind
theorem Dx {a b:β}:cond (decide (((l.length:Nat):Int)<ln l)) a b=b:=cF (by rw[ln];omega)
theorem DL {a b:β} (h:i<l.length):cond (decide ((i:Int)<ln l)) a b=a:=cT (by rw[ln];omega)
def Qy (step:σ->Nat->α->σ⊕β) (fin:σ->β):List α->Nat->σ->β
 |[],_,s=>fin s
 |x::l,i,s=>match step s i x with
  | .inl s'=>Qy step fin l (i+1) s'
  | .inr b=>b
theorem dT {body:S->Option (S⊕β)} (a:σ->Int->S) (l:List α) (step:σ->Nat->α->σ⊕β) (fin:σ->β) (c:Nat->σ->Prop) (h1:∀s i x,l[i]?=some x->c i s->body (a s (i:Nat))=some (match step s i x with| .inl s'=> .inl (a s' ((i+1:Nat):Int))| .inr b=> .inr b)/\∀s',step s i x= .inl s'->c (i+1) s') (h2:∀s,c l.length s->body (a s (l.length:Nat))=some (.inr (fin s))):∀(n i:Nat) (s:σ),i+n=l.length->c i s->Ai body (a s (i:Nat))=some (Qy step fin (l.drop i) i s)
 |0,i,s,hi,hs=>by
  have:i=l.length:=by omega
  subst this;rw[Ax,h2 s hs,Ge<|A3 _];rfl
 |n+1,i,s,hi,hs=>by
  have d:i<l.length:=by omega
  obtain⟨h3,h4⟩:=h1 s i l[i] (Ab d) hs;rw[Ax,h3,AE d,Qy]
  cases e:step s i l[i]with
  |inl s'=>simp only[];exact dT a l step fin c h1 h2 n (i+1) s' (by omega)<|h4 s' e
  |inr b=>rfl
theorem P4 {s:σ} {body:S->Option (S⊕β)} (a:σ->Int->S) (l:List α) (step:σ->Nat->α->σ⊕β) (fin:σ->β) (c:Nat->σ->Prop) (h1:∀s i x,l[i]?=some x->c i s->body (a s (i:Nat))=some (match step s i x with| .inl s'=> .inl (a s' ((i+1:Nat):Int))| .inr b=> .inr b)/\∀s',step s i x= .inl s'->c (i+1) s') (h2:∀s,c l.length s->body (a s (l.length:Nat))=some (.inr (fin s))) (hs:c 0 s):Ai body (a s 0)=some (Qy step fin l 0 s):=
 dT a l step fin c h1 h2 l.length 0 s (by omega) hs
def zl (z:α->Nat) (l:List α):Nat:=l.length+(l.map z).sum
theorem nS {z:α->Nat} {x:α} (h:x∈l):z x+1<=zl z l:=by
 unfold zl
 induction l with
 |nil=>cases h
 |cons y l ih=>grind
theorem Vp {z:α->Nat}:l.length<=zl z l:=by unfold zl;omega
theorem tC {body:Int->Option (Int⊕Unit⊕Bool)} (a:List α) (b:List β) (p:α->β->Bool) (hl:a.length=b.length) (hM:a.length<=9223372036854775807) (h1:∀(i:Nat) x y,a[i]?=some x->b[i]?=some y->body (i:Nat)=some (bif p x y then .inl (((i+1:Nat)):Int)else .inr (.inr false))) (h2:body (a.length:Nat)=some (.inr (.inl ()))):
  Ai body 0=some (bif(a.zip b).all (λz=>p z.1 z.2)then .inl ()else .inr false):=by
 have hz:(a.zip b).length=a.length:=by simp[hl]
 have:=P4 (body:=body) (λ(_:Unit) i=>i) (a.zip b) (λ_ _ z=>bif p z.1 z.2 then .inl ()else .inr<|.inr false) (λ_=> .inl ()) (λ_ _=>True)
  (λs i x hx _=>by grind)
  (λs _=>by rw[hz];exact h2) (s:=()) trivial
 rw[this];have c:∀(m:List (α×β)) (i:Nat),Qy (λ(_:Unit) _ z=>bif p z.1 z.2 then .inl ()else .inr<|.inr false) (λ_=>(.inl ():Unit⊕Bool)) m i ()=bif m.all (λz=>p z.1 z.2)then .inl ()else .inr false:=by
  intro m
  induction m with
  |nil=>intro i;rfl
  |cons z m ih=>grind [Qy]
 rw[c]
theorem qZ {p:α->α->Bool}:∀{a b:List α},(∀x∈a,∀y∈b,p x y=true↔x=y)->a.length=b.length->((a.zip b).all (λz=>p z.1 z.2)=true↔a=b)
 |[],[],_,_=>by simp
 |x::a,y::b,hp,h=>by
  have ih:=qZ (p:=p) (a:=a) (b:=b) (λx' hx y' hy=>hp x' (K5 _ hx) y'<|K5 _ hy) (by simpa using h);simp_all
 |[],_::_,_,h=>by simp at h
 |_::_,[],_,h=>by simp at h
theorem UH {body:S->Option (S⊕β)} (a:σ->Int->S) (n:Nat) (c:Nat->σ->Prop) (Q:β->Prop) (h1:∀s i,i<n->c i s->(∃s',body (a s (i:Nat))=some (.inl (a s' ((i+1:Nat):Int)))/\c (i+1) s')\/∃b,body (a s (i:Nat))=some (.inr b)/\Q b) (h2:∀s,c n s->∃b,body (a s (n:Nat))=some (.inr b)/\Q b):∀(k i:Nat) (s:σ),i+k=n->c i s->∃b,Ai body (a s (i:Nat))=some b/\Q b
 |0,i,s,hi,hs=>by grind [Ax]
 |k+1,i,s,hi,hs=>by
  rcases h1 s i (by omega) hs with⟨s',h3,h4⟩|⟨b,h3,h4⟩
  ·obtain⟨b,h5,h6⟩:=UH a n c Q h1 h2 k (i+1) s' (by omega) h4
   grind [Ax]
  grind [Ax]
theorem AA {s:σ} {body:S->Option (S⊕β)} (a:σ->Int->S) (n:Nat) (c:Nat->σ->Prop) (Q:β->Prop) (h1:∀s i,i<n->c i s->(∃s',body (a s (i:Nat))=some (.inl (a s' ((i+1:Nat):Int)))/\c (i+1) s')\/∃b,body (a s (i:Nat))=some (.inr b)/\Q b) (h2:∀s,c n s->∃b,body (a s (n:Nat))=some (.inr b)/\Q b) (hs:c 0 s):∃b,Ai body (a s 0)=some b/\Q b:=
 UH a n c Q h1 h2 n 0 s (by omega) hs
theorem VH {body body':S->Option (S⊕β)} (a:σ->Int->S) (n:Nat) (c:Nat->σ->Prop) (Q:β->Prop) (h1:∀s i,i<n->c i s->body' (a s (i:Nat))=body (a s (i:Nat))/\((∃s',body (a s (i:Nat))=some (.inl (a s' ((i+1:Nat):Int)))/\c (i+1) s')\/∃b,body (a s (i:Nat))=some (.inr b)/\Q b)) (h2:∀s,c n s->body' (a s (n:Nat))=body (a s (n:Nat))/\∃b,body (a s (n:Nat))=some (.inr b)/\Q b):∀(k i:Nat) (s:σ),i+k=n->c i s->∃b,Ai body (a s (i:Nat))=some b/\Ai body' (a s (i:Nat))=some b/\Q b
 |0,i,s,hi,hs=>by grind [Ax]
 |k+1,i,s,hi,hs=>by
  obtain⟨e,h⟩:=h1 s i (by omega) hs
  rcases h with⟨s',h3,h4⟩|⟨b,h3,h4⟩
  ·obtain⟨b,h5,h6,h7⟩:=VH a n c Q h1 h2 k (i+1) s' (by omega) h4
   grind [Ax]
  grind [Ax]
theorem HQ {s:σ} {body body':S->Option (S⊕β)} (a:σ->Int->S) (n:Nat) (c:Nat->σ->Prop) (Q:β->Prop) (h1:∀s i,i<n->c i s->body' (a s (i:Nat))=body (a s (i:Nat))/\((∃s',body (a s (i:Nat))=some (.inl (a s' ((i+1:Nat):Int)))/\c (i+1) s')\/∃b,body (a s (i:Nat))=some (.inr b)/\Q b)) (h2:∀s,c n s->body' (a s (n:Nat))=body (a s (n:Nat))/\∃b,body (a s (n:Nat))=some (.inr b)/\Q b) (hs:c 0 s):∃b,Ai body (a s 0)=some b/\Ai body' (a s 0)=some b/\Q b:=
 VH a n c Q h1 h2 n 0 s (by omega) hs
theorem YH {body:Int->Option (Int⊕β)} (l:List α) (p:Nat->α->Bool) (no yes:β) (hM:l.length<=9223372036854775807) (h1:∀(i:Nat) x,l[i]?=some x->body (i:Nat)=some (bif p i x then .inl (((i+1:Nat)):Int)else .inr no)) (h2:body (l.length:Nat)=some (.inr yes)):
  Ai body 0=some (bif l.zipIdx.all (λz=>p z.2 z.1)then yes else no):=by
 have:=P4 (body:=body) (λ(_:Unit) i=>i) l (λ_ i x=>bif p i x then .inl ()else .inr no) (λ_=>yes) (λ_ _=>True)
  (λs i x hx _=>by grind)
  (λs _=>h2) (s:=()) trivial
 rw[this];have a:∀(m:List α) (i:Nat),Qy (λ(_:Unit) i x=>bif p i x then .inl ()else .inr no) (λ_=>yes) m i ()=bif(m.zipIdx i).all (λz=>p z.2 z.1)then yes else no:=by
  intro m
  induction m with
  |nil=>intro i;rfl
  |cons z m ih=>grind [List.zipIdx_cons,Qy]
 rw[a]
theorem UG {body:Int×List γ->Option ((Int×List γ)⊕List γ)} (l:List α) (f:α->γ) (h1:∀(i:Nat) x (a:List γ),l[i]?=some x->a.length=i->body ((i:Nat),a)=some (.inl (((i+1:Nat):Int),a++ [f x]))) (h2:∀a,body ((l.length:Nat),a)=some (.inr a)):
  Ai body (0,[])=some (l.map f):=by
 have:=P4 (body:=body) (λ(s:List γ) i=>(i,s)) l (λa _ x=>(.inl (a++ [f x]):List γ⊕List γ)) (λa=>a) (λi a=>a.length=i)
  (λs i x hx hi=>by grind)
  (λs _=>h2 s) (s:=[]) rfl
 rw[this];have b:∀(m:List α) (i:Nat) (a:List γ),Qy (λa _ x=>(.inl (a++ [f x]):List γ⊕List γ)) (λa=>a) m i a=a++m.map f:=by
  intro m
  induction m with
  |nil=>grind [Qy]
  |cons z m ih=>grind [Qy]
 grind
theorem o9 {body:Int×List γ->Option ((Int×List γ)⊕List γ)} (n:Nat) (f:Nat->γ) (h1:∀(i:Nat) (a:List γ),i<n->a.length=i->body ((i:Nat),a)=some (.inl (((i+1:Nat):Int),a++ [f i]))) (h2:∀a,body ((n:Nat),a)=some (.inr a)):
  Ai body (0,[])=some ((List.range n).map f):=
 UG (List.range n) f (λi x a hx ho=>by grind) (λa=>by grind)
theorem YE {z:α} (h:by_*n<=281474976710656) (h2:n<=9223372036854775807):mk by_ z (n:Int)=some (List.replicate n z):=by
 unfold mk
 grind
theorem Bw {m:List α} (h:(l.length+m.length)*by_<=140737488355328):ap by_ l m=some (l++m):=BE h
theorem K9 {i:Int} (h1:0<=i) (h2:i<l.length):gi l i=some (l[i.toNat]'(by omega)):=by
 unfold gi
 grind
theorem Bh:ln l=(l.length:Int):=rfl
def L (s:ByteArray):List UInt8:=s.data.toList
theorem JJ {a b:ByteArray} (h:L a=L b):a=b:=by
 cases a;simp_all [L]
theorem ZP (s:ByteArray):(L s).length=s.size:=by cases s;rfl
theorem GN (a b:ByteArray):L (a++b)=L a++L b:=by simp[L]
theorem DH (l:List UInt8):L (bs l)=l:=by simp[L,bs]
theorem N2 (l:List Int):L (EZ l)=l.map λn=>UInt8.ofNat n.toNat:=strOfNums_data l
theorem K1 (s:ByteArray) (i j:Nat):L (s.extract i j)=((L s).drop i).take (j-i):=by simp[L]
theorem Bo (s:ByteArray):GA s=((L s).length:Int):=by rw[ZP];rfl
theorem E8 (s:ByteArray) (h:i<(L s).length):sx s (i:Int)=some (((L s)[i]).toNat:Int):=by
 have h':i<s.size:=by grind [ZP]
 unfold sx;rw[BE ⟨by omega,by omega⟩];unfold AK.bt;rw[dif_pos<|by simpa using h'];rfl
theorem Gf (s:ByteArray) (h1:i<=j) (h2:j<=(L s).length):sub s (i:Int) (j:Int)=some (s.extract i j):=by grind [ZP,sub]
theorem G0 (a b:ByteArray) (h:(L a).length+(L b).length<=9223372036854775807):H3 a b=some (a++b):=by grind [ZP,H3]
theorem Qu (a b:ByteArray):seq a b=decide (L a=L b):=by grind [KJ,JJ]
def BV (n:Nat):List UInt8:=if h:n<=127 then [UInt8.ofNat n]else UInt8.ofNat (n %128+128)::BV (n/128)
termination_by n
decreasing_by omega
def F8:List UInt8->Nat
 |[]=>0
 |d::ds=>d.toNat %128+128*F8 ds
theorem NA:∀(ds es:List UInt8),F8 (ds++es)=F8 ds+128^ds.length*F8 es
 |[],es=>by simp[F8]
 |d::ds,es=>by
  simp only[Cl,F8,NA ds es,AD,Nat.pow_succ]
  grind
theorem jE (d:UInt8):d.toNat<256:=d.toNat_lt
theorem Nw (h:n<=127):BV n=[UInt8.ofNat n]:=by rw[BV,dif_pos h]
theorem Va (h:¬n<=127):BV n=UInt8.ofNat (n %128+128)::BV (n/128):=by rw[BV,dif_neg h]
theorem bY:∀{ds:List UInt8} {x:UInt8},F8 (ds++ [x])=0->x.toNat<128->x.toNat=0
 |[],x,h,hx=>by grind [F8]
 |d::ds,x,h,hx=>by
  simp only[Cl,F8]at h;exact bY (ds:=ds) (by omega) hx
theorem eB:∀(ds:List UInt8) (x:UInt8),(∀d∈ds,128<=d.toNat)->x.toNat<128->(BV (F8 (ds++ [x]))=ds++ [x]↔¬(x.toNat=0/\ds≠ []))
 |[],x,_,hx=>by
  have:F8 ([]++ [x])=x.toNat:=by simp[F8];omega
  rw[this,Nw<|by omega];simp
 |d::ds,x,hd,hx=>by
  have ih:=eB ds x (λe he=>hd e<|K5 _ he) hx;have h1:=hd d G7;have h2:=jE d;have hv:F8 (d::ds++ [x])=d.toNat-128+128*F8 (ds++ [x]):=by grind [F8]
  rw[hv];by_cases h0:F8 (ds++ [x])=0
  ·have a:=bY h0 hx;rw[h0,Nw<|by omega];simp_all
  rw[Va<|by omega]
  grind [UInt8.ofNat_toNat,F8]
theorem mH:∀(n:Nat),(BV n).length<=n+1
 |n=>by
  by_cases h:n<=127
  ·rw[Nw h];simp
  have:=mH<|n/128
  grind [Va]
termination_by n=>n
decreasing_by omega
theorem eC {body:Int×List Int->Option ((Int×List Int)⊕(Int×List Int))} (hb:∀n a,body (n,a)=bif decide (n>127)then((ap 1 a [IntKind.u8.wrap (ad (Int.tmod n 128) 128)]).bind λc=>some (.inl (qu n 128,c)))else some (.inr (n,a))):
  ∀(n:Nat) (a:List Int),a.length+n<=1099511627776->∃(m:Nat) (o:List Int),Ai body ((n:Int),a)=some ((m:Int),o)/\m<=127/\o.length<=a.length+n/\(o++ [(m:Int)]).map (λn=>UInt8.ofNat n.toNat)=a.map (λn=>UInt8.ofNat n.toNat)++BV n
 |n,a,h=>by
  rw[Ax,hb];by_cases hn:n<=127
  ·rw[Ah (by omega),Ad]
   grind [Nw]
  rw[Ac (by omega),Al,Bw (by grind),Aa];have e1:Int.tmod (n:Int) 128=((n %128:Nat):Int):=rfl;have e2:qu (n:Int) 128=((n/128:Nat):Int):=by grind [O0,qu]
  have e3:IntKind.u8.wrap (ad (Int.tmod (n:Int) 128) 128)=((n %128+128:Nat):Int):=by grind [BZ,IntKind.wrap_u8]
  obtain⟨m,o,h1,h2,h3,h4⟩:=eC hb (n/128) (a++ [((n %128+128:Nat):Int)]) (by grind);rw[e2,e3];refine⟨m,o,h1,h2,by grind,?_⟩
  grind [Va]
termination_by n=>n
decreasing_by omega
theorem ADp {s:Int} (h0:0<=s) (h1:s<4294967296):IntKind.u32.wrap (Int.tdiv s 2)=Int.fdiv s (2^(min (1:Int).toNat IntKind.u32.bits)):=by grind [IntKind.wrap_u32,IntKind.bits]
theorem an1 {s:Int} (h0:0<=s) (h1:s<4294967296):an s 1=Int.tmod s 2:=by grind [BW,IntKind.wrap_u32,an]
theorem ABW (a b:Int):0<=xr a b/\xr a b<4294967296:=by grind [IntKind.wrap_u32,xr]
theorem dS {body:S->Option (S⊕β)} (a:σ->Int->S) (mkS':σ->Int->S') (n:Nat) (c:Nat->σ->Prop) (Q:β->Prop) (h1:∀s i,i<n->c i s->(∃s',body (a s (i:Nat))=some (.inl (a s' ((i+1:Nat):Int)))/\body' (mkS' s (i:Nat))=some (.inl (mkS' s' ((i+1:Nat):Int)))/\c (i+1) s')\/∃b,body (a s (i:Nat))=some (.inr b)/\body' (mkS' s (i:Nat))=some (.inr b)/\Q b) (h2:∀s,c n s->∃b,body (a s (n:Nat))=some (.inr b)/\body' (mkS' s (n:Nat))=some (.inr b)/\Q b):∀(k i:Nat) (s:σ),i+k=n->c i s->∃b,Ai body (a s (i:Nat))=some b/\Ai body' (mkS' s (i:Nat))=some b/\Q b
 |0,i,s,hi,hs=>by grind [Ax]
 |k+1,i,s,hi,hs=>by
  rcases h1 s i (by omega) hs with⟨s',h3,h4,h5⟩|⟨b,h3,h4,h5⟩
  ·obtain⟨b,h6,h7,h8⟩:=dS a mkS' n c Q h1 h2 k (i+1) s' (by omega) h5
   grind [Ax]
  grind [Ax]
theorem Rn {s:σ} {body:S->Option (S⊕β)} (a:σ->Int->S) (mkS':σ->Int->S') (n:Nat) (c:Nat->σ->Prop) (Q:β->Prop) (h1:∀s i,i<n->c i s->(∃s',body (a s (i:Nat))=some (.inl (a s' ((i+1:Nat):Int)))/\body' (mkS' s (i:Nat))=some (.inl (mkS' s' ((i+1:Nat):Int)))/\c (i+1) s')\/∃b,body (a s (i:Nat))=some (.inr b)/\body' (mkS' s (i:Nat))=some (.inr b)/\Q b) (h2:∀s,c n s->∃b,body (a s (n:Nat))=some (.inr b)/\body' (mkS' s (n:Nat))=some (.inr b)/\Q b) (hs:c 0 s):∃b,Ai body (a s 0)=some b/\Ai body' (mkS' s 0)=some b/\Q b:=
 dS a mkS' n c Q h1 h2 n 0 s (by omega) hs
theorem V6 {body:S->Option (S⊕β)} (φ:S->S') (h:∀s,body' (φ s)=(body s).map (Sum.map φ id)):∀(n:Nat) (s:S),Ps body' n (φ s)=Ps body n s
 |0,_=>rfl
 |n+1,s=>by
  simp only[Ps,h]
  cases body s with
  |none=>rfl
  |some o=>
   cases o with
   |inl s'=>exact V6 φ h n s'
   |inr b=>rfl
theorem pA {body:S->Option (S⊕β)} (φ:S->S') (h:∀s,body' (φ s)=(body s).map (Sum.map φ id)) (s:S):Ai body' (φ s)=Ai body s:=by
 have b:∀a,Ai body' (φ s)=some a↔Ai body s=some a:=λa=>by
  rw[Hk,Hk];exact⟨λ⟨n,hn⟩=>⟨n,by rw[<-V6 φ h];exact hn⟩,λ⟨n,hn⟩=>⟨n,by rw[V6 φ h];exact hn⟩⟩
 cases hx:Ai body s with
 |some a=>grind
 |none=>
  cases hy:Ai body' (φ s)with
  |none=>rfl
  |some a=>grind
theorem To {body:S->Option (S⊕β)} (φ:S->S') (I:S->Prop) (h:∀s,I s->body' (φ s)=(body s).map (Sum.map φ id)) (hI:∀s s',I s->body s=some (.inl s')->I s'):∀(n:Nat) (s:S),I s->Ps body' n (φ s)=Ps body n s
 |0,_,_=>rfl
 |n+1,s,hs=>by
  simp only[Ps,h s hs]
  cases hb:body s with
  |none=>rfl
  |some o=>
   cases o with
   |inl s'=>exact To φ I h hI n s' (hI s s' hs hb)
   |inr b=>rfl
theorem lD {body:S->Option (S⊕β)} (φ:S->S') (I:S->Prop) (h:∀s,I s->body' (φ s)=(body s).map (Sum.map φ id)) (hI:∀s s',I s->body s=some (.inl s')->I s') (s:S) (hs:I s):Ai body' (φ s)=Ai body s:=by
 have b:∀a,Ai body' (φ s)=some a↔Ai body s=some a:=λa=>by
  rw[Hk,Hk];exact⟨λ⟨n,hn⟩=>⟨n,by rw[<-To φ I h hI n s hs];exact hn⟩,λ⟨n,hn⟩=>⟨n,by rw[To φ I h hI n s hs];exact hn⟩⟩
 cases hx:Ai body s with
 |some a=>grind
 |none=>
  cases hy:Ai body' (φ s)with
  |none=>rfl
  |some a=>grind
theorem uO {s:S} {b:β} {body:S->Option (S⊕β)} (I:S->Prop) (Q:β->Prop) (hI:∀s s',I s->body s=some (.inl s')->I s') (hQ:∀s b,I s->body s=some (.inr b)->Q b) (hs:I s) (h:Ai body s=some b):Q b:=by
 obtain⟨n,hn⟩:=Hk.1 h;clear h
 induction n generalizing s with
 |zero=>cases hn
 |succ n ih=>grind [Ps]
theorem YG {body':S'->Option (S'⊕β')} {body:S->Option (S⊕β)} (a:σ->Int->S) (mkS':σ->Int->S') (n:Nat) (c:Nat->σ->Prop) (Q:β->β'->Prop) (h1:∀s i,i<n->c i s->(∃s',body (a s (i:Nat))=some (.inl (a s' ((i+1:Nat):Int)))/\body' (mkS' s (i:Nat))=some (.inl (mkS' s' ((i+1:Nat):Int)))/\c (i+1) s')\/∃b b',body (a s (i:Nat))=some (.inr b)/\body' (mkS' s (i:Nat))=some (.inr b')/\Q b b') (h2:∀s,c n s->∃b b',body (a s (n:Nat))=some (.inr b)/\body' (mkS' s (n:Nat))=some (.inr b')/\Q b b'):∀(k i:Nat) (s:σ),i+k=n->c i s->∃b b',Ai body (a s (i:Nat))=some b/\Ai body' (mkS' s (i:Nat))=some b'/\Q b b'
 |0,i,s,hi,hs=>by grind [Ax]
 |k+1,i,s,hi,hs=>by
  rcases h1 s i (by omega) hs with⟨s',h3,h4,h5⟩|⟨b,b',h3,h4,h5⟩
  ·obtain⟨b,b',h6,h7,h8⟩:=YG a mkS' n c Q h1 h2 k (i+1) s' (by omega) h5
   grind [Ax]
  grind [Ax]
theorem dR {body':S'->Option (S'⊕β')} {s:σ} {body:S->Option (S⊕β)} (a:σ->Int->S) (mkS':σ->Int->S') (n:Nat) (c:Nat->σ->Prop) (Q:β->β'->Prop) (h1:∀s i,i<n->c i s->(∃s',body (a s (i:Nat))=some (.inl (a s' ((i+1:Nat):Int)))/\body' (mkS' s (i:Nat))=some (.inl (mkS' s' ((i+1:Nat):Int)))/\c (i+1) s')\/∃b b',body (a s (i:Nat))=some (.inr b)/\body' (mkS' s (i:Nat))=some (.inr b')/\Q b b') (h2:∀s,c n s->∃b b',body (a s (n:Nat))=some (.inr b)/\body' (mkS' s (n:Nat))=some (.inr b')/\Q b b') (hs:c 0 s):∃b b',Ai body (a s 0)=some b/\Ai body' (mkS' s 0)=some b'/\Q b b':=
 YG a mkS' n c Q h1 h2 n 0 s (by omega) hs
theorem Se {body body':S->Option (S⊕β)} (m:S->Nat) (a:S->Prop) (Q:β->Prop) (h:∀s,a s->(∃s',body s=some (.inl s')/\body' s=some (.inl s')/\a s'/\m s'<m s)\/∃b,body s=some (.inr b)/\body' s=some (.inr b)/\Q b):∀(n:Nat) (s:S),m s<=n->a s->∃b,Ai body s=some b/\Ai body' s=some b/\Q b
 |n,s,hn,hs=>by
  rcases h s hs with⟨s',h1,h2,h3,h4⟩|⟨b,h1,h2,h3⟩
  ·cases n with
   |zero=>omega
   |succ n=>
    obtain⟨b,h5,h6,h7⟩:=Se m a Q h n s' (by omega) h3
    grind [Ax]
  grind [Ax]
theorem O5 (z:α->Nat):∀(l:List α) (i:Nat) (h:i<l.length),((l.take (i+1)).map z).sum=((l.take i).map z).sum+z l[i]
 |[],i,h=>by simp at h
 |x::l,0,h=>by simp
 |x::l,i+1,h=>by
  simp only[List.take_succ_cons,CJ,EV,List.getElem_cons_succ];rw[O5 z l i (by simpa using h)];omega
theorem LA (z:α->Nat) (l:List α) (i:Nat):((l.take i).map z).sum<=(l.map z).sum:=by grind [Cs]
theorem hO (a:List α) (x:α) (post:List α):gi (a++x::post) (a.length:Nat)=some x:=by grind [Ap]
theorem eZ (a:List α) (x y:α) (post:List α):si (a++x::post) (a.length:Nat) y=a++y::post:=by grind [Ew]
noncomputable section
def D8 (lt:γ->γ->Bool) (xA:Int) (xB:Int) (xN:Int) (a:Int) (b:List γ):Option ((Int×List γ)⊕(List γ)):=cond (decide<|a<xN) ((nY b (ad xA a)<|ad xB a).bind λv1=>some<|.inl (ad a 1,v1))<|some<|.inr b
def CH (lt:γ->γ->Bool) (xL:List γ) (xA:Int) (xB:Int) (xN:Int):Option (List γ):=(Ai (λs:Int×List γ=>D8 lt xA xB xN s.1 s.2) (0,xL)).bind λv2=>some v2
def E6 (lt:γ->γ->Bool) (xM:Int) (a:Int) (b:Int) (c:List γ):Option ((Int×Int×List γ)⊕(Int×List γ)):=cond (a !=b) (cond (decide<|a>b) ((CH lt c (sb xM a) xM b).bind λv1=>some<|.inl (sb a b,b,v1))<|(CH lt c (sb xM a) (sb (ad xM b) a) a).bind λv2=>some<|.inl (a,sb b a,v2))<|some<|.inr (a,c)
def EJ (lt:γ->γ->Bool) (xL:List γ) (xA:Int) (xM:Int) (xB:Int):Option (List γ):=(Ai (λs:Int×Int×List γ=>E6 lt xM s.1 s.2.1 s.2.2) (sb xM xA,sb xB xM,xL)).bind λv3=>(CH lt v3.2 (sb xM v3.1) xM v3.1).bind λv4=>some v4
def AW (lt:γ->γ->Bool) (xA:Int) (a:Int) (b:List γ):Option ((Int×List γ)⊕(List γ)):=(cond (decide<|a>xA) ((vR b a<|sb a 1).bind λv1=>some<|lt v1.1 v1.2) (some false):Option Bool).bind λj1=>cond j1 ((nY b a<|sb a 1).bind λv2=>some<|.inl (sb a 1,v2))<|some<|.inr b
def AS (lt:γ->γ->Bool) (xA:Int) (xB:Int) (a:Int) (b:List γ):Option ((Int×List γ)⊕(List γ)):=cond (decide<|a<xB) ((Ai (λs:Int×List γ=>AW lt xA s.1 s.2) (a,b)).bind λv3=>some<|.inl (ad a 1,v3))<|some<|.inr b
def B4 (lt:γ->γ->Bool) (xL:List γ) (xA:Int) (xB:Int):Option (List γ):=(Ai (λs:Int×List γ=>AS lt xA xB s.1 s.2) (ad xA 1,xL)).bind λv4=>some v4
def DP (lt:γ->γ->Bool) (xL:List γ) (xA:Int) (a:Int) (b:Int):Option ((Int×Int)⊕Int):=cond (decide<|a<b) ((vR xL (IntKind.i64.wrap<|Int.fdiv (IntKind.u64.wrap<|ad a b)<|2^(min (1:Int).toNat IntKind.u64.bits)) xA).bind λv1=>cond (lt v1.1 v1.2) (some<|.inl (ad (IntKind.i64.wrap<|Int.fdiv (IntKind.u64.wrap<|ad a b)<|2^(min (1:Int).toNat IntKind.u64.bits)) 1,b))<|some<|.inl (a,IntKind.i64.wrap<|Int.fdiv (IntKind.u64.wrap<|ad a b)<|2^(min (1:Int).toNat IntKind.u64.bits)))<|some<|.inr a
def Dk (lt:γ->γ->Bool) (v2:Int) (a:Int) (b:List γ):Option ((Int×List γ)⊕(List γ)):=cond (decide<|a<(sb v2 1)) ((nY b a<|ad a 1).bind λv3=>some<|.inl (ad a 1,v3))<|some<|.inr b
def DO (lt:γ->γ->Bool) (xL:List γ) (xM:Int) (a:Int) (b:Int):Option ((Int×Int)⊕Int):=cond (decide<|a<b) ((vR xL xM<|IntKind.i64.wrap<|Int.fdiv (IntKind.u64.wrap<|ad a b)<|2^(min (1:Int).toNat IntKind.u64.bits)).bind λv5=>cond (!(lt v5.1 v5.2)) (some<|.inl (ad (IntKind.i64.wrap<|Int.fdiv (IntKind.u64.wrap<|ad a b)<|2^(min (1:Int).toNat IntKind.u64.bits)) 1,b))<|some<|.inl (a,IntKind.i64.wrap<|Int.fdiv (IntKind.u64.wrap<|ad a b)<|2^(min (1:Int).toNat IntKind.u64.bits)))<|some<|.inr a
def Dj (lt:γ->γ->Bool) (v6:Int) (a:Int) (b:List γ):Option ((Int×List γ)⊕(List γ)):=cond (decide<|a>v6) ((nY b a<|sb a 1).bind λv7=>some<|.inl (sb a 1,v7))<|some<|.inr b
def DN (lt:γ->γ->Bool) (xL:List γ) (xA:Int) (xM:Int) (xB:Int) (a:Int) (b:Int):Option ((Int×Int)⊕Int):=cond (decide<|a<b) ((vR xL (sb (sb (ad (IntKind.i64.wrap<|Int.fdiv (IntKind.u64.wrap<|ad xA xB)<|2^(min (1:Int).toNat IntKind.u64.bits)) xM) 1)<|IntKind.i64.wrap<|Int.fdiv (IntKind.u64.wrap<|ad a b)<|2^(min (1:Int).toNat IntKind.u64.bits))<|IntKind.i64.wrap<|Int.fdiv (IntKind.u64.wrap<|ad a b)<|2^(min (1:Int).toNat IntKind.u64.bits)).bind λv9=>cond (!(lt v9.1 v9.2)) (some<|.inl (ad (IntKind.i64.wrap<|Int.fdiv (IntKind.u64.wrap<|ad a b)<|2^(min (1:Int).toNat IntKind.u64.bits)) 1,b))<|some<|.inl (a,IntKind.i64.wrap<|Int.fdiv (IntKind.u64.wrap<|ad a b)<|2^(min (1:Int).toNat IntKind.u64.bits)))<|some<|.inr a
def Cp (lt:γ->γ->Bool):Nat->(List γ)->Int->Int->Int->Option (List γ)
 |0,_,_,_,_=>none
 |n+1,xL,xA,xM,xB=>cond ((sb xM xA)==1) ((Ai (λs:Int×Int=>DP lt xL xA s.1 s.2) (xM,xB)).bind λv2=>(Ai (λs:Int×List γ=>Dk lt v2 s.1 s.2) (xA,xL)).bind λv4=>some v4) (cond ((sb xB xM)==1) ((Ai (λs:Int×Int=>DO lt xL xM s.1 s.2) (xA,xM)).bind λv6=>(Ai (λs:Int×List γ=>Dj lt v6 s.1 s.2) (xM,xL)).bind λv8=>some v8) ((cond (decide (xM>(IntKind.i64.wrap (Int.fdiv (IntKind.u64.wrap (ad xA xB)) (2^(min (1:Int).toNat IntKind.u64.bits)))))) (some (sb (ad (IntKind.i64.wrap (Int.fdiv (IntKind.u64.wrap (ad xA xB)) (2^(min (1:Int).toNat IntKind.u64.bits)))) xM) xB,IntKind.i64.wrap (Int.fdiv (IntKind.u64.wrap (ad xA xB)) (2^(min (1:Int).toNat IntKind.u64.bits))))) (some (xA,xM)):Option (Int×Int)).bind λj1=>(Ai (λs:Int×Int=>DN lt xL xA xM xB s.1 s.2) (j1.1,j1.2)).bind λv10=>(cond (decide (v10<xM)) (some (decide (xM<(sb (ad (IntKind.i64.wrap (Int.fdiv (IntKind.u64.wrap (ad xA xB)) (2^(min (1:Int).toNat IntKind.u64.bits)))) xM) v10)))) (some false):Option Bool).bind λj2=>(cond j2 ((EJ lt xL v10 xM (sb (ad (IntKind.i64.wrap (Int.fdiv (IntKind.u64.wrap (ad xA xB)) (2^(min (1:Int).toNat IntKind.u64.bits)))) xM) v10)).bind λv11=>some v11) (some xL):Option (List γ)).bind λj3=>(cond (decide (xA<v10)) (some (decide (v10<(IntKind.i64.wrap (Int.fdiv (IntKind.u64.wrap (ad xA xB)) (2^(min (1:Int).toNat IntKind.u64.bits))))))) (some false):Option Bool).bind λj4=>(cond j4 ((Cp lt n j3 xA v10 (IntKind.i64.wrap (Int.fdiv (IntKind.u64.wrap (ad xA xB)) (2^(min (1:Int).toNat IntKind.u64.bits))))).bind λv12=>some v12) (some j3):Option (List γ)).bind λj5=>cond (decide ((IntKind.i64.wrap (Int.fdiv (IntKind.u64.wrap (ad xA xB)) (2^(min (1:Int).toNat IntKind.u64.bits))))<(sb (ad (IntKind.i64.wrap (Int.fdiv (IntKind.u64.wrap (ad xA xB)) (2^(min (1:Int).toNat IntKind.u64.bits)))) xM) v10))) (cond (decide ((sb (ad (IntKind.i64.wrap (Int.fdiv (IntKind.u64.wrap (ad xA xB)) (2^(min (1:Int).toNat IntKind.u64.bits)))) xM) v10)<xB)) ((Cp lt n j5 (IntKind.i64.wrap (Int.fdiv (IntKind.u64.wrap (ad xA xB)) (2^(min (1:Int).toNat IntKind.u64.bits)))) (sb (ad (IntKind.i64.wrap (Int.fdiv (IntKind.u64.wrap (ad xA xB)) (2^(min (1:Int).toNat IntKind.u64.bits)))) xM) v10) xB).bind λv13=>some v13) (some j5)) (some j5)))
def CI (lt:γ->γ->Bool) (xN:Int) (b:Int) (a:Int) (c:List γ):Option ((Int×Int×List γ)⊕(Int×List γ)):=cond (decide<|a<=xN) ((B4 lt c b a).bind λv1=>some<|.inl (a,ad a 20,v1))<|some<|.inr (b,c)
def Dc (lt:γ->γ->Bool) (xN:Int) (a:Int) (c:Int) (b:Int) (d:List γ):Option ((Int×Int×List γ)⊕(Int×List γ)):=cond (decide<|b<=xN) ((Cp lt (List.length d+1) d c (ad c a) b).bind λv4=>some<|.inl (b,ad b<|ml 2 a,v4))<|some<|.inr (c,d)
def Dd (lt:γ->γ->Bool) (xN:Int) (a:Int) (b:List γ):Option ((Int×List γ)⊕(List γ)):=cond (decide<|a<xN) ((Ai (λs:Int×Int×List γ=>Dc lt xN a s.1 s.2.1 s.2.2) (0,ml 2 a,b)).bind λv5=>cond (decide<|(ad v5.1 a)<xN) ((Cp lt (List.length v5.2+1) v5.2 v5.1 (ad v5.1 a) xN).bind λv6=>some<|.inl (ml a 2,v6))<|some<|.inl (ml a 2,v5.2))<|some<|.inr b
def CU (lt:γ->γ->Bool) (xL:List γ) (xN:Int):Option (List γ):=(Ai (λs:Int×Int×List γ=>CI lt xN s.1 s.2.1 s.2.2) (0,20,xL)).bind λv2=>(B4 lt v2.2 v2.1 xN).bind λv3=>(Ai (λs:Int×List γ=>Dd lt xN s.1 s.2) (20,v3)).bind λv7=>some v7
def YF (xX:Int):Option Int:=(cond (decide<|xX>=4294967296) (some (Int.fdiv xX<|2^(min (32:Int).toNat IntKind.u64.bits),32)) (some (xX,0)):Option (Int×Int)).bind λj1=>(cond (decide<|j1.1>=65536) (some (Int.fdiv j1.1<|2^(min (16:Int).toNat IntKind.u64.bits),ad j1.2 16)) (some (j1.1,j1.2)):Option (Int×Int)).bind λj2=>(cond (decide<|j2.1>=256) (some (Int.fdiv j2.1<|2^(min (8:Int).toNat IntKind.u64.bits),ad j2.2 8)) (some (j2.1,j2.2)):Option (Int×Int)).bind λj3=>(sx (bs [0,1,2,2,3,3,3,3,4,4,4,4,4,4,4,4,5,5,5,5,5,5,5,5,5,5,5,5,5,5,5,5,6,6,6,6,6,6,6,6,6,6,6,6,6,6,6,6,6,6,6,6,6,6,6,6,6,6,6,6,6,6,6,6,7,7,7,7,7,7,7,7,7,7,7,7,7,7,7,7,7,7,7,7,7,7,7,7,7,7,7,7,7,7,7,7,7,7,7,7,7,7,7,7,7,7,7,7,7,7,7,7,7,7,7,7,7,7,7,7,7,7,7,7,7,7,7,7,8,8,8,8,8,8,8,8,8,8,8,8,8,8,8,8,8,8,8,8,8,8,8,8,8,8,8,8,8,8,8,8,8,8,8,8,8,8,8,8,8,8,8,8,8,8,8,8,8,8,8,8,8,8,8,8,8,8,8,8,8,8,8,8,8,8,8,8,8,8,8,8,8,8,8,8,8,8,8,8,8,8,8,8,8,8,8,8,8,8,8,8,8,8,8,8,8,8,8,8,8,8,8,8,8,8,8,8,8,8,8,8,8,8,8,8,8,8,8,8,8,8,8,8,8,8,8,8])<|IntKind.u8.wrap j3.1).bind λx1=>some<|ad j3.2<|IntKind.i64.wrap x1
def VG (xX:Int):Option Int:=(YF xX).bind λv1=>some v1
def FC (lt:γ->γ->Bool) (xL:List γ) (xA:Int) (xB:Int):Option (Unit⊕Unit⊕(List γ)):=cond (decide<|(sb xB xA)<=12) ((B4 lt xL xA xB).bind λv1=>some<|.inr<|.inr v1) none
def Et (lt:γ->γ->Bool) (xL:List γ) (xA:Int) (xB:Int) (a:Int):Option (List γ):=(Ai (λ_:Unit=>FC lt xL xA xB) ()).bind<|Sum.elim (λv2=>some xL) some
def KH (lt:γ->γ->Bool) (l:List γ):Option (List γ):=(VG<|IntKind.u64.wrap<|ln l).bind λv=>Et lt l 0 (ln l) v
end
def srt (a:γ->Int) (l:List γ):Prop:=l.Pairwise λx y=>a x<=a y
section
variable (key:γ->Int)
def Bx (l r:List γ):Prop:=∀k,r.filter (λx=>key x==k)=l.filter (λx=>key x==k)
end
theorem Bx.refl (a:γ->Int) (l:List γ):Bx a l l:=λ_=>rfl
theorem Bx.trans (d:γ->Int) {a b c:List γ} (h:Bx d a b) (k:Bx d b c):Bx d a c:=λx=>(k x).trans<|h x
theorem Gl (e:γ->Int) {a b c d:List γ} (h:Bx e a b) (k:Bx e c d):Bx e (a++c) (b++d):=λx=>by rw[Cb,Cb,h,k]
section
variable (key:γ->Int)
theorem Bx.mem {a b:List γ} (h:Bx key a b) {x:γ}:x∈b↔x∈a:=by
 have:=h<|key x;have e:x∈b.filter (λy=>key y==key x)↔x∈a.filter (λy=>key y==key x):=by rw[this]
 simpa using e
end
section
variable (key:γ->Int)
theorem Bx.nil {b:List γ} (h:Bx key [] b):b=[]:=by
 cases b with
 |nil=>rfl
 |cons x b=>exact absurd ((h.mem (x:=x)).1 G7)<|by simp
end
theorem Bx.swap (c:γ->Int) {a b:List γ} (h:∀x∈a,∀y∈b,c y<c x):Bx c (a++b) (b++a):=by
 intro k
 grind [B9]
theorem Tw (p:γ->Bool):∀l:List γ,l.length=(l.filter p).length+(l.filter λx=>!p x).length
 |[]=>rfl
 |x::l=>by
  have:=Tw p l
  grind
section
variable (key:γ->Int)
theorem Bx.len {a b:List γ}:Bx key a b->a.length=b.length:=by
 intro h;have:∀(n:Nat) (a b:List γ),a.length<=n->Bx key a b->a.length=b.length:=by
  intro n
  induction n with
  |zero=>grind [Bx.nil]
  |succ n ih=>
   intro a b ha h
   cases a with
   |nil=>rw[h.nil]
   |cons x a=>
    have hp:(x::a).length=((x::a).filter λy=>key y==key x).length+((x::a).filter λy=>!(key y==key x)).length:=by
     exact Tw _ _
    have c:b.length=(b.filter λy=>key y==key x).length+(b.filter λy=>!(key y==key x)).length:=by
     exact Tw _ _
    have h1:Bx key ((x::a).filter λy=>!(key y==key x)) (b.filter λy=>!(key y==key x)):=by
     intro k;rw[DS,DS];by_cases hk:k=key x
     ·subst hk
      have z:∀l:List γ,l.filter (λy=>(key y==key x)&&!(key y==key x))=[]:=λl=>by simp
      rw[z,z]
     have z:∀l:List γ,l.filter (λy=>(key y==k)&&!(key y==key x))=l.filter (λy=>key y==k):=λl=>by grind
     rw[z,z];exact h k
    have h2:=ih _ _ (by grind) h1;rw[hp,c,h2,h<|key x]
 exact this a.length a b (A3 _) h
end
section
variable (key:γ->Int)
theorem MX:∀{a b:List γ},srt key a->srt key b->Bx key a b->a=b
 |[],b,_,_,h=>(h.nil key).symm
 |x::a,[],_,_,h=>by
  have:=h.len key;simp at this
 |x::a,y::b,ha,hb,h=>by
  have c:key x=key y:=by
   have h1:x∈y::b:=(h.mem key).2 G7;have h2:y∈x::a:=(h.mem key).1 G7;have k1:key y<=key x:=by
    rcases Gi.1 h1 with rfl|h1
    ·exact K6 _
    exact(Ca.1 hb).1 x h1
   have k2:key x<=key y:=by
    rcases Gi.1 h2 with rfl|h2
    ·exact K6 _
    exact(Ca.1 ha).1 y h2
   omega
  have e:=h<|key x;rw[I3 (by simp[c]),I3<|by simp]at e
  injection e with e1 e2
  subst e1;have h':Bx key a b:=by
   intro k;have:=h k
   grind
  rw[MX (Ca.1 ha).2 (Ca.1 hb).2 h']
end
theorem Zg (P S:List γ) (x:γ):gi (P++x::S) (P.length:Nat)=some x:=by grind [Ap]
theorem ACt (P S:List γ) (x y:γ):si (P++x::S) (P.length:Nat) y=P++y::S:=by
 rw[Ew];simp
theorem rE (P M S:List γ) (x y:γ):nY (P++x::(M++y::S)) (P.length:Nat) ((P.length+1+M.length:Nat):Int)=some (P++y::(M++x::S)):=by
 unfold nY
 grind [Zg,ACt]
theorem rF (P S:List γ) (x y:γ):nY (P++x::y::S) ((P.length+1:Nat):Int) (P.length:Nat)=some (P++y::x::S):=by simp_all [nY,gi,si];grind
theorem wC (P S:List γ) (x y:γ):nY (P++x::y::S) (P.length:Nat) ((P.length+1:Nat):Int)=some (P++y::x::S):=by
 have:=rE P [] S x y;simpa using this
theorem Pe:∀(X Y P M S:List γ),X.length=Y.length->P.length+X.length+M.length+Y.length+S.length<=1152921504606846976->
  CH lt (P++X++M++Y++S) (P.length:Nat) ((P.length+X.length+M.length:Nat):Int) (X.length:Nat)=some (P++Y++M++X++S):=by
 have d:∀(n:Nat) (X Y P M S:List γ) (a b c i:Nat),X.length=n->Y.length=n->a+i=P.length->b+i=P.length+n+M.length->c=i+n->P.length+n+M.length+n+S.length<=1152921504606846976->
   Ai (λs:Int×List γ=>D8 lt (a:Int) (b:Int) (c:Int) s.1 s.2) ((i:Int),P++X++M++Y++S)=some (P++Y++M++X++S):=by
  intro n
  induction n with
  |zero=>grind [Ax,D8]
  |succ n ih=>
   intro X Y P M S a b c i hX hY h1 h2 h3 hN
   cases X with
   |nil=>simp at hX
   |cons x X=>
   cases Y with
   |nil=>simp at hY
   |cons y Y=>
   simp only[AD]at hX hY;have hs:nY (P++(x::X)++M++(y::Y)++S) (ad (a:Int) (i:Int)) (ad (b:Int) (i:Int))=some (P++(y::X)++M++(x::Y)++S):=by
    have e1:ad (a:Int) (i:Int)=(P.length:Nat):=by rw[BZ (by omega)<|by omega];omega
    have e2:ad (b:Int) (i:Int)=((P.length+1+(X++M).length:Nat):Int):=by rw[BZ (by omega)<|by omega];grind
    have:=rE P (X++M) (Y++S) x y;rw[e1,e2];simpa using this
   rw[Ax];simp only[D8];rw[Ac (by omega:(i:Int)<c),Al,hs,Aa,ad1<|by omega];have:=ih X Y (P++ [y]) (M++ [x]) S a b c (i+1) (by omega) (by omega) (by simp;omega) (by simp;omega) (by omega) (by simp;omega);simp only[BA,Cl,A5,JM]at this⊢;exact this
 intro X Y P M S e hN;unfold CH;have:=d X.length X Y P M S P.length (P.length+X.length+M.length) X.length 0 rfl e.symm (by omega) (by omega) (by omega)<|by omega
 grind
theorem uC (P A B S:List γ) (hA:A≠ []) (hB:B≠ []) (hN:P.length+A.length+B.length+S.length<=1152921504606846976):
  EJ lt (P++A++B++S) (P.length:Nat) ((P.length+A.length:Nat):Int) ((P.length+A.length+B.length:Nat):Int)=some (P++B++A++S):=by
 have g:∀(m:Nat) (Bd:Int×Int×List γ->Option ((Int×Int×List γ)⊕(Int×List γ))) (d:∀i j l,Bd (i,j,l)=E6 lt (m:Int) i j l) (k:Nat) (P U V S:List γ),U.length+V.length<=k->U≠ []->V≠ []->P.length+U.length=m->P.length+U.length+V.length+S.length<=1152921504606846976->
   ((
    Ai Bd ((U.length:Int),(V.length:Int),P++U++V++S)).bind λv3=>
    (CH lt v3.2 (sb (m:Int) v3.1) (m:Int) v3.1).bind λv4=>some v4)=some (P++V++U++S):=by
  intro m Bd d k
  induction k with
  |zero=>simp_all
  |succ k ih=>
   intro P U V S hk hU hV hm hN;have lU:=Il.2 hU;have lV:=Il.2 hV;rw[Ax];simp only[d,E6];have c:sb (m:Int) (U.length:Int)=(P.length:Nat):=by grind [BL]
   by_cases f:U.length=V.length
   ·have e:((U.length:Int) !=(V.length:Int))=false:=by simp[f]
    rw[e,Ad];simp only[Aa];rw[c];have:=Pe (lt:=lt) U V P [] S f (by simp;omega);simp_all
   have e:((U.length:Int) !=(V.length:Int))=true:=by simp;omega
   rw[e,Al];by_cases n:U.length>V.length
   ·rw[Ac (by omega:(U.length:Int)>V.length),Al,c];have h:U=U.take V.length++U.drop V.length:=(Cs _ _).symm;have a:(U.take V.length).length=V.length:=by simp;omega
    have b:(U.drop V.length).length=U.length-V.length:=by simp
    have:=Pe (lt:=lt) (U.take V.length) V P (U.drop V.length) S a (by grind);rw[a,b,show P.length+V.length+(U.length-V.length)=m by omega]at this;have e3:P++U++V++S=P++U.take V.length++U.drop V.length++V++S:=by grind
    have e4:sb (U.length:Int) (V.length:Int)=((U.drop V.length).length:Int):=by rw[BL (by omega) (by omega),b];omega
    have:=ih (P++V) (U.drop V.length) (U.take V.length) S (by grind) (by grind) (by grind) (by grind)<|by grind
    grind
   rw[Ah (by omega:¬(U.length:Int)>V.length),Ad,c];have a:(V.take<|V.length-U.length).length=V.length-U.length:=by simp
   have b:(V.drop<|V.length-U.length).length=U.length:=by simp;omega
   have:=Pe (lt:=lt) U (V.drop<|V.length-U.length) P (V.take<|V.length-U.length) S b.symm (by grind);rw[a]at this;have e2:sb (ad (m:Int) (V.length:Int)) (U.length:Int)=((P.length+U.length+(V.length-U.length):Nat):Int):=by rw[BZ (by omega) (by omega),BL (by omega)<|by omega];omega
   have e3:P++U++V++S=P++U++V.take (V.length-U.length)++V.drop (V.length-U.length)++S:=by simp
   rw[e2,e3,this,Aa];have e4:sb (V.length:Int) (U.length:Int)=((V.take<|V.length-U.length).length:Int):=by rw[BL (by omega) (by omega),a];omega
   have:=ih P (V.drop<|V.length-U.length) (V.take<|V.length-U.length) (U++S) (by grind) (by grind) (by grind) (by rw[b];omega)<|by grind
   grind [Cs]
 have h1:sb ((P.length+A.length:Nat):Int) (P.length:Nat)=(A.length:Int):=by grind [BL]
 have h2:sb ((P.length+A.length+B.length:Nat):Int) ((P.length+A.length:Nat):Int)=(B.length:Int):=by grind [BL]
 unfold EJ;rw[h1,h2];exact g (P.length+A.length) (λs=>E6 lt ((P.length+A.length:Nat):Int) s.1 s.2.1 s.2.2) (λ_ _ _=>rfl) _ P A B S (A3 _) hA hB rfl hN
def MM (a:γ->Int) (x y:γ):Bool:=decide<|a x<a y
theorem uU (a:γ->Int) (P S:List γ) (y:γ) (B:Int×List γ->Option ((Int×List γ)⊕(List γ))) (hB:∀j l,B (j,l)=AW (MM a) (P.length:Nat) j l):∀(n:Nat) (U V:List γ),U.length=n->srt a U->P.length+U.length+V.length+S.length<=1152921504606846976->
  ∃U1 U2,U=U1++U2/\Ai B (((P.length+U.length:Nat):Int),P++U++y::(V++S))=some (P++U1++y::(U2++V++S))/\(∀v∈U2,a y<a v)/\∀u∈U1,a u<=a y:=by
 intro n
 induction n with
 |zero=>
  intro U V hU _ hN;have:=Bf hU;simp_all [Ax,AW];grind
 |succ n ih=>
  intro U V hU hs hN
  rcases GM U with rfl|⟨U0,z,rfl⟩
  ·simp at hU
  rw[JN]at hU hs hN⊢;simp only[A9,Db]at hU hN;have hl:P.length+(U0++ [z]).length=(P++U0).length+1:=by simp;omega
  have e0:P++(U0++ [z])++y::(V++S)=(P++U0)++z::y::(V++S):=by simp
  have ej:sb (((P++U0).length+1:Nat):Int) 1=((P++U0).length:Nat):=by grind [BL]
  have g1:gi ((P++U0)++z::y::(V++S)) (((P++U0).length+1:Nat):Int)=some y:=by grind [Zg]
  have g2:vR ((P++U0)++z::y::(V++S)) (((P++U0).length+1:Nat):Int) ((P++U0).length:Nat)=some (y,z):=by grind [Zg,vR]
  by_cases b:a y<a z
  ·obtain⟨U1,U2,h1,h2,h3,h4⟩:=ih U0 (z::V) (by omega) (Bc.1 hs).1 (by grind);refine⟨U1,U2++ [z],by rw[h1];simp,?_,?_,h4⟩
   ·rw[Ax,hB];simp only[AW];rw[hl,e0,Ac (by grind:(((P++U0).length+1:Nat):Int)>(P.length:Nat)),Al,ej,g2];simp only[Aa,MM];rw[Ac b,Al,rF,Aa]
    grind
   grind
  refine⟨U0++ [z],[],by simp,?_,by simp,?_⟩
  ·grind [Ax,AW,MM]
  intro u hu
  rcases Az.1 hu with hu|hu
  ·have:=(Bc.1 hs).2.2 u hu z (by simp);omega
  grind
section
variable (key:γ->Int)
theorem Iu (P X S:List γ) (hN:P.length+X.length+S.length<=1152921504606846976):
  ∃X',B4 (MM key) (P++X++S) (P.length:Nat) ((P.length+X.length:Nat):Int)=some (P++X'++S)/\srt key X'/\Bx key X X':=by
 have main:∀(b:Nat) (B:Int×List γ->Option ((Int×List γ)⊕(List γ))),(∀i l,B (i,l)=AS (MM key) (P.length:Nat) (b:Int) i l)->∀(n:Nat) (U V:List γ),V.length=n->P.length+U.length+V.length=b->srt key U->b+S.length<=1152921504606846976->
   ∃X',Ai B (((P.length+U.length:Nat):Int),P++U++V++S)=some (P++X'++S)/\srt key X'/\Bx key (U++V) X':=by
  intro b B hB n
  induction n with
  |zero=>grind [Bx.refl,Ax,AS]
  |succ n ih=>
   intro U V hV hb hs hN
   cases V with
   |nil=>simp at hV
   |cons y V=>
    simp only[AD]at hV hb;obtain⟨U1,U2,h1,h2,h3,h4⟩:=uU key P (V++S) y (λs=>AW (MM key) (P.length:Nat) s.1 s.2) (λ_ _=>rfl) U.length U [] rfl hs (by grind);have hs':srt key (U1++y::U2):=by
     rw[h1]at hs;obtain⟨q1,q2,q3⟩:=Bc.1 hs;refine Bc.2 ⟨q1,Ca.2 ⟨λv hv=>Int.le_of_lt<|h3 v hv,q2⟩,λu hu v hv=>?_⟩
     grind
    have hk:Bx key (U++ [y]) (U1++y::U2):=by
     rw[h1,BA];have:=Bx.swap key (a:=U2) (b:=[y]) (λx hx z hz=>by simp at hz;grind)
     grind [Gl,Bx.refl]
    have c:(U1++y::U2).length=U.length+1:=by grind
    obtain⟨X',r1,r2,r3⟩:=ih (U1++y::U2) V (by omega) (by rw[c];omega) hs' hN;refine⟨X',?_,r2,?_⟩
    ·rw[Ax,hB];simp only[AS];rw[Ac (by omega:((P.length+U.length:Nat):Int)<(b:Int)),Al];have e:P++U++y::V++S=P++U++y::([]++(V++S)):=by simp
     rw[e,h2,Aa,ad1<|by omega];simp only;rw[show P.length+U.length+1=P.length+(U1++y::U2).length by rw[c];omega]
     grind
    refine Bx.trans key ?_ r3
    grind [Gl,Bx.refl]
 unfold B4;rw[ad1<|by omega]
 cases X with
 |nil=>
  refine⟨[],?_,List.Pairwise.nil,Bx.refl key _⟩
  grind [Ax,AS]
 |cons x X=>
  obtain⟨X',h1,h2,h3⟩:=main (P.length+(x::X).length) (λs=>AS (MM key) (P.length:Nat) ((P.length+(x::X).length:Nat):Int) s.1 s.2) (λ_ _=>rfl) X.length [x] X rfl (by simp;omega) (List.pairwise_singleton _ _)<|by omega
  grind
end
end Go.TI
