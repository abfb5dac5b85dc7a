/- What walks of Go code need. No condition. -/
import Derived.Test.YtfbpdjnanpldbaaGreatMYT2
import Derived.Laws.StructEq
import Derived.Laws.Strings
import Derived.Laws.BitsLemmas
set_option linter.unusedSimpArgs false
set_option linter.unusedVariables false
namespace Go.TI
open Go Go.RowKit
theorem Vt:∀t:TV,(Lp t).isSl=t.isSl:=by intro t;cases t<;>rfl
theorem Gv:∀(cs:List TV) (j:Nat),(AF cs)[j]?=cs[j]?.map Lp
 |[],j=>by simp[AF]
 |t::ts,0=>by simp[AF]
 |t::ts,j+1=>by simpa[AF]using Gv ts j
theorem PB:∀(q:List Nat) (cs:List TV),Bp (AF cs) q=(Bp cs q).map AF
 |[],cs=>rfl
 |c::q,cs=>by
  simp only[Bp,Gv]
  cases cs[c]? with
  |none=>rfl
  |some t=>
   cases t with
   |sl o e sz cells=>exact PB q cells
   |_=>rfl
def g8:TV->List TV->TV
 | .sl _ e s _,row=> .sl false e s row
 |t,_=>t
def Wq (cs:List TV) (j:Nat) (a:List TV):List TV:=match cs[j]? with
 |some t=>cs.set j<|g8 t a
 |none=>cs
variable {E E':St} {P:Program} {N i j e sz n s d b t by_:Nat} {Q:Exit->St->Prop} {ops ops2:Array Oper} {β α S V γ σ W S' A β':Type} {w:World} {c y:Code} {dn FA UA q mv:List Nat} {blk:Root->Nat} {o:Oper} {FS US:Root->List Nat} {f sf g:FuncId} {row row' r1:List TV} {fn:Func} {as:List AV} {T T':TypeId} {t':TV} {K:St->Prop} {rest:List Oper} {p:Prop} {r:β} {l:List α} {kk:α->Option β} {s0:S} {body':S'->Option (S'⊕β)} {k:V->Option β} {Am:List γ->OC} {xl:List γ} {fin:α->List TV}
theorem ZX {cs:List TV} {a:List TV} (h:cs[j]?=some (.sl true e s a)) (c:Nat):(Wq cs j (AF a))[c]?=if c=j then some (.sl false e s (AF a))else cs[c]? :=by grind [Wq,g8]
theorem qU {cs:List TV} {a:List TV} (h:cs[j]?=some (.sl true e s a)) (hq:Bp cs q=some r1) (i:Nat):
  ∃r2,Bp (Wq cs j (AF a)) q=some r2/\(r1[i]?.isSome=true->r2[i]?.isSome=true)/\(GJ r1[i]?=true->GJ r2[i]?=true):=by
 cases q with
 |nil=>
  injection hq with hq
  subst hq;refine⟨_,rfl,?_,?_⟩
  ·rw[ZX h]
   grind
  rw[ZX h];split
  ·intro _;rfl
  exact id
 |cons c q=>
  simp only[Bp,ZX h]
  grind [PB,Gv,Vt,Bp,GJ]
theorem VG:∀{ts:List TV} {vs:List Value} {F U:List Nat} {j:Nat} {t:TV},Bj w ts vs F U->ts[j]?=some t->F.Nodup->(∀v F1 U1,CK w t v F1 U1->∃F2 U2,CK w t' v F2 U2/\Dy F1 U1 F2 U2)->
  ∃F' U',Bj w (ts.set j t') vs F' U'/\Dy F U F' U'
 |[],vs,F,U,j,t,h,hj,_,_=>by simp at hj
 |x::ts,vs,F,U,0,t,h,hj,hn,hk=>by
  simp at hj;subst hj;obtain⟨v,a,F1,F2,U1,U2,rfl,rfl,rfl,h1,h2⟩:=h;obtain⟨F1',U1',a1,a2⟩:=hk v F1 U1 h1;exact⟨F1'++F2,U1'++U2,by grind [Bj],Il hn a2 Dy.refl⟩
 |x::ts,vs,F,U,j+1,t,h,hj,hn,hk=>by
  obtain⟨v,a,F1,F2,U1,U2,rfl,rfl,rfl,h1,h2⟩:=h;obtain⟨F2',U2',a1,a2⟩:=VG h2 (by simpa using hj) (BB.1 hn).2.1 hk;exact⟨F1++F2',U1++U2',by grind [Bj],Il hn Dy.refl a2⟩
theorem W4 {a:Act} {blk:Root->Nat}:∀{ts:List TV} {vs:List Value} {F U:List Nat} {j:Nat} {t:TV},BZ w a E blk ts vs F U->ts[j]?=some t->F.Nodup->(∀v F1 U1,CR w a E blk t v F1 U1->∃F2 U2,CR w a E blk t' v F2 U2/\Dy F1 U1 F2 U2)->
  ∃F' U',BZ w a E blk (ts.set j t') vs F' U'/\Dy F U F' U'
 |[],vs,F,U,j,t,h,hj,_,_=>by simp at hj
 |x::ts,vs,F,U,0,t,h,hj,hn,hk=>by
  simp at hj;subst hj;obtain⟨v,b,F1,F2,U1,U2,rfl,rfl,rfl,h1,h2⟩:=h;obtain⟨F1',U1',a1,a2⟩:=hk v F1 U1 h1;exact⟨F1'++F2,U1'++U2,by exact⟨v,b,F1',F2,U1',U2,rfl,rfl,rfl,a1,h2⟩,Il hn a2 Dy.refl⟩
 |x::ts,vs,F,U,j+1,t,h,hj,hn,hk=>by
  obtain⟨v,b,F1,F2,U1,U2,rfl,rfl,rfl,h1,h2⟩:=h;obtain⟨F2',U2',a1,a2⟩:=W4 h2 (by simpa using hj) (BB.1 hn).2.1 hk;exact⟨F1++F2',U1++U2',by exact⟨v,b,F1,F2',U1,U2',rfl,rfl,rfl,h1,a1⟩,Il hn Dy.refl a2⟩
def frE (E:St) (r:Root) (j:Nat) (a:List TV):St:=match E.root r with
 |some cs=>E.setRoot r<|Wq cs j a
 |none=>E
theorem g7 {a:Act} {r:Root} {cs:List TV} {b:List TV} (hr:E.root r=some cs) (hj:cs[j]?=some (.sl true e s b)) (hh:r≠ .hand) (R:Root):BF w w a a E (E.setRoot r (Wq cs j (AF b))) blk blk R:=by
 have d:(E.setRoot r<|Wq cs j<|AF b).ver=E.ver:=by cases r<;>rfl
 have f:(E.setRoot r<|Wq cs j<|AF b).gen=E.gen:=by cases r<;>rfl
 have g:(Wq cs j<|AF b).length=cs.length:=by simp[Wq,hj]
 have c:∀cs0,E.root R=some cs0->∃cs1,(E.setRoot r<|Wq cs j<|AF b).root R=some cs1/\∀q r1,Bp cs0 q=some r1->∀i:Nat,∃r2,Bp cs1 q=some r2/\(r1[i]?.isSome=true->r2[i]?.isSome=true)/\(GJ r1[i]?=true->GJ r2[i]?=true):=by
  intro cs0 h0;by_cases hR:R=r
  ·subst hR;rw[hr]at h0
   injection h0 with h0
   subst h0;refine⟨Wq cs j<|AF b,?_,λq r1 hq i=>qU hj hq i⟩
   cases R with
   |slot n=>
    simp only[St.root,St.setRoot,B3,Cm]at hr⊢
    injection hr with hr
    congr 1
    cases hs:E.slots n with
    |one t=>
     rw[hs]at hr;subst hr;have:(Wq [t] j<|AF b).length=1:=g
     match hf:Wq [t] j (AF b),this with
     |[x],_=>rfl
    |agg ts=>rfl
    |tup ss=>grind [SV.cells]
   |box n=>simp[St.root,St.setRoot,B3]
   |ext n=>simp[St.root,St.setRoot,B3]
   |hand=>exact absurd rfl hh
  refine⟨cs0,?_,λq r1 hq i=>⟨r1,hq,id,id⟩⟩;rw[<-h0];cases r<;>cases R<;>simp only[St.root,St.setRoot,B3]<;>first
   |exact absurd rfl hh
   |rfl
   |grind
   |(rw[BE];intro e;injection e with e;exact hR<|by rw[e])
   |(rw[BE];intro e;cases e)
 constructor
 ·refine .inr ⟨by rw[d],λq i v h1 h2=>⟨h1,?_⟩,λq i ad hq h1 h2=>⟨h1,?_⟩⟩
  ·unfold St.place at h2⊢
   cases h0:E.root R with
   |none=>rw[h0]at h2;cases h2
   |some cs0=>
    rw[h0]at h2;obtain⟨cs1,k1,k2⟩:=c cs0 h0;simp only[Aa]at h2
    cases hc:Bp cs0 q with
    |none=>rw[hc]at h2;cases h2
    |some r1=>
     obtain⟨r2,k3,_,k4⟩:=k2 q r1 hc i
     grind
  unfold St.place at h2⊢
  cases h0:E.root R with
  |none=>grind
  |some cs0=>
   rw[h0]at h2;obtain⟨cs1,k1,k2⟩:=c cs0 h0;simp only[Aa]at h2
   cases hc:Bp cs0 q with
   |none=>grind
   |some r1=>
    obtain⟨r2,k3,k4,_⟩:=k2 q r1 hc i
    grind
 refine .inr ⟨by rw[f],λi ad h1 h2=>⟨h1,?_⟩⟩;unfold St.place at h2⊢
 cases h0:E.root R with
 |none=>grind
 |some cs0=>
  rw[h0]at h2;obtain⟨cs1,k1,k2⟩:=c cs0 h0;obtain⟨r2,k3,k4,_⟩:=k2 [] cs0 rfl i;rw[k1];simp only[Aa,k3];exact k4 h2
section
variable {w0:Base} {a:Act}
theorem Cj.freeze {r:Root} (h:Cj w0 FA UA N w a E blk FS US) {cs:List TV} {c:List TV} (hr:E.root r=some cs) (hj:cs[j]?=some (.sl true e s c)) (hh:r≠ .hand):
  ∃FS' US',Cj w0 FA UA N w a (E.setRoot r (Wq cs j (AF c))) blk FS' US'/\FS' .hand=FS .hand/\US' .hand=US .hand:=by
 have o:=g7 (w:=w) (a:=a) (blk:=blk) hr hj hh;have p:Wq cs j (AF c)=cs.set j (.sl false e s<|AF c):=by grind [Wq,g8]
 have g:∀v F1 U1,CK w (.sl true e s c) v F1 U1->∃F2 U2,CK w (.sl false e s<|AF c) v F2 U2/\Dy F1 U1 F2 U2:=λv F1 U1 h1=>wY h1<|nN.s rfl
 have u:∃F' U',Dy (FS r) (US r) F' U'/\(∀n,r= .slot n->Gr w a (E.setRoot r<|Wq cs j<|AF c) blk ((E.slots n).withCells<|Wq cs j<|AF c) (a.eval<|.tmp n) F' U')/\
   (r.mem=true->∃d T F,w.heap[blk r]?=some (.cells d T (0,0))/\Bj w (Wq cs j<|AF c) d.toList F U'/\F'=blk r::F):=by
  cases r with
  |slot n=>
   injection hr with hr
   have hs:=EW o (h.slot n) (λ_ _=>rfl) λ_ _=>rfl
   cases i:E.slots n with
   |one t=>
    rw[i]at hr hs;simp only[SV.cells]at hr;subst hr;have x:j=0:=by grind
    subst x;simp at hj;subst hj;obtain⟨F2,U2,k1,k2⟩:=g _ _ _ hs.1;refine⟨F2,U2,k2,λm hm=>?_,λhm=>by cases hm⟩
    injection hm with hm
    subst hm;rw[i,p];exact⟨k1,λ_=>hs.2 rfl⟩
   |agg ts=>
    rw[i]at hr hs;simp only[SV.cells]at hr;subst hr;obtain⟨vs,k0,k1⟩:=hs;obtain⟨F2,U2,k2,k3⟩:=W4 (t':= .sl false e s (AF c)) k1 hj (h.nodup _) g;refine⟨F2,U2,k3,λm hm=>?_,λhm=>by cases hm⟩
    grind [SV.withCells,Gr]
   |tup ss=>grind [SV.cells]
  |hand=>exact absurd rfl hh
  |box n=>
   rcases h.box (.box n) rfl with⟨k,_⟩|⟨cs0,d,T,F,k1,k2,k3,k4⟩
   ·grind [St.root]
   simp only[St.root]at hr;rw[k1]at hr
   injection hr with hr
   subst hr;have f:=h.nodup<|.box n;rw[k4]at f;obtain⟨y,l⟩:=CX.1 f;obtain⟨F2,U2,k5,k6⟩:=VG (t':= .sl false e s (AF c)) k3 hj l g;refine⟨blk (.box n)::F2,U2,?_,λm hm=>(by cases hm),λ_=>⟨d,T,F2,k2,by grind,rfl⟩⟩;rw[k4];refine⟨k6.1.cons_cons _,λb hb=>?_⟩
   rcases k6.2 b hb with q|⟨q1,q2⟩
   ·exact .inl q
   grind
  |ext n=>
   rcases h.box (.ext n) rfl with⟨k,_⟩|⟨cs0,d,T,F,k1,k2,k3,k4⟩
   ·grind [St.root]
   simp only[St.root]at hr;rw[k1]at hr
   injection hr with hr
   subst hr;have f:=h.nodup<|.ext n;rw[k4]at f;obtain⟨y,l⟩:=CX.1 f;obtain⟨F2,U2,k5,k6⟩:=VG (t':= .sl false e s (AF c)) k3 hj l g;refine⟨blk (.ext n)::F2,U2,?_,λm hm=>(by cases hm),λ_=>⟨d,T,F2,k2,by grind,rfl⟩⟩;rw[k4];refine⟨k6.1.cons_cons _,λb hb=>?_⟩
   rcases k6.2 b hb with q|⟨q1,q2⟩
   ·exact .inl q
   grind
 obtain⟨F',U',hl,h3,z⟩:=u
 have h0:∀b∈F',b∈FS r:=λb hb=>hl.1.subset hb
 refine⟨B3 FS r F',B3 US r U',?_,by grind [AR],by grind [AR]⟩;have hF:∀R b,b∈B3 FS r F' R->b∈FS R:=by
  intro R b hb;by_cases hR:R=r
  ·grind [Bx]
  grind [AR]
 have hU:∀R b,b∈B3 US r U' R->b∈US R\/(R=r/\b∈FS r/\b∉F'):=by
  intro R b hb;by_cases hR:R=r
  ·subst hR;rw[Bx]at hb
   rcases hl.2 b hb with q|⟨q1,q2⟩
   ·exact .inl q
   grind
  grind [AR]
 constructor
 ·intro n;by_cases hn:r= .slot n
  ·simp_all [St.setRoot,B3]
  rw[AR λe=>hn e.symm,AR λe=>hn e.symm];have h1:(E.setRoot r<|Wq cs j<|AF c).slots n=E.slots n:=by
   cases r with
   |slot m=>simp_all [St.setRoot,B3];grind
   |_=>rfl
  rw[h1];exact EW o (h.slot n) (λ_ _=>rfl) λ_ _=>rfl
 ·intro R hm;by_cases hR:R=r
  ·subst hR;right;obtain⟨d,T,F,k1,k2,k3⟩:=z hm;refine⟨_,d,T,F,?_,k1,by rw[Bx];exact k2,by rw[Bx,k3]⟩
   cases R with
   |slot n=>cases hm
   |hand=>cases hm
   |box n=>simp[St.setRoot,B3]
   |ext n=>simp[St.setRoot,B3]
  rw[AR hR,AR hR];have h1:(E.setRoot r<|Wq cs j<|AF c).boxes R=E.boxes R:=by
   cases r<;>simp only[St.setRoot,B3]<;>first
    |rfl
    |(rw[BE hR])
  rw[h1];exact h.box R hm
 ·have:(E.setRoot r<|Wq cs j<|AF c).boxes .hand=E.boxes .hand:=by
   cases r<;>simp only[St.setRoot,B3]<;>first
    |exact absurd rfl hh
    |rfl
    |(rw[BE<|by simp])
  rw[this];exact h.nohand
 ·intro R;by_cases hR:R=r
  ·subst hR;rw[Bx];exact hl.1.nodup<|h.nodup R
  rw[AR hR];exact h.nodup R
 ·exact λR S h2 b hb hb'=>h.dis R S h2 b (hF R b hb)<|hF S b hb'
 ·intro R S b hb hb'
  rcases hU S b hb' with q|⟨rfl,q1,q2⟩
  ·exact h.disU R S b (hF R b hb) q
  by_cases hR:R=S
  ·grind [Bx]
  exact h.dis R S hR b (hF R b hb) q1
 ·exact λR b hb=>h.inF R b<|hF R b hb
 ·intro R b hb
  rcases hU R b hb with q|⟨rfl,q1,_⟩
  ·exact h.inU R b q
  obtain⟨q2,q3⟩:=h.inF R b q1
  grind
 ·exact h.disA
 ·exact h.os
 ·exact h.tape
 ·exact h.output
 ·exact h.size
 ·exact h.keep
 ·exact h.len
 ·exact h.nodef
 ·exact h.xblk
 ·rw[CI];exact h.ambB
 ·rw[CI];exact h.ambI
 ·rw[FG];exact h.frz
 ·exact h.ambF
 rw[CI];exact h.pin
end
theorem qW {r:Root} (h:MA E r j=some row):∃cs e s,E.root r=some cs/\cs[j]?=some (.sl true e s row)/\frE E r j (AF row)=E.setRoot r (Wq cs j (AF row)):=by grind [Mr,frE]
def Sa:Root->Bool
 | .hand=>false
 |_=>true
theorem NT {r:Root} (h:Sa r=true):r≠ .hand:=by rintro rfl;cases h
theorem RW.fz (r:Root) (j:Nat) (hs:AF row=row') (h:RW P N ops i (frE E r j row') Q) (ho:MA E r j=some row:=by kernel_rfl) (hh:Sa r=true:=by rfl):RW P N ops i E Q:=by
 intro w0 FA UA w a blk FS US hr hF hU;obtain⟨cs,e,s,h1,h2,h3⟩:=qW ho;obtain⟨FS',US',k1,k2,k3⟩:=hr.freeze h1 h2<|NT hh;rw[<-hs,h3]at h;exact h _ _ _ _ _ _ _ _ k1 (by rw[k2,hF])<|by rw[k3,hU]
theorem KW.fz {ts:List Nat} (r:Root) (j:Nat) (hs:AF row=row') (h:KW P N ops ts dn (frE E r j row') Q) (ho:MA E r j=some row:=by kernel_rfl) (hh:Sa r=true:=by rfl):KW P N ops ts dn E Q:=by
 intro hq hc w0 FA UA w a blk FS US hr hF hU;obtain⟨cs,e,s,h1,h2,h3⟩:=qW ho;obtain⟨FS',US',k1,k2,k3⟩:=hr.freeze h1 h2<|NT hh;rw[<-hs,h3]at h;exact h hq hc _ _ _ _ _ _ _ _ k1 (by rw[k2,hF])<|by rw[k3,hU]
theorem Wp.fz (r:Root) (j:Nat) (hs:AF row=row') (h:Wp P N c (frE E r j row') Q) (ho:MA E r j=some row:=by kernel_rfl) (hh:Sa r=true:=by rfl):Wp P N c E Q:=by
 intro w0 FA UA w a blk FS US hr hF hU;obtain⟨cs,e,s,h1,h2,h3⟩:=qW ho;obtain⟨FS',US',k1,k2,k3⟩:=hr.freeze h1 h2<|NT hh;rw[<-hs,h3]at h;exact h _ _ _ _ _ _ _ _ k1 (by rw[k2,hF])<|by rw[k3,hU]
def St.fzs (E:St) (f:Option Nat):St:={E with fz:=f}
theorem fL {a:Act} {f:Option Nat} (r:Root):BF w w a a E (E.fzs f) blk blk r:=by
 have hp:∀q j,(E.fzs f).place r q j=E.place r q j:=λq j=>by cases r<;>rfl
 exact⟨.inr ⟨rfl,λq j v h1 h2=>⟨h1,by rw[hp];exact h2⟩,λq j ad _ h1 h2=>⟨h1,by rw[hp];exact h2⟩⟩,.inr ⟨rfl,λj ad h1 h2=>⟨h1,by rw[hp];exact h2⟩⟩⟩
theorem Cj.fzs {w0:Base} {a:Act} (h:Cj w0 FA UA N w a E blk FS US) (f:Option Nat) (hf:∀n,f=some n->vH w0 a n):Cj w0 FA UA N w a (E.fzs f) blk FS US where
 slot:=λn=>EW fL (h.slot n) (λ_ _=>rfl) λ_ _=>rfl
 box:=h.box
 nohand:=h.nohand
 nodup:=h.nodup
 dis:=h.dis
 disU:=h.disU
 inF:=h.inF
 inU:=h.inU
 disA:=h.disA
 os:=h.os
 tape:=h.tape
 output:=h.output
 size:=h.size
 keep:=h.keep
 len:=h.len
 nodef:=h.nodef
 xblk:=h.xblk
 ambB:=h.ambB
 ambI:=h.ambI
 frz:=hf
 ambF:=h.ambF
 pin:=h.pin
theorem j9 (n:Nat):(2*n+1)/2=n:=by omega
theorem j8 (n:Nat):¬(2*n+1) %2=0:=by omega
def uK (o:Oper):Bool:=match o.op with
 | .buildSlice t len parts=>Nat.beq len 0&&Nat.beq parts.size 0
 |_=>false
theorem wW {a:Act} {nx:Next} {w':World} (hb:uK o=true) (hd:o.dst=some d) (hN:d<N) (hs:Cf P N false E o=some E') (hr:(execOp a.eval o).run P w= .ok nx w'):∃B,nx= .value (.slice B 0 0):=by
 unfold uK at hb;split at hb
 ·rename_i t len parts ho;rw[Ai]at hb;have h1:=AP hb.1;have h2:=AP hb.2;subst h1;have h3:parts= #[]:=Array.eq_empty_of_size_eq_zero h2;subst h3;simp only[Cf,hd,Cl hN,ho,JP]at hs;split at hs
  ·rename_i e hu;split at hs
   ·rename_i zs ss hz b;obtain⟨i,z,hi,c,f,g⟩:=HY (w:=w) hz;simp_all [run_underlying,execOp,Instr.buildSlice,sizeOf,typeInfo,newRow,Instr.fill];grind
   cases hs
  cases hs
 cases hb
def oG (x:Operand):Nat:=match x with
 | .tmp n=>n
 |_=>0
theorem iW {ts:List Nat} (h:KW P N ops ts (i::dn) (((Cf P N false E (oA ops i)).getD E).fzs (some (2*((oA ops i).dst.getD 0)+1))) Q) (hs:(Cf P N false E (oA ops i)).isSome=true:=by kernel_rfl) (hk:(OE P ops E i&&uK (oA ops i)&&Gn N (oA ops i))=true:=by kernel_rfl):KB P N ops ts dn i E Q:=by
 have hs':=getD_some (a:=E) hs;simp only[Ai]at hk;obtain⟨h1,h2⟩:=FL hk.1.1;obtain⟨d,h3,_,h4⟩:=DD hk.2;rw[h3]at h;simp only[Ft]at h;have b:kp (oA ops i)=true:=by grind [uK,kp]
 intro w0 FA UA w a blk FS US hr hF hU;unfold wpOp;simp only[Gl h1,B6 hr h2,Cm];obtain⟨nx,w',v,blk',FS',US',k1,k2,k3,k4,k5,k6⟩:=OO hr hF hU hs';obtain⟨B,hB⟩:=wW (N:=N) hk.1.2 h3 h4 hs' k1;have hv:v= .slice B 0 0:=by grind
 refine .inl ?_;unfold Oper.wp;rw[k1,hB];refine⟨λ_=>k6 b,_,blk',FS',US',h,?_,k4,k5⟩;rw[hv]at k3;refine k3.fzs _ λn hn=>?_
 injection hn with hn
 subst hn;unfold vH;rw[BE<|j8 d,j9 d,h3];refine⟨B,?_⟩;have:=k3.len;simp only[Act.eval,Act.put];rw[Array.getD_eq_getD_getElem?];have hl:=hr.len
 grind
theorem KB.a {ts:List Nat} (hs:Cf P N false E (oA ops i)=some E') (h:KW P N ops ts (i::dn) (E'.fzs none) Q) (hk:(OE P ops E i&&uL (oA ops i)&&Nat.beq (FX (oA ops i)).1 (FX (oA ops i)).2.1&&Gn N (oA ops i))=true:=by kernel_rfl) (hx:(FX<|oA ops i).2.2.1= .tmp (oG (FX<|oA ops i).2.2.1):=by kernel_rfl) (hz:E.fz=some (2*oG (FX<|oA ops i).2.2.1+1):=by kernel_rfl):KB P N ops ts dn i E Q:=by
 simp only[Ai]at hk;obtain⟨⟨⟨h0,h5⟩,h6⟩,h7⟩:=hk;obtain⟨h1,h2⟩:=FL h0;obtain⟨d,h3,_,h4⟩:=DD h7;have c:=AP h6;have ho:=kM h5;rw[<-c]at ho;intro w0 FA UA w a blk FS US hr hF hU;unfold wpOp;simp only[Gl h1,B6 hr h2,Cm];have he:Li P E d (FX<|oA ops i).1 (FX<|oA ops i).2.2.1 (FX<|oA ops i).2.2.2=some E':=by grind [Cf]
 obtain⟨nx,w',v,blk',FS',US',k1,k2,k3,k4,k5,_,k6⟩:=S8 hr hF hU ho h3 h4 he;have b:=hr.frz _ hz;unfold vH at b;rw[BE<|j8 _,j9,<-hx]at b;obtain⟨B,hB⟩:=b;refine .inl ?_;unfold Oper.wp;rw[k1]
 rcases k2 with rfl|⟨rfl,rfl⟩
 ·exact⟨λ_=>k6 B hB,_,blk',FS',US',h,k3.fzs none (λn hn=>by cases hn),k4,k5⟩
 exact⟨λ_=>k6 B hB,_,blk',FS',US',h,k3.fzs none (λn hn=>by cases hn),k4,k5⟩
def rm (k:IntKind) (a b:Int):Option Int:=if b=0 then none else some<|a.tmod b
def yI (k:IntKind) (a b:Int):Int:=k.wrap (BitVec.ofInt k.bits a&&&BitVec.ofInt k.bits b).toNat
def bxo (k:IntKind) (a b:Int):Int:=k.wrap (BitVec.ofInt k.bits a^^^BitVec.ofInt k.bits b).toNat
def vR (P:Program) (E:St) (o:Oper) (k:IntKind) (q:Bool):Option (Int×Int):=match o.op with
 | .binOp op t x y _=>bif(match op with| .rem=>!q| .quo=>q|_=>false)then(match E.cell1 P t x,E.cell1 P t y with
  |some (.int k' a),some (.int k'' b)=>bif decide (k'=k)&&decide (k''=k)then some (a,b)else none
  |_,_=>none)else none
 |_=>none
theorem prm {k:IntKind} {a b v:Int} (hx:rm k a b=some v) (hc:vR P E o k false=some (a,b):=by kernel_rfl):AK P E o=some (.one<|.int k v):=by
 unfold vR at hc;split at hc
 ·rename_i op t x y t' ho;cases op<;>simp only[DF,Ak,Ad,reduceCtorEq]at hc;split at hc
  ·grind [rm,AK,Tp,TW,qM]
  cases hc
 cases hc
def aU (P:Program) (f:FuncId) (as:List AV) (a:List TV):Prop:=∀(w:World) (vs:List Value) (FA UA:List Nat),Jf w as vs FA UA->FA.Nodup->(∀b∈FA,b∉UA)->(∀b∈FA++UA,b<w.heap.size)->
  Calls P f vs.toArray w λe w'=>∃v F U G V,e= .returned v/\r8 w w' FA UA (.tup []) [.ext a] [v] (.tuple #[]) F U G V
theorem gkp {cells:List TV} (hf:P.funcs[f]?=some fn) (hb:fn.body=some c) (hN:fn.ntmps=N) (h:Wp P N c (CU as) λe E=>(e= .normal\/e= .ret)/\∃t r,fn.results.toList=[.tmp t]/\E.ptr? (.tmp t)=some (r,[],0)/\r.mem=true/\E.boxes r=some cells) (s:cells.isEmpty=false:=by rfl):aU P f as cells:=by
 subst hN;intro w vs FA UA ha l j m;obtain⟨blk,FS,US,hr,hF,hU⟩:=PE (N:=fn.ntmps) ha l j m (A:=OC.none) (fz:=none) trivial (λb hb=>by cases hb);refine calls_of_wp hf hb<|wp_mono (h _ _ _ _ _ _ _ _ hr hF hU) ?_;rintro e a w' ⟨E,blk',FS',US',⟨he,t,r,h1,h2,h3,h4⟩,k3,h5,h6⟩;obtain⟨u,ad,i,o⟩:=IN k3 h2;have p:ad=⟨blk' r,0,none⟩:=by
  cases r with
  |slot n=>cases h3
  |hand=>cases h3
  |box n=>injection i with i;grind [Addr.add]
  |ext n=>injection i with i;grind [Addr.add]
 obtain⟨d,T,F3,b2,b3,b4⟩:∃d T F3,w'.heap[blk' r]?=some (.cells d T (0,0))/\Bj w' cells d.toList F3 (US' r)/\FS' r=blk' r::F3:=by
  rcases k3.box r h3 with⟨q,_⟩|⟨cs,d,T,F3,q1,q2,q3,q4⟩
  ·grind
  grind
 have hne':cells≠ []:=by grind
 have k:(fn.results.toList.mapM<|NO P a.tmps).run P w'= .ok [a.eval<|.tmp t] w':=by
  rw[h1,List.mapM_cons];rfl
 have g:a.defers=[]/\∃v,(results fn a.tmps).run P w'= .ok v w'/\∃v' F U G V,Ending.returned v= .returned v'/\r8 w w' FA UA (.tup []) [.ext cells] [v'] (.tuple #[]) F U G V:=by
  refine⟨k3.nodef,_,Mo k,a.eval<|.tmp t,[],[],FS' r,US' r,by simp,?_⟩
  exact{
   res:=by grind [aW,SE]
   fin:=⟨_,[],FS' r,[],US' r,[],rfl,by simp,by simp,⟨blk' r,d,T,F3,by rw[o,p],b2,b3,b4,hne'⟩,⟨rfl,rfl,rfl⟩⟩
   nodup:=by simpa using k3.nodup r
   dis:=λb hb hb'=>k3.disU r r b (by simpa using hb)<|by simpa using hb'
   inF:=λb hb=>k3.inF r b<|by simpa using hb
   inU:=λb hb=>k3.inU r b<|by simpa using hb
   os:=k3.os
   tape:=k3.tape
   output:=k3.output
   size:=k3.size
   keep:=λb hb hF=>k3.keep b hb hF (λe=>by cases e)}
 rcases he with rfl|rfl
 ·exact g
 exact g
section
variable {w0:Base} {a:Act}
theorem rJ {l:List (Bool×TypeId×Operand)} {ss:List (Option SV)} {E1:St} {c:Bool} {K:Act->World->Prop} {Q:Exit->Act->World->Prop} (h:Cj w0 FA UA N w a E blk FS US) (hF:FS .hand=[]) (hU:US .hand=[]) {args:Array Operand} {tys:Array TypeId} (ho:o.op= .call {callee:= .value (.func f),args:=args,argTypes:=tys}) (hf:Xr P f) (hd:o.dst=some d) (hN:d<N) (hl:l.map (λx=>x.2.2)=args.toList) {i:List TV} (hg:aU P f as i) (h1:L9 P E l=some (ss,E1)) (h2:Hs P E1 l ss=some (as,c)) (h3:c=true\/Aw i=false) (hK:∀w' v blk' FS' US',Cj w0 FA UA N w' (a.put (some d) v) (E1.newBox d i) blk' FS' US'->FS' .hand=[]->US' .hand=[]->K (a.put (some d) v) w'):o.wp P a w K Q:=by
 obtain⟨FS1,US1,F,U,k1,k2,k3,k4,_⟩:=NU h h1;rw[hF,A0]at k3;rw[hU,A0]at k4;obtain⟨U',k5,k6⟩:=Jj k2 k1 h2;have y:l.map (λx=>a.eval x.2.2)=(args.map a.eval).toList:=by
  rw[Nm,<-hl,HI];rfl
 rw[y]at k5;have m:∀b∈F,b∉U':=by
  intro b hb hb';rw[<-k3]at hb
  rcases k6 b hb' with h4|⟨r,h4⟩|⟨_,r,h5,h4⟩
  ·rw[<-k4]at h4;exact k2.disU .hand .hand b hb h4
  ·exact k2.disU .hand r b hb h4
  exact k2.dis .hand r (I1 h5) b hb h4
 have k:=hg w _ F U' k5 (by rw[<-k3];exact k2.nodup .hand) m (by
  intro b hb
  rcases A7.1 hb with hb|hb
  ·exact(k2.inF .hand b (by rw[k3];exact hb)).2
  rcases k6 b hb with h4|⟨r,h4⟩|⟨_,r,h5,h4⟩
  ·exact(k2.inU .hand b (by rw[k4];exact h4)).2
  ·exact(k2.inU r b h4).2
  exact(k2.inF r b h4).2)
 unfold Oper.wp;rw[GG ho hf];simp only[Oper.upon];rw[Array.toArray_toList]at k;refine Calls.mono k ?_;rintro e w' ⟨v,Fr,Ur,G,V,rfl,g⟩;obtain⟨v0,vs0,G1,G2,V1,V2,p,rfl,rfl,⟨b0,z,T,F0,rfl,e1,e2,rfl,e3⟩,⟨rfl,rfl,rfl⟩⟩:=g.fin
 injection p with p _
 subst p;have q:=g.res;simp only[aW,SE]at q;obtain⟨_,_,_,rfl,rfl⟩:=q;have t:=g.nodup;simp only[A0,AW]at t;have a1:∀b∈b0::F0,(b∈FS1 .hand\/w.heap.size<=b)/\b<w'.heap.size:=by
  intro b hb;have:=g.inF b<|by simpa using hb
  grind
 have h8:∀b∈V1,(∃s,b∈US1 s)\/((b∈FS1 .hand\/w.heap.size<=b)/\b∉b0::F0/\b<w'.heap.size):=by
  intro b hb;obtain⟨h4,h5⟩:=g.inU b<|by simpa using hb
  have h9:b∉b0::F0:=λe=>g.dis b (by simpa using e)<|by simpa using hb
  grind [IM]
 have j:∀b,b<w.heap.size->b∉FS1 .hand->w'.heap[b]?=w.heap[b]? :=λb hb u=>g.keep b hb<|by grind
 let E2:St:={E1 with boxes:=B3 E1.boxes (.box d)<|some i,ver:=B3 E1.ver (.box d)<|E1.ver (.box d)+1,gen:=B3 E1.gen (.box d) (E1.gen (.box d)+1)}
 let blk1:=B3 blk (.box d) b0
 have h0:Root.box d≠Root.hand:=by simp
 have h6:∀s,BF w w' a a E1 E2 blk blk1 s:=by
  intro s;by_cases hs:s= .box d
  ·subst hs;exact⟨.inl (by simp[E2,B3]),.inl<|by simp[E2,B3]⟩
  have hv:E2.ver s=E1.ver s:=by grind [B3]
  have hg:E2.gen s=E1.gen s:=by grind [B3]
  by_cases hh:s= .hand
  ·subst hh;exact E7 hv hg<|by simp[St.root,k2.nohand]
  refine Dd k2 hv hg ?_ (λ_ _=>rfl) (λ_=>by grind [B3]) (λb hb=>j b (k2.inF s b hb).2<|k2.dis s .hand hh b hb) λb hb=>j b (k2.inU s b hb).2 λe=>k2.disU .hand s b e hb;cases s<;>simp_all [E2,St.root,B3]
 have g1:=k2.two (w':=w') (a':=a) (E':=E2) (blk':=blk1) (r1:= .box d) (r2:= .hand) (L1:=b0::F0) (L2:=[]) (V1:=V1) (V2:=[]) h0
  (by simpa using t)
  (λb hb=>by grind)
  (λb hb=>by grind)
  g.size g.os g.tape g.output (λb hb _ u=>j b hb u) h6
  (λn _ _=>⟨rfl,rfl⟩)
  (λs _ hs _=>⟨by grind [B3],by grind [B3]⟩)
  (.inr ⟨i,z,T,F0,by simp[E2,B3],by grind [B3],e2,by simp[blk1,B3]⟩)
  trivial (by simp[E2,B3,k2.nohand]) k2.len k2.nodef (hfz:=λn hn=>k2.frz n hn)
 have h7:Gr w' a E2 blk1 (.one<|.ptr (.box d) (E2.gen<|.box d) [] 0) (.pointer<|some ⟨b0,0,none⟩) [] []:=by
  have a0:E2.stamp (.box d) []=E2.gen (.box d):=rfl
  grind [RY,St.place,St.root,B3,Bp,pa,Addr.add]
 have g2:=g1.put (d:=d) hN h7 WM.none;have:=hK w' _ blk1 _ _ g2 (by rfl)<|by rfl
 grind
end
theorem AAt {l:List AV} {x:Option α} (h:x.bind kk=some r) {b:α->List TV} (e:∀v,x=some v->aU P (Nc (oA ops i)) l (b v)) (hk:∀v,x=some v->kk v=some r->RW P N ops (i+1) ((sL P E (oA ops i) 0).newBox ((oA ops i).dst.getD 0) (b v)) Q) (hsh:Ui P E (oA ops i) 0=some l:=by kernel_rfl) (hc:sH P E (oA ops i) 0=true:=by kernel_rfl) (ho:(OE P ops E i&&Qz P N (oA ops i)&&Gn N (oA ops i))=true:=by kernel_rfl):RW P N ops i E Q:=by
 obtain⟨v,hv,h⟩:=Ae.1 h;simp only[Ai]at ho;obtain⟨h1,h2⟩:=FL ho.1.1;obtain⟨args,tys,h3,h4,h5,h6⟩:=M1 ho.1.2;obtain⟨d,h7,_,h8⟩:=DD ho.2;have c:=hk v hv h;rw[h7]at c;unfold RW;rw[EU h1];intro w0 FA UA w a blk FS US hr hF hU;simp only[wpList,B6 hr h2,Cm];unfold Ui sH zL at*;unfold sL at c
 cases hm:z7 P E (oA ops i) 0 with
 |none=>grind
 |some z=>
  obtain⟨ss,E1⟩:=z;rw[hm]at hsh hc c;simp only at hsh hc c
  cases hs:Hs P E1 (bits 0<|Eg<|oA ops i) ss with
  |none=>grind
  |some y=>
   rw[hs]at hsh hc
   injection hsh with hsh
   subst hsh;refine .inl<|rJ hr hF hU h3 h4 h7 h8 (l:=bits 0<|Eg<|oA ops i) (by rw[Nf,h6]) (e v hv) hm hs (.inl hc) λw' v' blk' FS' US' k1 k2 k3=>c _ _ _ _ _ _ _ _ k1 k2 k3
theorem rsp {rs:List ResultVar} {a:List TV} (t:Nat) (h1:rs=[.tmp t]) (h:(match E.ptr? (.tmp t)with
 |some (r,[],0)=>bif r.mem then E.boxes r else none
 |_=>none)=some a):∃t r,rs=[.tmp t]/\E.ptr? (.tmp t)=some (r,[],0)/\r.mem=true/\E.boxes r=some a:=by grind
def zH (N:Nat) (E:St) (o:Oper):Option St:=match o.op,o.dst with
 | .extract t ix,some d=>bif Nat.blt d N then LJ E d t ix else none
 |_,_=>none
theorem wP {w0:Base} {a:Act} (h:Cj w0 FA UA N w a E blk FS US) (hF:FS .hand=[]) (hU:US .hand=[]) (he:zH N E o=some E'):
  ∃v blk' FS' US',(∀w2,(execOp a.eval o).run P w2= .ok (.value v) w2)/\Cj w0 FA UA N w (a.put o.dst v) E' blk' FS' US'/\FS' .hand=[]/\US' .hand=[]:=by
 unfold zH at he;split at he
 ·rename_i t ix d ho hd
  cases hN:Nat.blt d N with
  |false=>grind
  |true=>
   rw[hN]at he;have hN':d<N:=by simp_all
   obtain⟨nx,w',v,blk',FS',US',k1,k2,k3,k4,k5,_⟩:=D9.extract (P:=P) h hF hU ho hd hN' he;have e:∃x,∀w2,(execOp a.eval o).run P w2= .ok (.value x) w2:=by
    unfold LJ at he;split at he
    ·rename_i n;split at he
     ·rename_i ss b;split at he
      ·rename_i s c;have hs:=h.slot n;rw[b]at hs;obtain⟨vs,f,hx⟩:=hs;obtain⟨v,A,B,C,D,F1,U1,h1,h2,h3,h4,h5⟩:=Vd ix hx c;simp_all [execOp,Instr.extract];grind
      cases he
     cases he
    cases he
   grind
 cases he
theorem Nk {ts:List Nat} (i:Nat) (h:KW P N ops ts (i::dn) ((zH N E (oA ops i)).getD E) Q) (hs:(zH N E (oA ops i)).isSome=true:=by kernel_rfl) (hk:(OE P ops E i&&lF ops ts dn i)=true:=by kernel_rfl):KW P N ops ts dn E Q:=by
 have hs':=getD_some (a:=E) hs;simp only[Ai,lF]at hk;obtain⟨h1,h3,h4⟩:=hk;obtain⟨h5,h6⟩:=FL h1;unfold KW at h⊢;rw[Qa (i:=i) h3];intro hQ hc w0 FA UA w a blk FS US k1 k2 k3;obtain⟨e1,e2,e3,e4,e5⟩:=Sw h4;obtain⟨v,blk',FS',US',g1,g2,g3,g4⟩:=wP (P:=P) k1 k2 k3 hs';refine KK (v:=v) (n:=ops.size) (Gl h5) (Region.noSelect_spec e1) (λc a w hx=>?_) e4 e5 _ _ a w hc (Region.free_spec (Gl h5) e2) e3 (.inl ⟨B6 k1 h6,λw2 _=>g1 w2⟩) ?_
 ·obtain⟨E',blk',FS',US',m1,_⟩:=hx
  grind
 exact h hQ (HV hc e3) _ _ _ _ _ _ _ _ g2 g3 g4
def WJ (P:Program) (E:St) (o:Oper) (s:SV):Prop:=∀(N:Nat) (w0:Base) (FA UA:List Nat) (w:World) (a:Act) (blk:Root->Nat) (FS US:Root->List Nat),Cj w0 FA UA N w a E blk FS US->DQ P w a E blk FS US o s
theorem ABb {s:SV} (hp:WJ P E (oA ops i) s) (h:RW P N ops (i+1) (E.put (oA ops i).dst s) Q) (hk:(OE P ops E i&&Gn N (oA ops i))=true:=by kernel_rfl):RW P N ops i E Q:=by
 rw[Ai]at hk;obtain⟨h1,h2⟩:=FL hk.1;obtain⟨d,h3,_,h4⟩:=DD hk.2;rw[h3]at h;unfold RW;rw[EU h1];intro w0 FA UA w a blk FS US hr hF hU;simp only[wpList,B6 hr h2,Cm];exact .inl<|(J6 hr hF hU (hp _ _ _ _ _ _ _ _ _ hr) h3 h4).wp λw' v blk' FS' US' k1 k2 k3 _=>h _ _ _ _ _ _ _ _ k1 k2 k3
theorem AA9 {m:Nat} {s:SV} (hp:WJ P E (oA ops i) s) (h:SW P N ops m (i+1) (E.put (oA ops i).dst s) K) (hk:(OE P ops E i&&Gn N (oA ops i)&&Nat.blt i m)=true:=by kernel_rfl):SW P N ops m i E K:=by
 simp only[Ai]at hk;obtain⟨h1,h2⟩:=FL hk.1.1;obtain⟨d,h3,_,h4⟩:=DD hk.1.2;rw[h3]at h;unfold SW;rw[Ot h1 hk.2];intro w0 FA UA w a blk FS US k1 k2 k3;obtain⟨v,U,g1,g2,g3⟩:=hp _ _ _ _ _ _ _ _ _ k1;have hr:=g1 w λr _=>⟨λ_ _=>rfl,λ_ _=>rfl⟩;simp only[wpStill,B6 k1 h2,Cm,Oper.still,hr,Oper.stillUpon_value];rw[h3];refine h _ _ _ _ _ _ _ _ (k1.put h4 g2<|Lh k1 g3 _) ?_ ?_
 ·grind [AR]
 grind [AR]
theorem ABJ {ts:List Nat} {s:SV} (i:Nat) (hp:WJ P E (oA ops i) s) (h:KW P N ops ts (i::dn) (E.put (oA ops i).dst s) Q) (hk:(OE P ops E i&&Gn N (oA ops i)&&lF ops ts dn i)=true:=by kernel_rfl):KW P N ops ts dn E Q:=by
 simp only[Ai,lF]at hk;obtain⟨⟨h1,h2⟩,h3,h4⟩:=hk;obtain⟨h5,h6⟩:=FL h1;obtain⟨d,h7,_,h8⟩:=DD h2;unfold KW at h⊢;rw[Qa (i:=i) h3];rw[h7]at h;intro hQ hc w0 FA UA w a blk FS US k1 k2 k3;obtain⟨e1,e2,e3,e4,e5⟩:=Sw h4;obtain⟨v,U,g1,g2,g3⟩:=hp _ _ _ _ _ _ _ _ _ k1;refine KK (v:=v) (n:=ops.size) (Gl h5) (Region.noSelect_spec e1) (λc a w hx=>?_) e4 e5 _ _ a w hc (Region.free_spec (Gl h5) e2) e3 (.inl ⟨B6 k1 h6,λw2 e=>?_⟩) ?_
 ·obtain⟨E',blk',FS',US',m1,_⟩:=hx
  grind
 ·exact g1 w2 λr hr=>⟨λb hb=>e.2 b (k1.inF r b hb).2,λb hb=>e.2 b (k1.inU r b hb).2⟩
 rw[h7];refine h hQ (HV hc e3) _ _ _ _ _ _ _ _ (k1.put h8 g2<|Lh k1 g3 _) ?_ ?_
 ·grind [AR]
 grind [AR]
def AAb (o:Oper):Bool:=match o.op with
 | .assign (.const _)| .move (.const _)=>true
 |_=>false
theorem pjk (h:AAb o=true:=by kernel_rfl):WJ P E o (.one .junk):=by
 intro N w0 FA UA w a blk FS US hr;unfold AAb at h;split at h
 ·rename_i v ho;exact⟨v,[],λw2 _=>by simp_all [execOp,Act.eval],by simp[Gr,CR,TV.isJunk],by simp⟩
 ·rename_i v ho;exact⟨v,[],λw2 _=>by simp_all [execOp,Act.eval],by simp[Gr,CR,TV.isJunk],by simp⟩
 cases h
def qY (P : Program) (f : Field) (j : Nat) (x y : TV) : Option Bool := bif (f.name != "_") && Nat.beq f.offset j then (match P.underlying f.type, x, y with
 |some (.int _),.int k a,.int k' b=>bif decide (k=k')then some (a==b)else none
 |some .bool,.bool a,.bool b=>some<|a==b
 |some .string,.str a,.str b=>some<|a.toList==b.toList
 |_,_,_=>none)else none
def VE (P:Program):List Field->Nat->List TV->List TV->Option Bool
 |[],_,[],[]=>some true
 |f::fs,j,x::xs,y::ys=>match qY P f j x y,VE P fs (j+1) xs ys with
  |some b,some c=>some (b&&c)
  |_,_=>none
 |_,_,_,_=>none
def M0 (o:Oper):Bool×TypeId×Operand×Operand:=match o.op with
 | .binOp .eql t x y _=>(false,t,x,y)
 | .binOp .neq t x y _=>(true,t,x,y)
 |_=>(false,0,.tmp 0,.tmp 0)
def qL (o:Oper):Bool:=match o.op with
 | .binOp .eql .. | .binOp .neq .. =>true
 |_=>false
def oE (P:Program) (t:TypeId):Bool:=(match P.underlying t with
 |some (.struct _)=>true
 |_=>false)&&!P.stoodInHeld t&&!P.eqGuardType P.depth t
def wG (P:Program) (E:St) (o:Oper):Option Bool:=bif qL o&&oE P (M0 o).2.1 then(match E.val P (M0 o).2.1 (M0 o).2.2.1,E.val P (M0 o).2.1 (M0 o).2.2.2 with
 |some (.agg xs),some (.agg ys)=>VE P (P.fieldsOf (M0 o).2.1).toList 0 xs ys
 |_,_=>none)else none
theorem uT {f:Field} {r:Bool} {vx vy:Value} {F U F' U':List Nat} {a:Act} {blk:Root->Nat} {X Y:Array Value} (d:Nat) {x y:TV} (h:qY P f j x y=some r) (hx:CR w a E blk x vx F U) (hy:CR w a E blk y vy F' U') (kx:X[j]?=some vx) (ky:Y[j]?=some vy):
  f.name ≠ "_" ∧ ∃ a b, (∀ w2 : World, (part f.type X f.offset).run P w2 = .ok a w2) ∧ (∀ w2 : World, (part f.type Y f.offset).run P w2 = .ok b w2) ∧ ∀ w2 : World, (Op.equalIn (d + 1) f.type a b).run P w2 = .ok r w2 := by
 unfold qY at h
 cases hb : (f.name != "_" && Nat.beq f.offset j) with
 |false=>rw[hb]at h;cases h
 |true=>
  rw[hb]at h;rw[Ai]at hb;have hj:=AP hb.2;subst hj;refine⟨by simpa using hb.1,?_⟩;split at h
  ·rename_i k k1 n1 k2 n2 hu
   cases hk:decide (k1=k2)with
   |false=>rw[hk]at h;cases h
   |true=>
   rw[hk]at h;have c:=of_decide_eq_true hk;subst c
   injection h with h
   subst h;obtain⟨rfl,_,_⟩:=hx;obtain⟨rfl,_,_⟩:=hy;exact⟨_,_,λw2=>run_part_plain w2 (e:=f.type) (by simp[Program.plainKey,hu]) kx,λw2=>run_part_plain w2 (e:=f.type) (by simp[Program.plainKey,hu]) ky,λw2=>run_equalIn_int w2 d f.type k1 k n1 n2 hu⟩
  ·rename_i b1 b2 hu
   injection h with h
   subst h;obtain⟨rfl,_,_⟩:=hx;obtain⟨rfl,_,_⟩:=hy;exact⟨_,_,λw2=>run_part_plain w2 (e:=f.type) (by simp[Program.plainKey,hu]) kx,λw2=>run_part_plain w2 (e:=f.type) (by simp[Program.plainKey,hu]) ky,λw2=>run_equalIn_bool' w2 d f.type b1 b2 hu⟩
  ·rename_i s1 s2 hu
   injection h with h
   subst h;obtain⟨rfl,_,_⟩:=hx;obtain⟨rfl,_,_⟩:=hy;exact⟨_,_,λw2=>run_part_plain w2 (e:=f.type) (by simp[Program.plainKey,hu]) kx,λw2=>run_part_plain w2 (e:=f.type) (by simp[Program.plainKey,hu]) ky,λw2=>run_equalIn_string w2 d f.type s1 s2 hu⟩
  cases h
theorem XX {a:Act} {blk:Root->Nat} {X Y:Array Value} (d:Nat):∀{fs:List Field} {j:Nat} {xs ys:List TV} {vx vy:List Value} {F U F' U':List Nat} {r:Bool},VE P fs j xs ys=some r->BZ w a E blk xs vx F U->BZ w a E blk ys vy F' U'->
  (∀i v,vx[i]?=some v->X[j+i]?=some v)->(∀i v,vy[i]?=some v->Y[j+i]?=some v)->∀w2:World,(Op.eqFields (d+1) X Y fs).run P w2= .ok r w2
 |[],j,xs,ys,vx,vy,F,U,F',U',r,h,hx,hy,kx,ky,w2=>by
  cases xs<;>cases ys<;>simp only[VE,reduceCtorEq,Ax]at h;subst h;rfl
 |f::fs,j,xs,ys,vx,vy,F,U,F',U',r,h,hx,hy,kx,ky,w2=>by
  cases xs with
  |nil=>simp[VE]at h
  |cons x xs=>
   cases ys with
   |nil=>simp[VE]at h
   |cons y ys=>
    simp only[VE]at h;split at h
    ·rename_i b c h1 h2
     injection h with h
     subst h;obtain⟨v,vs,F1,F2,U1,U2,rfl,_,_,e1,e2⟩:=hx;obtain⟨v',e,F1',F2',U1',U2',rfl,_,_,e1',e2'⟩:=hy;obtain⟨g1,A,B,g2,g3,g4⟩:=uT (X:=X) (Y:=Y) d h1 e1 e1' (kx 0 v rfl)<|ky 0 v' rfl;have ih:=XX d h2 e2 e2' (λi u hu=>by rw[S5,iU 1 i];exact kx (i+1) u<|by simpa using hu) (λi u hu=>by rw[S5,iU 1 i];exact ky (i+1) u<|by simpa using hu) w2;simp only[Op.eqFields,Cl g1,Sem.run_bind,g2,g3,g4,Result.andThen_ok];cases b
     ·simp
     simpa using ih
    cases h
theorem peq {b:Bool} (h:wG P E o=some b):WJ P E o (.one (.bool (bif(M0 o).1 then !b else b))):=by
 intro N w0 FA UA w a blk FS US hr;unfold wG at h
 cases hb:(qL o&&oE P (M0 o).2.1)with
 |false=>rw[hb]at h;cases h
 |true=>
  rw[hb]at h;rw[Ai]at hb;split at h
  ·rename_i xs ys hx hy;obtain⟨U1,k1,_⟩:=I3 hr hx;obtain⟨U2,k2,_⟩:=I3 hr hy;obtain⟨vx,e1,c1⟩:=k1;obtain⟨vy,e2,c2⟩:=k2;have hT:=hb.2;simp only[oE,Ai,DG]at hT;have e:P.underlying (M0 o).2.1=some (.struct<|P.fieldsOf (M0 o).2.1):=by
    have:=hT.1.1;split at this
    ·rename_i fs f;simp only[Program.fieldsOf,f]
    cases this
   have c:∀w2:World,(Op.equalIn 10000 (M0 o).2.1 (.agg vx.toArray)<|.agg vy.toArray).run P w2= .ok b w2:=λw2=>by
    rw[run_equalIn_struct w2 9999 _ _ _ e hT.1.2];exact XX (X:=vx.toArray) (Y:=vy.toArray) 9998 h c1 c2 (λi v hv=>by simpa using hv) (λi v hv=>by simpa using hv) w2
   refine⟨.bool<|bif(M0 o).1 then !b else b,[],λw2 _=>?_,by simp[Gr,CR,CK,Value.cells],by simp⟩;have d:=hb.1;unfold qL at d;split at d
   ·rename_i t x y t' ho;simp only[M0,ho]at e1 e2 c hT⊢;simp[execOp,ho,e1,e2,run_eqGuard_agg w2 _ _ _ _ _ _ hT.2,run_eql_struct,c w2]
   ·rename_i t x y t' ho;simp only[M0,ho]at e1 e2 c hT⊢;simp[execOp,ho,e1,e2,run_eqGuard_agg w2 _ _ _ _ _ _ hT.2,run_neq_struct,c w2]
   cases d
  cases h
abbrev pb (n:Nat):SV:= .one (.ptr (.box n) 0 [] 0)
abbrev px (n:Nat):SV:= .one (.ptr (.ext n) 0 [] 0)
abbrev i6 (n:Int):TV:= .int .i64 n
abbrev tb (b:Bool):TV:= .bool b
abbrev ts (s:ByteArray):TV:= .str s
abbrev rg (n:Nat):List AV:=List.replicate n .gone
theorem jr {w:β} {f:V->Option β} {a:V⊕β} (h:some (.inr w)=some a) (hk:Sum.elim f some a=some r):some w=some r:=by grind
theorem jo {o:S⊕(V⊕β)} {w:β} {f:V->Option β} (h:some (.inr (.inr w))=some o) (hk:∀w,o= .inr (.inr w)->Sum.elim f some (.inr w)=some r):some w=some r:=by grind
theorem rr {v r:β} (h:some v=some r):v=r:=Option.some.inj h
theorem rq {e:Exit} {rs:List ResultVar} {a:SV} (he:e= .normal\/e= .ret:=by first|exact .inr rfl|exact .inl rfl) (hk:(Di P E rs).map (λz=>D7 z.1)=some a:=by kernel_rfl):(e= .normal\/e= .ret)/\∃ss E',Di P E rs=some (ss,E')/\D7 ss=a:=⟨he,rsz hk⟩
theorem rx {e:Exit} {rs:List ResultVar} {b:SV} {a:List TV} (he:e= .normal\/e= .ret:=by first|exact .inr rfl|exact .inl rfl) (hk:(Di P E rs).map (λz=>(D7 z.1,z.2.boxes<|.ext 0))=some (b,some a):=by kernel_rfl):(e= .normal\/e= .ret)/\∃ss E',Di P E rs=some (ss,E')/\D7 ss=b/\E'.boxes (.ext 0)=some a:=⟨he,rsx hk⟩
section
variable {id:Nat}
theorem ws (h:RW P N ops 0 E (HZ (λE'=>Wp P N y E' Q) Q)):Wp P N (.seq (.region id ops false) y) E Q:=Wp.seq<|wN h
end
theorem BT {f:α->List TV} {n:Int} (hf:∀x,(f x).length=sz) (h:(gi l n).bind kk=some r) (hk:∀x,gi l n=some x->kk x=some r->RW P N ops (i+1) (E.put (oA ops i).dst (dC E (oA ops i) (n.toNat*sz+0))) Q) (hc:qK P E (oA ops i) sz=some (A6 f l,n):=by kernel_rfl) (hq:o7 P N ops i E=true:=by kernel_rfl):RW P N ops i E Q:=
 bd h λx gx h=>RW.q (EQ hf gx hc) (hk x gx h) hq
def jA (P:Program) (N:Nat) (ops:Array Oper) (ts dn:List Nat) (E:St) (i:Nat):Option St:=bif Nat.blt i ops.size&&Gn N (oA ops i)&&lF ops ts dn i then
 (match Be P ops E (oA ops i)with
 |some false=>some<|E.put (oA ops i).dst<|.tup []
 |some true=>match Gi P E (oA ops i)with
  |some s=>some<|E.put (oA ops i).dst s
  |none=>zH N E<|oA ops i
 |none=>none)else none
theorem tst {ts:List Nat} (hs:jA P N ops ts dn E i=some E') (h:KW P N ops ts (i::dn) E' Q):KW P N ops ts dn E Q:=by grind [AAv,y9,Nk,jA,OE]
def kS (P:Program) (N:Nat) (ops:Array Oper) (ts dn:List Nat) (E:St):List Nat->Option (Nat×St)
 |[]=>none
 |i::l=>match jA P N ops ts dn E i with
  |some E'=>some (i,E')
  |none=>kS P N ops ts dn E l
theorem dM {ts:List Nat}:∀{l:List Nat} {E':St},kS P N ops ts dn E l=some (i,E')->jA P N ops ts dn E i=some E'
 |[],_,h=>by cases h
 |j::l,E',h=>by
  simp only[kS]at h;split at h
  ·grind
  exact dM h
def wM (P:Program) (N:Nat) (ops:Array Oper) (ts:List Nat) (mv:List Nat) (E:St) (i:Nat):Option St:=bif OE P ops E i&&(kp (oA ops i)||ts.contains i)then Cf P N (mv.contains i) E (oA ops i)else none
def u9 (f:A->Option (List St)):List A->Option (List St)
 |[]=>some []
 |x::l=>match f x,u9 f l with
  |some a,some b=>some (a++b)
  |_,_=>none
theorem eG {f:A->Option (List St)}:∀{l:List A} {L:List St},u9 f l=some L->∀x∈l,∃a,f x=some a/\∀E∈a,E∈L
 |[],_,_,x,hx=>by cases hx
 |y::l,L,h,x,hx=>by
  simp only[u9]at h;split at h
  ·rename_i a b h1 h2
   injection h with h
   subst h
   rcases Iu.1 hx with rfl|hx
   ·grind
   obtain⟨a',h3,h4⟩:=eG h2 x hx
   grind
  cases h
def mC (P:Program) (N:Nat) (ops:Array Oper) (ts mv:List Nat):Nat->List Nat->St->Option (List St)
 |0,_,_=>none
 |n+1,dn,E=>match Region.ready .any ops (qA ops.size dn)with
  |[]=>some [E]
  |rs=>bif Nat.blt dn.length ops.size then(match kS P N ops ts dn E rs with
   |some (i,E')=>mC P N ops ts mv n (i::dn) E'
   |none=>u9 (λi=>match wM P N ops ts mv E i with
    |some E'=>mC P N ops ts mv n (i::dn) E'
    |none=>none) rs)else none
theorem iV {ts:List Nat}:∀{n:Nat} {dn:List Nat} {E:St} {L:List St},mC P N ops ts mv n dn E=some L->(∀E'∈L,Q .normal E')->KW P N ops ts dn E Q
 |0,_,_,_,h,_=>by cases h
 |n+1,dn,E,L,h,hq=>by
  simp only[mC]at h;split at h
  ·grind [Aq]
  rename_i b
  cases hb:Nat.blt dn.length ops.size with
  |false=>grind
  |true=>
   rw[hb]at h;split at h
   ·rename_i i E' hf;exact tst (dM hf) (iV h hq)
   refine KW.all _ (λi hi=>?_) b (by grind [sJ]);obtain⟨a,h1,h2⟩:=eG h i hi;split at h1
   ·rename_i E' hs;unfold wM at hs
    cases hc:(OE P ops E i&&(kp (oA ops i)||ts.contains i))with
    |false=>grind
    |true=>
     rw[hc]at hs;exact Dj hs (iV h1 λE'' hE=>hq E''<|h2 E'' hE) hc
   cases h1
def pH (P:Program) (N:Nat) (ops:Array Oper) (ts mv dn:List Nat) (E:St):List St:=(mC P N ops ts mv (ops.size+1) dn E).getD []
theorem nP {c:List PanicEntry} {X:Prop} (h:(Exit.panic c= .normal\/Exit.panic c= .ret)/\X):False:=by grind
section
variable {w0:Base} {a:Act}
theorem Cj.resay {s:SV} (h:Cj w0 FA UA N w a E blk FS US) (hd:d<N) (hs:Gr w a E blk s (a.eval (.tmp d)) [] []):∃FS' US',Cj w0 FA UA N w a (E.put (some d) s) blk FS' US'/\FS' .hand=FS .hand/\US' .hand=US .hand:=by
 have k:=h.put (F:=[]) (U:=[]) hd hs WM.none;have e:a.put (some d) (a.eval<|.tmp d)=a:=by
  cases a with
  |mk tmps defers=>simp_all [Act.put,Act.eval];grind
 grind [AR]
end
theorem Cj.toAdr {w0:Base} {a:Act} (h:Cj w0 FA UA N w a E blk FS US) (hd:d<N) (hs:E.ptr? (.tmp d)=some (.ext 0,[],0)) (hp:E.amb.pin=some b):∃FS' US',Cj w0 FA UA N w a (E.put (some d) (.one (.adr ⟨b,0,none⟩))) blk FS' US'/\FS' .hand=FS .hand/\US' .hand=US .hand:=by
 obtain⟨_,ad,h1,h2⟩:=IN h hs;refine h.resay hd ?_;rw[h2];have e:=h.xblk 0;rw[h.pin b hp]at e;simp only[pa,e,Addr.add]at h1
 injection h1 with h1
 subst h1;refine⟨?_,λ_=>rfl⟩;show CK w (.adr ⟨b,0,none⟩) _ [] [];simp[CK]
section
variable {w0:Base} {a:Act}
theorem Cj.toPtr (h:Cj w0 FA UA N w a E blk FS US) (hd:d<N) (hs:E.slots d= .one (.adr ⟨b,0,none⟩)) (hp:E.amb.pin=some b) {c:List TV} (hb:E.boxes (.ext 0)=some c) (f:c.isEmpty=false):
  ∃FS' US',Cj w0 FA UA N w a (E.put (some d) (.one (.ptr (.ext 0) (E.gen (.ext 0)) [] 0))) blk FS' US'/\FS' .hand=FS .hand/\US' .hand=US .hand:=by
 have hv:a.eval (.tmp d)= .pointer (some ⟨b,0,none⟩):=by
  have:=h.slot d;rw[hs]at this;exact this.1.1
 refine h.resay hd ?_;have e:=h.xblk 0;rw[h.pin b hp]at e;refine⟨⟨rfl,rfl,A8 _,λ_=>⟨?_,⟨b,0,none⟩,?_,hv⟩⟩,λ_=>by rw[hv];rfl⟩
 ·grind [St.place,St.root,Bp]
 grind [pa,Addr.add]
end
def pnE (E:St) (d b:Nat):St:=E.put (some d)<|.one<|.adr ⟨b,0,none⟩
def xH (N:Nat) (E:St) (d:Nat):Bool:=Nat.blt d N&&(match E.ptr? (.tmp d)with
 |some (.ext 0,[],0)=>true
 |_=>false)
theorem tJ (h:xH N E d=true):d<N/\E.ptr? (.tmp d)=some (.ext 0,[],0):=by grind [DY,xH]
theorem AAr (d:Nat) (h:RW P N ops i (pnE E d b) Q) (hp:E.amb.pin=some b:=by kernel_rfl) (ho:xH N E d=true:=by kernel_rfl):RW P N ops i E Q:=by
 intro w0 FA UA w a blk FS US hr hF hU;obtain⟨h1,h2⟩:=tJ ho;obtain⟨FS',US',k1,k2,k3⟩:=hr.toAdr h1 h2 hp;exact h _ _ _ _ _ _ _ _ k1 (by rw[k2,hF])<|by rw[k3,hU]
def npE (E:St) (d:Nat):St:=E.put (some d)<|.one<|.ptr (.ext 0) (E.gen<|.ext 0) [] 0
def tX (N:Nat) (E:St) (d:Nat):Bool:=Nat.blt d N&&(match E.boxes (.ext 0)with
 |some cells=>!cells.isEmpty
 |none=>false)
theorem kA (h:tX N E d=true):d<N/\∃a,E.boxes (.ext 0)=some a/\a.isEmpty=false:=by grind [DY,tX]
theorem eP (d:Nat) (h:RW P N ops i (npE E d) Q) (hp:E.amb.pin=some b:=by kernel_rfl) (hs:E.slots d= .one (.adr ⟨b,0,none⟩):=by kernel_rfl) (ho:tX N E d=true:=by kernel_rfl):RW P N ops i E Q:=by
 intro w0 FA UA w a blk FS US hr hF hU;obtain⟨h1,c,h2,h3⟩:=kA ho;obtain⟨FS',US',k1,k2,k3⟩:=hr.toPtr h1 hs hp h2 h3;exact h _ _ _ _ _ _ _ _ k1 (by rw[k2,hF])<|by rw[k3,hU]
theorem lD {ts:List Nat} (d:Nat) (h:KW P N ops ts dn (npE E d) Q) (hp:E.amb.pin=some b:=by kernel_rfl) (hs:E.slots d= .one (.adr ⟨b,0,none⟩):=by kernel_rfl) (ho:tX N E d=true:=by kernel_rfl):KW P N ops ts dn E Q:=by
 intro hq hc w0 FA UA w a blk FS US hr hF hU;obtain⟨h1,c,h2,h3⟩:=kA ho;obtain⟨FS',US',k1,k2,k3⟩:=hr.toPtr h1 hs hp h2 h3;exact h hq hc _ _ _ _ _ _ _ _ k1 (by rw[k2,hF])<|by rw[k3,hU]
structure WH (n c b g cap:Nat) (e T T':TypeId) (sz:Nat) (rest:List Value) (enc:γ->List TV) (w:World) (l:List γ):Prop where
 ne:b≠g/\c≠g/\c≠b
 len:l.length=n
 ptr:w.heap[c]?=some (.cells #[.pointer (some ⟨b,0,none⟩)] T' (0,0))
 box:w.heap[b]?=some (.cells (.slice (some ⟨g,0,none⟩) n cap::rest).toArray T (0,0))
 row:∃cur,w.heap[g]?=some (.cells cur e (0,0))/\cur.size=cap*sz/\cur.toList.take (l.length*sz)=(A6 enc l).map TV.val
 le:l.length<=cap/\cap<=maxLen
theorem jL {e:TypeId} {l:List γ} {k:Nat} {n c b g cap:Nat} {rest:List Value} {enc:γ->List TV} (h:WH n c b g cap e T T' sz rest enc w l) (hk:k<l.length*sz):w.cell? ⟨g,k,none⟩=((A6 enc l).map TV.val)[k]? :=by
 obtain⟨a,h1,h2,h3⟩:=h.row
 grind [World.cell?]
def Gj (n c b g cap:Nat) (e T T':TypeId) (sz:Nat) (rest:List Value) (enc:γ->List TV) (l:List γ):OC where
 B:=[c,b,g]
 I:=λw=>WH n c b g cap e T T' sz rest enc w l
 st:=λw w' h hk=>⟨h.ne,h.len,by rw[hk c<|by simp];exact h.ptr,by rw[hk b<|by simp];exact h.box,by rw[hk g<|by simp];exact h.row,h.le⟩
 rd:=λad=>if ad.spot.isSome=true then none else if ad.block=c then(if ad.off=0 then some (.pointer<|some ⟨b,0,none⟩)else none)else if ad.block=b then(if ad.off=0 then some (.slice (some ⟨g,0,none⟩) n cap)else none)else if ad.block=g then(if ad.off<l.length*sz then((A6 enc l).map TV.val)[ad.off]? else none)else none
 rdI:=λw ad v h hr=>by
  obtain⟨bl,off,spot⟩:=ad
  cases spot with
  |some s=>simp at hr
  |none=>
   simp only[Option.isSome_none,Q7,uN]at hr;split at hr
   ·rename_i hb;subst hb;split at hr
    ·rename_i ho;subst ho
     injection hr with hr
     subst hr;simp[World.cell?,h.ptr]
    cases hr
   split at hr
   ·rename_i hb;subst hb;split at hr
    ·rename_i ho;subst ho
     injection hr with hr
     subst hr;simp[World.cell?,h.box]
    cases hr
   grind [jL]
theorem bE {e:TypeId} {ie:TypeInfo} {c b g cap:Nat} {rest:List Value} {enc:γ->List TV} (h:∀x,(enc x).length=sz) (n:Nat) (gS:Bool) (hx:∀args W,(callFunc sf args).run P W=((Extern.ReflectliteSwapper.swap gS args).run P W).andThen λv w'=> .ok (.value v) w') (h6:P.info? e=some ie) (o:ie.size=sz) (q:∀w,(isAgg e).run P w= .ok true w):
  K8 P (Gj n c b g cap e T T' sz rest enc) sf #[.slice (some ⟨g,0,none⟩) n cap,typeHandle P e]:=by
 intro l i j x y hi hj w hI hB;obtain⟨⟨r,s,t⟩,hn,u,h0,h3,h7⟩:=hI;have a5:b<w.heap.size:=hB b (by simp[Gj]);have a6:c<w.heap.size:=hB c (by simp[Gj]);have a7:g<w.heap.size:=hB g (by simp[Gj]);obtain⟨f,hg,h8,h4⟩:=h3;obtain⟨i0,i1⟩:=GU hi;obtain⟨j0,j1⟩:=GU hj;obtain⟨a,rfl⟩:=BN i0;obtain⟨d,rfl⟩:=BN j0;simp only[Cp]at i1 j1;have la:=(Af.1 i1).1;have lc:=(Af.1 j1).1;have hX:((enc x).map TV.val).length=sz:=by grind
 have hY:((enc y).map TV.val).length=sz:=by grind
 have a4:l.length*sz<=f.size:=by simp_all [BI]
 have h9:(a+1)*sz<=l.length*sz:=BI _ la;have a0:(d+1)*sz<=l.length*sz:=BI _ lc;rw[J0]at h9 a0;have hI:WH n c b g cap e T T' sz rest enc w l:=⟨⟨r,s,t⟩,hn,u,h0,⟨f,hg,h8,h4⟩,h7⟩;have cell:∀(m:Nat) (z:γ),l[m]?=some z->∀k v,((enc z).map TV.val)[k]?=some v->w.cell? ⟨g,0+m*ie.size+k,none⟩=some v:=by
  intro m z hm k v hk;have a1:=(Af.1 hk).1;rw[BG,h]at a1;have lm:=(Af.1 hm).1;have a2:(m+1)*sz<=l.length*sz:=BI _ lm;rw[J0]at a2;rw[o,Jz,jL hI<|by omega];have e1:(A6 enc l)[m*sz+k]?=(enc z)[k]? :=by
   have h2:(A6 enc l)[m*sz+k]?=((A6 enc l).drop<|m*sz)[k]? :=by grind
   grind [Ir,AJ,Rl]
  grind
 have frz:∀(m k:Nat),w.frozen? ⟨g,0+m*ie.size+k,none⟩=false:=by grind [World.frozen?]
 have p:=Go.Lib.run_swap_cells (P:=P) gS e ie h6 q g 0 n cap a d (by omega) (by omega) ((enc x).map TV.val) ((enc y).map TV.val) (by rw[hX,o]) (by rw[hY,o]) (λv hv=>by grind [Ut]) (λv hv=>by grind [Ut]) w (cell a x i1) (cell d y j1) (λk _=>frz a k) λk _=>frz d k;simp only[Jz,o]at p;have h1:=HH e (0,0) g ((enc y).map TV.val) (a*sz) f w hg (by rw[hY];omega);have a8:(setRow f.toList (a*sz)<|(enc y).map TV.val).toArray.size=f.size:=by grind [DR]
 have h2:=HH e (0,0) g ((enc x).map TV.val) (d*sz) _ _ h1 (by grind);have kB:∀k,k<w.heap.size->k≠g->((w.setCells g (a*sz)<|(enc y).map TV.val).setCells g (d*sz)<|(enc x).map TV.val).heap[k]?=w.heap[k]? :=by grind [World.heap_setCells_other]
 refine⟨(w.setCells g (a*sz)<|(enc y).map TV.val).setCells g (d*sz)<|(enc x).map TV.val,?_,⟨?_,?_,?_,?_,?_⟩,?_⟩
 ·rw[hx];have ea:(#[Value.int .i64 (a:Int),Value.int .i64 (d:Int)]++ #[Value.slice (some ⟨g,0,none⟩) n cap,typeHandle P e])= #[.int .i64 (a:Int),.int .i64 (d:Int),.slice (some ⟨g,0,none⟩) n cap,typeHandle P e]:=rfl;rw[ea,p];rfl
 ·rw[World.os_setCells,World.os_setCells]
 ·rw[Hv,Hv]
 ·rw[World.output_setCells,World.output_setCells]
 ·grind
 ·grind [Gj]
 have h5:(si (si l (a:Int) y) (d:Int) x).length=l.length:=by simp[si]
 have lcur:f.toList.length=f.size:=by simp
 have a9:(setRow f.toList (a*sz)<|(enc y).map TV.val).length=f.size:=by omega
 have b0:(setRow (setRow f.toList (a*sz)<|(enc y).map TV.val) (d*sz)<|(enc x).map TV.val).length=f.size:=by grind [DR]
 refine⟨⟨r,s,t⟩,h5.trans hn,by grind,by grind,⟨_,h2,?_,?_⟩,by grind⟩
 ·grind
 rw[h5];rw[JT (by rw[hX];omega) (by grind),JT (by rw[hY];omega) (by grind),h4,<-NV,<-NV];have e1:setRow (A6 enc l) (a*sz) (enc y)=A6 enc (si l (a:Int) y):=by
  have:=PJ h (z:=y) hi
  grind
 obtain⟨z0,a3⟩:∃z0,gi (si l (a:Int) y) (d:Int)=some z0:=by grind [si,gi]
 have e2:=PJ h (z:=x) a3
 grind
theorem jU {e:TypeId} {l:List γ} {n c b g cap:Nat} {rest:List Value} {enc:γ->List TV}:(Gj n c b g cap e T T' sz rest enc l).rd ⟨c,0,none⟩=some (.pointer (some ⟨b,0,none⟩)):=by
 simp[Gj]
theorem jV {e:TypeId} {l:List γ} {n c b g cap:Nat} {rest:List Value} {enc:γ->List TV} (h:c≠b):(Gj n c b g cap e T T' sz rest enc l).rd ⟨b,0,none⟩=some (.slice (some ⟨g,0,none⟩) n cap):=by
 simp[Gj,h.symm]
theorem jT {e:TypeId} {l:List γ} {i:Int} {k:Nat} {t:TV} {n c b g cap:Nat} {rest:List Value} {enc:γ->List TV} (a:∀x,(enc x).length=sz) {x:γ} {ad:Addr} (hi:gi l i=some x) (hk:(enc x)[k]?=some t) (hb:b≠g) (hc:c≠g) (d:ad=⟨g,i.toNat*sz+k,none⟩):(Gj n c b g cap e T T' sz rest enc l).rd ad=some t.val:=by
 subst d;obtain⟨i0,i1⟩:=GU hi;have lm:=(Af.1 i1).1;have f:=(Af.1 hk).1;rw[a]at f;have h:(i.toNat+1)*sz<=l.length*sz:=BI _ lm;have e1:(A6 enc l)[i.toNat*sz+k]?=(enc x)[k]? :=by
  have h2:(A6 enc l)[i.toNat*sz+k]?=((A6 enc l).drop<|i.toNat*sz)[k]? :=by grind
  grind [Ir,AJ,Rl]
 grind [Gj]
theorem r6 (d:Nat) {ad:Addr} {x:Nat} (hk:Fy P N ops rest (E.put (some d) (.one (.adr ad))) K) (hs:E.slots x= .one (.adr ad)) (ho:o.op= .nilCheck (.tmp x):=by rfl) (hd:o.dst=some d:=by rfl) (hN:Nat.blt d N=true:=by rfl) (hg:Be P ops E o=some true:=by rfl):Fy P N ops (o::rest) E K:=
 Fy.any d (.adr ad) hk (λw0 FA UA w a blk FS US h=>by
  have h1:=aL h hs;refine⟨.pointer<|some ad,?_,by simp[CK],rfl⟩
  simp_all [execOp]) hd hN hg
def Rn (o:Oper):Nat:=o.dst.getD 0
def AAL (E:St) (ops:Array Oper) (i:Nat) (r:Root) (t:TV):St:=(((((E.put (some<|Rn<|oA ops i)<|.one .junk).put (some<|Rn<|oA ops<|i+1)<|.one .junk).setRoot r [t]).bump r).put (some<|Rn<|oA ops<|i+2)<|.tup [])
def wR:Operand->Nat
 | .tmp n=>n
 |_=>0
def bH (o:Oper):Nat:=match o.op with
 | .makeInterface _ x=>wR x
 |_=>0
def YT (o:Oper):Nat:=match o.op with
 | .makeFunc _ _ c=>wR<|c[0]?.getD<|.tmp 0
 |_=>0
def wT (o:Oper):Array TypeId:=match o.op with
 | .call c=>c.argTypes
 |_=> #[]
def X9 (s:SV):Nat:=match s with
 | .one (.view _ v _ _)=>v
 |_=>0
theorem yP {rr:β} {l:List γ} {kk:List γ->Option β} {x:Option (List γ)} (h:x.bind kk=some rr) {enc:γ->List TV} {a:FuncId} (r:Root) (hs:∀l',x=some l'->UV P (Nc (oA ops (i+2))) t e sz enc a l l') (hk:∀l',x=some l'->kk l'=some rr->RW P N ops (i+3) (AAL E ops i r (.sl true e sz (A6 enc l'))) Q) (b:∀x,(enc x).length=sz) (d:∀x,(enc x).all TV.flat=true) (hx:E.slots (bH (oA ops i))= .one (.view r (X9 (E.slots (bH (oA ops i)))) [] 0):=by kernel_rfl) (c:E.ver r=X9 (E.slots<|bH<|oA ops i):=by kernel_rfl) (hp:E.ptr? (.tmp<|YT<|oA ops<|i+1)=some (r,[],0):=by kernel_rfl) (hc:E.boxes r=some [.sl true e sz<|A6 enc l]:=by kernel_rfl) (hm:r.mem=true:=by kernel_rfl) (h1:(oA ops i).op= .makeInterface t (.tmp<|bH<|oA ops i):=by kernel_rfl) (h2:(oA ops<|i+1).op= .makeFunc (.func a) #[] #[.tmp<|YT<|oA ops<|i+1]:=by kernel_rfl) (h3:(oA ops<|i+2).op= .call {callee:= .value (.func<|Nc<|oA ops<|i+2),args:= #[.tmp<|Rn<|oA ops i,.tmp<|Rn<|oA ops<|i+1],argTypes:=wT (oA ops<|i+2)}:=by kernel_rfl) (k1:(oA ops i).dst=some (Rn<|oA ops i):=by kernel_rfl) (k2:(oA ops<|i+1).dst=some (Rn<|oA ops<|i+1):=by kernel_rfl) (k3:(oA ops<|i+2).dst=some (Rn<|oA ops<|i+2):=by kernel_rfl) (g1:(oA ops i).guard=none:=by kernel_rfl) (g2:(oA ops<|i+1).guard=none:=by kernel_rfl) (g3:(oA ops<|i+2).guard=none:=by kernel_rfl) (hN:(Nat.blt (Rn<|oA ops i) N&&Nat.blt (Rn<|oA ops<|i+1) N&&Nat.blt (Rn<|oA ops<|i+2) N&&!Nat.beq (Rn<|oA ops i) (Rn<|oA ops<|i+1)&&!Nat.beq (YT<|oA ops<|i+1) (Rn<|oA ops i)&&Nat.blt 0 sz&&Nat.blt (i+2) ops.size)=true:=by kernel_rfl) (ht:P.underlying t=some (.slice e):=by kernel_rfl) (hf:Qz P N (oA ops<|i+2)=true:=by kernel_rfl):RW P N ops i E Q:=by
 obtain⟨l',hl',h⟩:=Ae.1 h;simp only[Ai,DG]at hN;obtain⟨⟨⟨⟨⟨⟨q1,q2⟩,q3⟩,q4⟩,q5⟩,q6⟩,q7⟩:=hN;have b2:Nat.blt (i+1) ops.size=true:=by grind [DY]
 have b1:Nat.blt i ops.size=true:=by grind [DY]
 have hk':=hk l' hl' h;unfold RW at hk'⊢;rw[EU b1,EU b2,EU q7];exact vE (hs l' hl') hk' b d hx c hp hc hm h1 h2 h3 k1 k2 k3 g1 g2 g3 q1 q2 q3 q4 q5 q6 ht (M1 hf).choose_spec.choose_spec.2.1
def aK (o:Oper):Nat:=match o.op with
 | .call c=>match c.args.toList with
  |[x]=>wR x
  |_=>0
 |_=>0
def aY (s:SV):Nat:=match s with
 | .one (.view (.slot n) _ _ _)=>n
 |_=>0
def S4 (P:Program) (f:FuncId) (t e sz:Nat) (enc:γ->List TV) (g:FuncId) (l l':List γ):Prop:=∀(w:World) (c b:Nat) (v:Value) (rest:List Value) (T T':TypeId),w.heap[c]?=some (.cells #[.pointer<|some ⟨b,0,none⟩] T' (0,0))->w.heap[b]?=some (.cells (v::rest).toArray T (0,0))->w.ownsRow 0 e sz v l.length ((A6 enc l).map TV.val)->b∉B5 v->c∉B5 v->c≠b->
  Calls P f #[.iface t v,.func (.func g) #[] #[.pointer<|some ⟨c,0,none⟩]] w λr w'=>r= .returned (.tuple #[])/\Fv w w' (c::b::B5 v)/\w'.heap[c]?=w.heap[c]? /\w'.heap[b]?=w.heap[b]? /\w'.ownsRow 0 e sz v l'.length ((A6 enc l').map TV.val)
def qJ (c b:Nat) (v:Value) (rest:List Value) (T T':TypeId) (e sz n:Nat) (xs:List Value):OC where
 B:=c::b::B5 v
 I:=λw=>w.heap[c]?=some (.cells #[.pointer<|some ⟨b,0,none⟩] T' (0,0))/\w.heap[b]?=some (.cells (v::rest).toArray T (0,0))/\w.ownsRow 0 e sz v n xs
 st:=λw w' h hk=>⟨by grind,by grind,h.2.2.1,by
  rcases h.2.2.2 with q|⟨g,cap,a,rfl,q1,q2,q3⟩
  ·exact .inl q
  grind [B5,Value.ownBlock]⟩
theorem vF {l l':List γ} {rc:Root} {o1 o2 o3:Oper} {ver:Nat} {enc:γ->List TV} {f c:FuncId} {rs:List TV} {d1 d2 d3 x p b0:Nat} {tys:Array TypeId} (hs:S4 P f t e sz enc c l l') (hk:FD P N ops rest (((((E.put (some d1) (.one .junk)).put (some d2) (.one .junk)).setRoot (.ext 0) (.sl true e sz (A6 enc l')::rs)).bump (.ext 0)).put (some d3) (.tup [])) Q) (k:∀x,(enc x).length=sz) (j:∀x,(enc x).all TV.flat=true) (hpin:E.amb.pin=some b0) (hx:E.slots x= .one (.view (.ext 0) ver [] 0)) (a2:E.ver (.ext 0)=ver) (hp:E.ptr? (.tmp p)=some (rc,[],0)) (hc:E.boxes (.ext 0)=some (.sl true e sz (A6 enc l)::rs)) (m:E.boxes rc=some [.adr ⟨b0,0,none⟩]) (hm:rc.mem=true) (h1:o1.op= .makeInterface t (.tmp x)) (h2:o2.op= .makeFunc (.func c) #[] #[.tmp p]) (h3:o3.op= .call {callee:= .value (.func f),args:= #[.tmp d1,.tmp d2],argTypes:=tys}) (k1:o1.dst=some d1) (k2:o2.dst=some d2) (k3:o3.dst=some d3) (g1:o1.guard=none) (g2:o2.guard=none) (g3:o3.guard=none) (a7:Nat.blt d1 N=true) (a8:Nat.blt d2 N=true) (a9:Nat.blt d3 N=true) (c0:Nat.beq d1 d2=false) (a3:Nat.beq p d1=false) (c2:Nat.blt 0 sz=true) (ht:P.underlying t=some (.slice e)) (hf:Xr P f):FD P N ops (o1::o2::o3::rest) E Q:=by
 have hN1':d1<N:=by simp_all
 have hN2':d2<N:=by simp_all
 have hN3':d3<N:=by simp_all
 have hne':d1≠d2:=by intro e;simp_all
 have hne2':p≠d1:=by intro e;simp_all
 have hsz':0<sz:=by simp_all
 have h0:rc≠ .ext 0:=by grind
 intro w0 FA UA w a blk FS US hr hF hU;have a4:blk (.ext 0)=b0:=by rw[hr.xblk,hr.pin b0 hpin]
 obtain⟨v,vs,T,F2,U1,U2,b1,b2,b3,b4,b5⟩:∃v vs T F2 U1 U2,w.heap[blk<|.ext 0]?=some (.cells (v::vs).toArray T (0,0))/\(∃F1,CK w (.sl true e sz<|A6 enc l) v F1 U1/\FS (.ext 0)=blk (.ext 0)::(F1++F2))/\Bj w rs vs F2 U2/\US (.ext 0)=U1++U2/\True:=by
  rcases hr.box (.ext 0) rfl with⟨q1,_⟩|⟨cs,g,T,F,q1,q2,q3,q4⟩
  ·grind
  rw[hc]at q1
  injection q1 with q1
  subst q1;simp only[Bj]at q3;obtain⟨v,o,F1,F2,U1,U2,e1,rfl,e3,q5,q6⟩:=q3;have:g=(v::o).toArray:=by grind
  grind
 obtain⟨F1,b2,b6⟩:=b2;obtain⟨T',c1⟩:∃T',w.heap[blk rc]?=some (.cells #[.pointer<|some ⟨b0,0,none⟩] T' (0,0)):=by
  rcases hr.box rc hm with⟨q1,_⟩|⟨cs,g,T,F,q1,q2,q3,q4⟩
  ·grind
  rw[m]at q1
  injection q1 with q1
  subst q1;simp only[Bj,CK]at q3;obtain⟨v,o,F1,F2,U1,U2,e1,rfl,e3,⟨rfl,_⟩,rfl,_⟩:=q3;have:g= #[.pointer<|some ⟨b0,0,none⟩]:=by grind
  grind
 have h4:blk rc∈FS rc:=by
  rcases hr.box rc hm with⟨q1,_⟩|⟨cs,g,T,F,q1,q2,q3,q4⟩
  ·grind
  rw[q4];simp
 simp only[CK]at b2;obtain⟨n,xs,F',b7,b8,rfl⟩:=b2;have h5:=RQ b8<|Fs j l;obtain⟨rfl,rfl⟩:=Jt b8<|Fs j l;subst h5;have h6:n=l.length:=by
  have q:=b7.1;rw[BG,Ef k l]at q
  grind [Nat.eq_of_mul_eq_mul_right]
 subst h6;rw[AW]at b6;rw[A0]at b4;have u:=hr.nodup<|.ext 0;rw[b6]at u
 have h7:blk (.ext 0)∉B5 v:=λhx=>(CX.1 u).1<|BJ _ hx
 have y:∀x∈FS (.ext 0),x≠blk rc:=λx hx e=>hr.dis _ _ h0 _ h4<|e▸hx
 have h8:blk rc∉B5 v:=λhx=>y (blk rc) (by grind) rfl
 have h9:blk rc≠blk (.ext 0):=λe=>y (blk<|.ext 0) (by rw[b6];simp) e.symm
 have evx:a.eval (.tmp x)=v:=by
  have q:=hr.slot x;simp_all [Gr,CR,pv,Bo,Addr.add,World.cell?]
 have evp:a.eval (.tmp p)= .pointer (some ⟨blk rc,0,none⟩):=by
  obtain⟨_,ad,q1,q2⟩:=IN hr hp;rw[q2]
  cases rc with
  |slot n=>cases hm
  |hand=>cases hm
  |box n=>grind [pa,Addr.add]
  |ext n=>grind [pa,Addr.add]
 obtain⟨FS1,US1,r1,r2,r3⟩:=Si hr hF hU hN1'<|.iface t v;have e1:(execOp a.eval o1).run P w= .ok (.value<|.iface t v) w:=by simp_all [run_underlying,execOp,Instr.makeInterface]
 simp only[wpList,B6 hr<|HU (P:=P) (ops:=ops) g1,Cm];refine .inl ?_
 try unfold Oper.wp
 rw[e1,Oper.upon_value,k1];have evp1:(a.put (some d1)<|.iface t v).eval (.tmp p)= .pointer (some ⟨blk rc,0,none⟩):=by grind [C7]
 obtain⟨FS2,US2,s1,s2,s3⟩:=Si r1 r2 r3 hN2'<|.func (.func c) #[] #[.pointer<|some ⟨blk rc,0,none⟩];have e2:(execOp (a.put (some d1)<|.iface t v).eval o2).run P w= .ok (.value<|.func (.func c) #[] #[.pointer<|some ⟨blk rc,0,none⟩]) w:=by simp_all [execOp,Instr.makeFunc]
 simp only[wpList,B6 r1<|HU (P:=P) (ops:=ops) g2,Cm];refine .inl ?_
 try unfold Oper.wp
 rw[e2,Oper.upon_value,k2];simp only[wpList,B6 s1<|HU (P:=P) (ops:=ops) g3,Cm];refine .inl ?_;have c6:d1<a.tmps.size:=AM hN1' hr.len;have c7:d2<(a.put (some d1)<|.iface t v).tmps.size:=AM hN2' r1.len
 try unfold Oper.wp
 rw[GG h3 hf];have ea: #[Operand.tmp d1,.tmp d2].map ((a.put (some d1)<|.iface t v).put (some d2)<|.func (.func c) #[] #[.pointer<|some ⟨blk rc,0,none⟩]).eval= #[.iface t v,.func (.func c) #[] #[.pointer<|some ⟨blk rc,0,none⟩]]:=by grind [GV,C7]
 rw[ea];simp only[Oper.upon];refine Calls.mono (hs w (blk rc) (blk<|.ext 0) v vs T T' (by grind) b1 b7 h7 h8 h9) ?_;rintro ee w' ⟨rfl,h,c8,d0,a0⟩;have a1:((E.put (some d1)<|.one .junk).put (some d2)<|.one .junk).boxes (.ext 0)=some (.sl true e sz (A6 enc l)::rs):=hc;obtain⟨G1,G2,V2,f1,f2,f3,f4⟩:∃G1 G2 V2,FS2 (.ext 0)=blk (.ext 0)::(G1++G2)/\G1=B5 v/\US2 (.ext 0)=V2/\Bj w rs vs G2 V2:=by
  rcases s1.box (.ext 0) rfl with⟨q1,_⟩|⟨cs,g,T2,F2,q1,q2,q3,q4⟩
  ·grind
  grind [Jt,Fs,Bj,CK]
 subst f2;have i:=s1.nodup<|.ext 0;rw[f1]at i;have a5:blk rc∈FS2 rc:=by
  have a6:((E.put (some d1)<|.one .junk).put (some d2)<|.one .junk).boxes rc=some [.adr ⟨b0,0,none⟩]:=m
  rcases s1.box rc hm with⟨q1,_⟩|⟨cs,g,T,F,q1,q2,q3,q4⟩
  ·grind
  rw[q4];simp
 have keepb:∀b,b<w.heap.size->b∉B5 v->w'.heap[b]?=w.heap[b]? :=by
  intro b hb hv;by_cases q1:b=blk rc
  ·grind
  by_cases q2:b=blk (.ext 0)
  ·grind
  exact h.keep b hb<|by grind
 have z:Fv w w' (FS2<|.ext 0):=⟨h.os,h.tape,h.output,h.size,λb hb hn=>keepb b hb λhv=>hn<|by grind⟩
 have hG:∀b∈G2,w'.heap[b]?=w.heap[b]? :=λb hb=>keepb b (s1.inF (.ext 0) b<|by grind).2
  (λhv=>(BB.1 (CX.1 i).2).2.2 b hv b hb rfl)
 have hV:∀b∈V2,w'.heap[b]?=w.heap[b]? :=λb hb=>keepb b (s1.inU (.ext 0) b (by rw[f3];exact hb)).2
  (λhv=>s1.disU (.ext 0) (.ext 0) b (by grind) (by rw[f3];exact hb))
 obtain⟨FS3,US3,t1,t2,t3⟩:=s1.turn s2 s3 (r:= .ext 0) rfl a1 (cells':= .sl true e sz (A6 enc l')::rs) (by simp) (w':=w') z
  ⟨(
   v::vs).toArray,T,B5 v++G2,by grind,by
   rw[f3];simp only[Bj];refine⟨v,vs,B5 v,G2,[],V2,by simp,rfl,rfl,?_,Ex f4 hG hV⟩;simp only[CK]
   exact⟨l'.length,_,[],a0,R0<|Fs j l',by simp⟩,f1⟩
 obtain⟨FS4,US4,u1,u2,u3⟩:=t1.land (w':=w') (d:=d3) (s:= .tup []) (v:= .tuple #[]) (F:=[]) (U:=[]) hN3' (by simp[Gr,OH]) CV (by simp) (by simp) (A8 _) rfl rfl rfl λ_ _ _=>rfl;rw[k3];exact hk _ _ _ _ _ _ _ _ u1 u2 u3
def vP:Option (List TV)->List TV
 |some (_::ts)=>ts
 |_=>[]
def rt0:Option (Root×List Nat×Nat)->Root
 |some (r,_,_)=>r
 |none=> .hand
def s2E (E:St) (ops:Array Oper) (i:Nat) (t:TV):St:=(((((E.put (some<|Rn<|oA ops i)<|.one .junk).put (some<|Rn<|oA ops<|i+1)<|.one .junk).setRoot (.ext 0) (t::vP (E.boxes<|.ext 0))).bump<|.ext 0).put (some<|Rn<|oA ops<|i+2)<|.tup [])
theorem yQ {rr:β} {l:List γ} {kk:List γ->Option β} {b0:Nat} {x:Option (List γ)} (h:x.bind kk=some rr) {enc:γ->List TV} {a:FuncId} (hs:∀l',x=some l'->S4 P (Nc (oA ops (i+2))) t e sz enc a l l') (hk:∀l',x=some l'->kk l'=some rr->RW P N ops (i+3) (s2E E ops i (.sl true e sz (A6 enc l'))) Q) (b:∀x,(enc x).length=sz) (d:∀x,(enc x).all TV.flat=true) (hpin:E.amb.pin=some b0:=by kernel_rfl) (hx:E.slots (bH<|oA ops i)= .one (.view (.ext 0) (X9<|E.slots<|bH<|oA ops i) [] 0):=by kernel_rfl) (c:E.ver (.ext 0)=X9 (E.slots<|bH<|oA ops i):=by kernel_rfl) (hp:E.ptr? (.tmp<|YT<|oA ops<|i+1)=some (rt0<|E.ptr?<|.tmp<|YT<|oA ops<|i+1,[],0):=by kernel_rfl) (hc:E.boxes (.ext 0)=some (.sl true e sz (A6 enc l)::vP (E.boxes<|.ext 0)):=by kernel_rfl) (f:E.boxes (rt0<|E.ptr?<|.tmp<|YT<|oA ops<|i+1)=some [.adr ⟨b0,0,none⟩]:=by kernel_rfl) (hm:(rt0<|E.ptr?<|.tmp<|YT<|oA ops<|i+1).mem=true:=by kernel_rfl) (h1:(oA ops i).op= .makeInterface t (.tmp<|bH<|oA ops i):=by kernel_rfl) (h2:(oA ops<|i+1).op= .makeFunc (.func a) #[] #[.tmp<|YT<|oA ops<|i+1]:=by kernel_rfl) (h3:(oA ops<|i+2).op= .call {callee:= .value (.func<|Nc<|oA ops<|i+2),args:= #[.tmp<|Rn<|oA ops i,.tmp<|Rn<|oA ops<|i+1],argTypes:=wT (oA ops<|i+2)}:=by kernel_rfl) (k1:(oA ops i).dst=some (Rn<|oA ops i):=by kernel_rfl) (k2:(oA ops<|i+1).dst=some (Rn<|oA ops<|i+1):=by kernel_rfl) (k3:(oA ops<|i+2).dst=some (Rn<|oA ops<|i+2):=by kernel_rfl) (g1:(oA ops i).guard=none:=by kernel_rfl) (g2:(oA ops<|i+1).guard=none:=by kernel_rfl) (g3:(oA ops<|i+2).guard=none:=by kernel_rfl) (hN:(Nat.blt (Rn<|oA ops i) N&&Nat.blt (Rn<|oA ops<|i+1) N&&Nat.blt (Rn<|oA ops<|i+2) N&&!Nat.beq (Rn<|oA ops i) (Rn<|oA ops<|i+1)&&!Nat.beq (YT<|oA ops<|i+1) (Rn<|oA ops i)&&Nat.blt 0 sz&&Nat.blt (i+2) ops.size)=true:=by kernel_rfl) (ht:P.underlying t=some (.slice e):=by kernel_rfl) (hf:Qz P N (oA ops<|i+2)=true:=by kernel_rfl):RW P N ops i E Q:=by
 obtain⟨l',hl',h⟩:=Ae.1 h;simp only[Ai,DG]at hN;obtain⟨⟨⟨⟨⟨⟨q1,q2⟩,q3⟩,q4⟩,q5⟩,q6⟩,q7⟩:=hN;have b2:Nat.blt (i+1) ops.size=true:=by grind [DY]
 have b1:Nat.blt i ops.size=true:=by grind [DY]
 have hk':=hk l' hl' h;unfold RW at hk'⊢;rw[EU b1,EU b2,EU q7];exact vF (hs l' hl') hk' b d hpin hx c hp hc f hm h1 h2 h3 k1 k2 k3 g1 g2 g3 q1 q2 q3 q4 q5 q6 ht (M1 hf).choose_spec.choose_spec.2.1
theorem AA2 {a cells':List TV} {b:SV} (hf:P.funcs[f]?=some fn) (hb:fn.body=some c) (hN:fn.ntmps=N) (h:∀b0,Wp P N c (CU (.ext a::as) (cN b0)) λe E=>(e= .normal\/e= .ret)/\∃ss E',Di P E fn.results.toList=some (ss,E')/\D7 ss=b/\E'.boxes (.ext 0)=some cells') (d:cells'.isEmpty=false:=by rfl):A3 P f (.ext a::as) b (.ext cells'::List.replicate as.length .gone):=Wk cN tK hf hb (by rw[hN];exact h) d
def aB (P:Program) (N:Nat) (ops:Array Oper) (E:St) (i:Nat):Option (FuncId×Array Value×Int×Int):=bif OE P ops E i&&Gn N (oA ops i)then
 (match(oA ops i).op with
 | .call c=>match c.callee,c.args.toList with
  | .value (.tmp t),[o1,o2]=>match E.slots t,E.cell1 P 0 o1,E.cell1 P 0 o2 with
   | .one (.fn (.func g) fr cap),some<|.int .i64 x,some (.int .i64 y)=>bif fr.isEmpty then some (g,cap,x,y)else none
   |_,_,_=>none
  |_,_=>none
 |_=>none)else none
theorem Y3 {cap:Array Value} {x y:Int} (h:aB P N ops E i=some (g,cap,x,y)):OE P ops E i=true/\(∃d,(oA ops i).dst=some d/\Nat.blt d N=true)/\∃t o1 o2 tys,(oA ops i).op= .call {callee:= .value (.tmp t),args:= #[o1,o2],argTypes:=tys}/\E.slots t= .one (.fn (.func g) #[] cap)/\E.cell1 P 0 o1=some (.int .i64 x)/\E.cell1 P 0 o2=some (.int .i64 y):=by
 unfold aB at h
 cases hb:(OE P ops E i&&Gn N (oA ops i))with
 |false=>grind
 |true=>
  rw[hb]at h;simp only[Ai]at hb;obtain⟨d,h1,h2,_⟩:=DD hb.2;refine⟨hb.1,⟨d,h1,h2⟩,?_⟩;split at h
  ·rename_i c hc;split at h
   ·rename_i t o1 o2 k1 k2;split at h
    ·rename_i g' fr cap' x' y' m1 m2 m3
     cases he:fr.isEmpty with
     |false=>grind
     |true=>
      rw[he]at h;obtain⟨rfl,rfl,rfl,rfl⟩:=h;have a:fr= #[]:=by simpa using he
      subst a;have ha:c.args= #[o1,o2]:=Array.toList_inj.1 k2;rw[hc];cases c
      grind
    cases h
   cases h
  cases h
theorem lC {rr:β} {lt:γ->γ->Bool} {l:List γ} {k:γ×γ->Option β} {cap:Array Value} (a:HX P Am lt g cap) {x y:Int} (h:(nO l x y).bind k=some rr) (hk:∀v,k v=some rr->RW P N ops (i+1) (E.put (oA ops i).dst (.one (.bool (lt v.1 v.2)))) Q) (hc:aB P N ops E i=some (g,cap,x,y):=by kernel_rfl) (hA:E.amb=Am l:=by kernel_rfl):RW P N ops i E Q:=by
 obtain⟨h1,⟨d,h2,h3⟩,t,o1,o2,tys,h4,h5,h6,h7⟩:=Y3 hc;obtain⟨h8,h9⟩:=FL h1
 grind [EU,vG,RW]
theorem lB {rr:β} {l:List γ} {k:List γ->Option β} {cap:Array Value} (a:K8 P Am sf cap) (hB:∀l l',(Am l).B=(Am l').B/\(Am l).pin=none) {x y:Int} (h:(fG l x y).bind k=some rr) (hk:∀v,k v=some rr->RW P N ops (i+1) (({E with amb:=Am v}:St).put (oA ops i).dst<|.tup []) Q) (hc:aB P N ops E i=some (sf,cap,x,y):=by kernel_rfl) (hA:E.amb=Am l:=by kernel_rfl):RW P N ops i E Q:=by
 obtain⟨h1,⟨d,h2,h3⟩,t,o1,o2,tys,h4,h5,h6,h7⟩:=Y3 hc;obtain⟨h8,h9⟩:=FL h1
 grind [EU,vD,RW]
def wK (P:Program) (N:Nat) (ops:Array Oper) (E:St) (i:Nat):Option (FuncId×List AV):=bif OE P ops E i&&Gn N (oA ops i)then
 (match(oA ops i).op with
 | .call c=>match c.callee with
  | .value (.func f)=>match P.funcs[f]? with
   |some fn=>match Hs P E ((c.argTypes.toList.zip c.args.toList).map λ(t,x)=>(false,t,x)) (List.replicate c.args.size none)with
    | some (l, b) => bif b && (l.all iH && (!(fn.name == "runtime.NumGoroutine") && (!fn.body.isNone && Nat.beq c.argTypes.size c.args.size))) then some (f, l) else none
    |none=>none
   |none=>none
  |_=>none
 |_=>none)else none
theorem PF {rr:β} {l:List AV} {k:List γ->Option β} {x:Option (List γ)} (h:x.bind k=some rr) (hB:∀l l',(Am l).B=(Am l').B/\(Am l).pin=none) (a:∀v,x=some v->KA P f (Am xl) l (Am v)) (hk:∀v,k v=some rr->RW P N ops (i+1) (({E with amb:=Am v}:St).put (oA ops i).dst<|.tup []) Q) (hc:wK P N ops E i=some (f,l):=by kernel_rfl) (hA:E.amb=Am xl:=by kernel_rfl):RW P N ops i E Q:=by
 unfold wK at hc
 cases hb:(OE P ops E i&&Gn N (oA ops i))with
 |false=>grind
 |true=>
  rw[hb]at hc;simp only[Ai]at hb;obtain⟨d,h1,h2,_⟩:=DD hb.2;obtain⟨h8,h9⟩:=FL hb.1;split at hc
  ·rename_i c g;split at hc
   ·split at hc
    ·rename_i fn e;split at hc
     ·rename_i l' b hsh
      cases hq : (b && (l'.all iH && (!(fn.name == "runtime.NumGoroutine") && (!fn.body.isNone && Nat.beq c.argTypes.size c.args.size)))) with
      |false=>grind
      |true=>
       rw[hq]at hc;obtain⟨rfl,rfl⟩:=hc;simp only[Ai,DG]at hq;obtain⟨rfl,q1,q2,q3,q4⟩:=hq;unfold RW;rw[EU h8];refine yY (fn:=fn) h d Am (A:=Am xl) (args:=c.args) (tys:=c.argTypes) ?_ hA (λv=>⟨(hB _ _).1,(hB _ v).2⟩) hsh (WE q1) a (λv _ hv=>by have:=hk v hv;rw[h1]at this;exact this) e q2 q3 h1 h2 (AP q4) h9;cases c
       grind
     cases hc
    cases hc
   cases hc
  cases hc
theorem ra {Am:α->OC} {e:Exit} {v r:α} (h:some v=some r) (he:e= .normal\/e= .ret:=by first|exact .inr rfl|exact .inl rfl) (hA:E.amb=Am v:=by kernel_rfl):(e= .normal\/e= .ret)/\E.amb=Am r:=by grind
structure RS where
 s:List (Nat×SV)
 b:List (Root×List TV)
 a:OC
def RS.st (x:RS):St:=z8 x.s x.b x.a
abbrev rs (s:List (Nat×SV)) (b:List (Root×List TV)):RS:=⟨s,b,OC.none⟩
abbrev Pc (s:List (Nat×SV)) (b:List (Root×List TV)) (a:OC):RS:=⟨s,b,a⟩
def RS.in (X:RS) (E:St):Bool:=X.b.all λr=>r.1.mem&&(E.boxes r.1).isSome
def RS.nf (X:RS) (E:St):St:=K4 E (X.s.map Prod.fst)<|X.b.map Prod.fst
def UE (X:RS) (E:St):Prop:=X.in E=true/\X.nf E=X.st
def jR (H:V->RS) (v:Option V) (Q:Exit->St->Prop):Exit->St->Prop
 | .normal,E=>∃a,v=some a/\UE (H a) E
 |e,E=>Q e E
def lR (id:Nat) (H:S->RS) (H2:V->RS) (o:S⊕V⊕W) (Q:Exit->St->Prop):Exit->St->Prop
 | .normal,E=>∃s,o= .inl s/\UE (H s) E
 | .exit i,E=>if i=id then∃v,o= .inr (.inl v)/\UE (H2 v) E else Q (.exit i) E
 |e,E=>Q e E
def lR1 (id:Nat) (H:S->RS) (H2:V->RS) (o:S⊕V) (Q:Exit->St->Prop):Exit->St->Prop
 | .normal,E=>∃s,o= .inl s/\UE (H s) E
 | .exit i,E=>if i=id then∃v,o= .inr v/\UE (H2 v) E else Q (.exit i) E
 |e,E=>Q e E
variable {X:RS} {H:V->RS} {H2:V->RS}
theorem Au (h:UE X E) (hw:Wp P N c X.st Q):Wp P N c E Q:=Wp.norm _ _ _ (by rw[List.all_map];exact h.1) h.2 hw
theorem SA {x:Option V} (h:x.bind k=some r) (H:V->RS) (h1:∀a,x=some a->Wp P N c E (jR H (some a) Q)) (h2:∀a,k a=some r->∀E',UE (H a) E'->Q .normal E'):Wp P N c E Q:=by
 obtain⟨a,ha,h⟩:=Ae.1 h
 refine Wp.mono (h1 a ha) λe E' hq=>?_
 cases e<;>try exact hq
 obtain⟨a',h3,h4⟩:=hq
 grind
theorem fj2 {k:V⊕W->Option β} {x:Option (V⊕W)} (h:x.bind k=some r) (H:V->RS) (h1:∀a,x=some a->k a=some r->Wp P N c E (jR H a.getLeft? Q)) (h2:∀a,k (.inl a)=some r->∀E',UE (H a) E'->Q .normal E'):Wp P N c E Q:=by
 obtain⟨a,ha,h⟩:=Ae.1 h
 refine Wp.mono (h1 a ha h) λe E' hq=>?_
 cases e<;>try exact hq
 obtain⟨a',h3,h4⟩:=hq
 grind
theorem Pd {H:S->RS} {Q':Exit->St->Prop} {body:S->Option (S⊕A)} {a:A} (hb:∀s o,body s=some o->(∀a',o= .inr a'->a'=a)->Wp P N c (H s).st (λe E=>match e with| .normal=>∃s,o= .inl s/\UE (H s) E|e=>Q' e E)):
  ∀{n:Nat} {s:S} {E:St},UE (H s) E->NI body n s=some a->aP P N c Q' n E
 |0,s,E,_,h=>by cases h
 |n+1,s,E,hn,h=>by
  simp only[NI]at h;refine Au hn ?_;split at h
  ·cases h
  ·rename_i s' hs
   refine Wp.mono (hb s _ hs (λa' h=>by cases h)) λe E' hq=>?_
   cases e<;>try exact hq
   obtain⟨s2,h2,h3⟩:=hq
   injection h2 with h2
   subst h2;exact Pd hb h3 h
  rename_i a' hs
  refine Wp.mono (hb s _ hs λa2 h2=>by grind) λe E' hq=>?_
  cases e<;>try exact hq
  grind
theorem AAe {id:Nat} {k:V⊕W->Option β} {H:S->RS} {body:S->Option (S⊕V⊕W)} (h:(Aj body s0).bind k=some r) (h0:UE (H s0) E) (hb:∀s o,body s=some o->(∀w,o= .inr (.inr w)->k (.inr w)=some r)->Wp P N c (H s).st (lR id H H2 o Q)) (h2:∀v,k (.inl v)=some r->∀E',UE (H2 v) E'->Q .normal E'):Wp P N (.block id (.loop c)) E Q:=by
 obtain⟨a,ha,h⟩:=Ae.1 h;obtain⟨n,hn⟩:=Ga.1 ha;refine Wp.block<|Wp.loop n<|Pd (H:=H) (a:=a) (λs o hs ho=>?_) h0 hn
 refine Wp.mono (hb s o hs λw hw=>by grind) λe E' hq=>?_
 simp_all [lR,Tr];grind
theorem AAf {id:Nat} {H:S->RS} {body:S->Option (S⊕V)} (h:(Aj body s0).bind k=some r) (h0:UE (H s0) E) (hb:∀s o,body s=some o->Wp P N c (H s).st (lR1 id H H2 o Q)) (h2:∀v,k v=some r->∀E',UE (H2 v) E'->Q .normal E'):Wp P N (.block id (.loop c)) E Q:=by
 obtain⟨a,ha,h⟩:=Ae.1 h;obtain⟨n,hn⟩:=Ga.1 ha;refine Wp.block<|Wp.loop n<|Pd (H:=H) (a:=a) (λs o hs ho=>?_) h0 hn
 refine Wp.mono (hb s o hs) λe E' hq=>?_
 simp_all [lR1,Tr];grind
theorem LV {id:Nat} {k:V⊕W->Option β} {body:S->Option (S⊕V⊕W)} (h:(Aj body s0).bind k=some r) (H:S->RS) (H2:V->RS) (hb:∀s o,body s=some o->(∀w,o= .inr (.inr w)->k (.inr w)=some r)->Wp P N c (H s).st (lR id H H2 o Q)) (h2:∀v,k (.inl v)=some r->∀E',UE (H2 v) E'->Q .normal E') (h0:(H s0).in E=true:=by kernel_rfl) (hn:(H s0).nf E=(H s0).st:=by kernel_rfl):Wp P N (.block id<|.loop c) E Q:=AAe h ⟨h0,hn⟩ hb h2
theorem ES {id:Nat} {body:S->Option (S⊕V)} (h:(Aj body s0).bind k=some r) (H:S->RS) (H2:V->RS) (hb:∀s o,body s=some o->Wp P N c (H s).st (lR1 id H H2 o Q)) (h2:∀v,k v=some r->∀E',UE (H2 v) E'->Q .normal E') (h0:(H s0).in E=true:=by kernel_rfl) (hn:(H s0).nf E=(H s0).st:=by kernel_rfl):Wp P N (.block id<|.loop c) E Q:=AAf h ⟨h0,hn⟩ hb h2
theorem DB {x:Option V} (h:x.bind k=some r) (H:V->RS) (h1:∀a,x=some a->Wp P N c E (jR H (some a) (HZ (λE'=>Wp P N y E' Q) Q))) (h2:∀a,k a=some r->Wp P N y (H a).st Q):Wp P N (.seq c y) E Q:=Wp.seq<|SA h H h1 λa ha E' hE=>Au hE<|h2 a ha
theorem sN {id:Nat} {body:S->Option (S⊕V)} (h:(Aj body s0).bind k=some r) (H:S->RS) (H2:V->RS) (hb:∀s o,body s=some o->Wp P N c (H s).st (lR1 id H H2 o (HZ (λE'=>Wp P N y E' Q) Q))) (h2:∀v,k v=some r->Wp P N y (H2 v).st Q) (h0:(H s0).in E=true:=by kernel_rfl) (hn:(H s0).nf E=(H s0).st:=by kernel_rfl):Wp P N (.seq (.block id<|.loop c) y) E Q:=Wp.seq<|AAf h ⟨h0,hn⟩ hb λv hv E' hE=>Au hE<|h2 v hv
theorem yl2 {id:Nat} {k:V⊕W->Option β} {body:S->Option (S⊕V⊕W)} (h:(Aj body s0).bind k=some r) (H:S->RS) (H2:V->RS) (hb:∀s o,body s=some o->(∀w,o= .inr (.inr w)->k (.inr w)=some r)->Wp P N c (H s).st (lR id H H2 o (HZ (λE'=>Wp P N y E' Q) Q))) (h2:∀v,k (.inl v)=some r->Wp P N y (H2 v).st Q) (h0:(H s0).in E=true:=by kernel_rfl) (hn:(H s0).nf E=(H s0).st:=by kernel_rfl):Wp P N (.seq (.block id<|.loop c) y) E Q:=Wp.seq<|AAe h ⟨h0,hn⟩ hb λv hv E' hE=>Au hE<|h2 v hv
theorem en {a v:V} (h:some v=some a) (hb:(H v).in E=true:=by kernel_rfl) (hn:(H v).nf E=(H v).st:=by kernel_rfl):∃a',some a=some a'/\UE (H a') E:=by
 injection h with h
 subst h;exact⟨_,rfl,hb,hn⟩
theorem em {a:V⊕W} {v:V} (h:some (.inl v)=some a) (hb:(H v).in E=true:=by kernel_rfl) (hn:(H v).nf E=(H v).st:=by kernel_rfl):∃a',a.getLeft? =some a'/\UE (H a') E:=by
 injection h with h
 subst h;exact⟨_,rfl,hb,hn⟩
theorem el {H:S->RS} {o:S⊕W} {s:S} (h:some (.inl s)=some o) (hb:(H s).in E=true:=by kernel_rfl) (hn:(H s).nf E=(H s).st:=by kernel_rfl):∃s,o= .inl s/\UE (H s) E:=by
 injection h with h
 subst h;exact⟨_,rfl,hb,hn⟩
theorem ex {o:S⊕(V⊕W)} {v:V} (h:some (.inr (.inl v))=some o) (hb:(H v).in E=true:=by kernel_rfl) (hn:(H v).nf E=(H v).st:=by kernel_rfl):∃v,o= .inr (.inl v)/\UE (H v) E:=by
 injection h with h
 subst h;exact⟨_,rfl,hb,hn⟩
theorem ev {o:S⊕V} {v:V} (h:some (.inr v)=some o) (hb:(H v).in E=true:=by kernel_rfl) (hn:(H v).nf E=(H v).st:=by kernel_rfl):∃v,o= .inr v/\UE (H v) E:=by
 injection h with h
 subst h;exact⟨_,rfl,hb,hn⟩
def xJ (P:Program) (N:Nat) (ops:Array Oper) (ts mv dn:List Nat) (E:St) (X:RS):Bool:=match mC P N ops ts mv (ops.size+1) dn E with
 |some L=>L.all λE'=>X.in E'
 |none=>false
theorem tN {ts:List Nat} (hb:xJ P N ops ts mv dn E X=true) (hn:(pH P N ops ts mv dn E).map X.nf=(pH P N ops ts mv dn E).map λ_=>X.st) (hq:∀E',UE X E'->Q .normal E'):KW P N ops ts dn E Q:=by
 unfold xJ at hb;split at hb
 ·rename_i L hL
  refine iV hL λE' hE=>hq E' ⟨List.all_eq_true.1 hb E' hE,?_⟩
  simp_all [pH]
 cases hb
section
variable {ts:List Nat}
theorem KF {Q0:Exit->St->Prop} {a v:V} (mv:List Nat) (h:some v=some a) (hb:xJ P N ops ts mv dn E (H v)=true:=by kernel_rfl) (hn:(pH P N ops ts mv dn E).map (H v).nf=(pH P N ops ts mv dn E).map (λ_=>(H v).st):=by kernel_rfl):KW P N ops ts dn E (jR H (some a) Q0):=
 tN hb hn λE' hE=>by
  injection h with h
  subst h;exact⟨_,rfl,hE⟩
end
theorem rk (k:Nat) (h:RW P N ops (i+k) (MP P N ops k 0 i E) Q) (hk:(O8 P N ops k 0 i E).isSome=true:=by kernel_rfl):RW P N ops i E Q:=nJ k 0 h hk
theorem rkm (k m:Nat) (h:RW P N ops (i+k) (MP P N ops k m i E) Q) (hk:(O8 P N ops k m i E).isSome=true:=by kernel_rfl):RW P N ops i E Q:=nJ k m h hk
theorem tE (a b:Nat):Nat.ble a (b+(a-b))=true:=by rw[vC];omega
theorem gm (m:Nat) (h:Q .normal (MP P N ops (ops.size-i) m i E)) (hk:(O8 P N ops (ops.size-i) m i E).isSome=true:=by kernel_rfl):RW P N ops i E Q:=nJ (ops.size-i) m (RW.nil h<|tE _ _) hk
theorem g0 (h:Q .normal (MP P N ops (ops.size-i) 0 i E)) (hk:(O8 P N ops (ops.size-i) 0 i E).isSome=true:=by kernel_rfl):RW P N ops i E Q:=gm 0 h hk
section
variable {id:Nat}
theorem wm (m:Nat) (h:RW P N ops2 0 (MP P N ops (ops.size-i) m i E) (HZ (λE'=>Wp P N y E' Q) Q)) (hk:(O8 P N ops (ops.size-i) m i E).isSome=true:=by kernel_rfl):RW P N ops i E (HZ (λE'=>Wp P N (.seq (.region id ops2 false) y) E' Q) Q):=gm m (ws h) hk
end
section
variable {id:Nat}
theorem w0 (h:RW P N ops2 0 (MP P N ops (ops.size-i) 0 i E) (HZ (λE'=>Wp P N y E' Q) Q)) (hk:(O8 P N ops (ops.size-i) 0 i E).isSome=true:=by kernel_rfl):RW P N ops i E (HZ (λE'=>Wp P N (.seq (.region id ops2 false) y) E' Q) Q):=wm 0 h hk
end
section
variable {id:Nat}
theorem wg (h:HZ (λE'=>Wp P N y E' Q) Q .normal (MP P N ops (ops.size-0) 0 0 E)) (hk:(O8 P N ops (ops.size-0) 0 0 E).isSome=true:=by kernel_rfl):Wp P N (.seq (.region id ops false) y) E Q:=ws<|g0 h hk
end
section
variable {x:Code}
theorem qs (h:Wp P N x E (HZ (λE'=>Wp P N y E' Q) Q)):Wp P N (.seq x y) E Q:=Wp.seq h
end
theorem qk (h:Q .normal E):Wp P N .skip E Q:=Wp.skip h
theorem qt (h:Q .ret E):Wp P N .ret E Q:=Wp.ret h
theorem qx {id:Nat} (h:Q (.exit id) E):Wp P N (.exit id) E Q:=Wp.exit h
theorem qb {id:Nat} (h:Wp P N c E (Tr id Q)):Wp P N (.block id c) E Q:=Wp.block h
theorem qr {id:Nat} (h:RW P N ops 0 E Q):Wp P N (.region id ops false) E Q:=wN h
section
variable {id:Nat}
theorem qd {Q1:Exit->St->Prop} (h:Wp P N c E (Tr id (HZ (λE'=>Wp P N y E' Q1) Q1))):Wp P N .skip E (HZ (λE'=>Wp P N (.seq (.block id c) y) E' Q1) Q1):=qk<|qs<|qb h
end
section
variable {id:Nat}
theorem qw {z:Code} (h:HZ (λE'=>Wp P N y E' (HZ (λE'=>Wp P N z E' Q) Q)) (HZ (λE'=>Wp P N z E' Q) Q) .normal (MP P N ops (ops.size-0) 0 0 E)) (hk:(O8 P N ops (ops.size-0) 0 0 E).isSome=true:=by kernel_rfl):Wp P N (.seq (.seq (.region id ops false) y) z) E Q:=qs<|wg h hk
end
section
variable {id:Nat}
theorem qv {z:Code} (h:RW P N ops 0 E (HZ (λE'=>Wp P N y E' (HZ (λE'=>Wp P N z E' Q) Q)) (HZ (λE'=>Wp P N z E' Q) Q))):Wp P N (.seq (.seq (.region id ops false) y) z) E Q:=qs<|ws h
end
theorem wq {id:Nat} (h:Q .ret (MP P N ops (ops.size-0) 0 0 E)) (hk:(O8 P N ops (ops.size-0) 0 0 E).isSome=true:=by kernel_rfl):Wp P N (.seq (.region id ops false) .ret) E Q:=wg (qt h) hk
theorem aq {s:SV} (hp:AK P E (oA ops i)=some s) (h:RW P N ops (i+1) (E.put (oA ops i).dst s) Q) (hk:o7 P N ops i E=true:=by kernel_rfl):RW P N ops i E Q:=RW.q hp h hk
theorem Cx {s:SV} (k:Nat) (hp:AK P (MP P N ops k 0 i E) (oA ops (i+k))=some s) (h:RW P N ops (i+k+1) ((MP P N ops k 0 i E).put (oA ops (i+k)).dst s) Q) (hk:(O8 P N ops k 0 i E).isSome=true:=by kernel_rfl) (hq:o7 P N ops (i+k) (MP P N ops k 0 i E)=true:=by kernel_rfl):RW P N ops i E Q:=nJ k 0 (RW.q hp h hq) hk
theorem kq {ts:List Nat} {s:SV} (i:Nat) (hp:AK P E (oA ops i)=some s) (h:KW P N ops ts (i::dn) (E.put (oA ops i).dst s) Q) (hk:(o7 P N ops i E&&lF ops ts dn i)=true:=by kernel_rfl):KW P N ops ts dn E Q:=KW.q i hp h hk
theorem ac {l:List AV} {x:Option α} (h:x.bind kk=some r) {enc:α->SV} (a:∀v,x=some v->A3 P (Nc (oA ops i)) l (enc v) (List.replicate n .gone)) (hk:∀v,kk v=some r->RW P N ops (i+1) ((sL P E (oA ops i) 0).put (oA ops i).dst (enc v)) Q) (hsh:Ui P E (oA ops i) 0=some l:=by kernel_rfl) (hc:sH P E (oA ops i) 0=true\/∀v,AE (enc v)=false:=by exact .inl<|by kernel_rfl) (ho:(OE P ops E i&&Qz P N (oA ops i))=true:=by kernel_rfl):RW P N ops i E Q:=RW.c 0 h a (λv _=>hk v) hsh hc ho
theorem Br {l:List AV} {x:Option α} (k:Nat) (h:x.bind kk=some r) {enc:α->SV} (a:∀v,x=some v->A3 P (Nc (oA ops (i+k))) l (enc v) (List.replicate n .gone)) (hk:∀v,kk v=some r->RW P N ops (i+k+1) ((sL P (MP P N ops k 0 i E) (oA ops (i+k)) 0).put (oA ops (i+k)).dst (enc v)) Q) (hr:(O8 P N ops k 0 i E).isSome=true:=by kernel_rfl) (hsh:Ui P (MP P N ops k 0 i E) (oA ops<|i+k) 0=some l:=by kernel_rfl) (hc:sH P (MP P N ops k 0 i E) (oA ops<|i+k) 0=true\/∀v,AE (enc v)=false:=by exact .inl<|by kernel_rfl) (ho:(OE P ops (MP P N ops k 0 i E) (i+k)&&Qz P N (oA ops<|i+k))=true:=by kernel_rfl):RW P N ops i E Q:=nJ k 0 (RW.c 0 h a (λv _=>hk v) hsh hc ho) hr
theorem acm {l:List AV} {x:Option α} (m:Nat) (h:x.bind kk=some r) {enc:α->SV} (a:∀v,x=some v->A3 P (Nc (oA ops i)) l (enc v) (List.replicate n .gone)) (hk:∀v,kk v=some r->RW P N ops (i+1) ((sL P E (oA ops i) m).put (oA ops i).dst (enc v)) Q) (hsh:Ui P E (oA ops i) m=some l:=by kernel_rfl) (hc:sH P E (oA ops i) m=true\/∀v,AE (enc v)=false:=by exact .inl<|by kernel_rfl) (ho:(OE P ops E i&&Qz P N (oA ops i))=true:=by kernel_rfl):RW P N ops i E Q:=RW.c m h a (λv _=>hk v) hsh hc ho
section
variable {ts:List Nat}
theorem ER {l:List AV} {x:Option α} (m:Nat) (h:x.bind kk=some r) {enc:α->SV} (a:∀v,x=some v->A3 P (Nc (oA ops i)) l (enc v) (List.replicate n .gone)) (hk:∀v,kk v=some r->KW P N ops ts (i::dn) ((sL P E (oA ops i) m).put (oA ops i).dst (enc v)) Q) (hsh:Ui P E (oA ops i) m=some l:=by kernel_rfl) (hc:sH P E (oA ops i) m=true\/∀v,AE (enc v)=false:=by exact .inl<|by kernel_rfl) (ho:(OE P ops E i&&Qz P N (oA ops i)&&((bits m<|Eg<|oA ops i).all (λx=>!x.1)||ts.contains i))=true:=by kernel_rfl):KB P N ops ts dn i E Q:=KB.c m h a (λv _=>hk v) hsh hc ho
end
theorem JR {l:List AV} {x:Option α} (h:x.bind kk=some r) {enc:α->SV} {a:List TV} (c:∀v,x=some v->A3 P (Nc (oA ops i)) (.ext a::l) (enc v) (.ext (fin v)::List.replicate n .gone)) (hk:∀v,kk v=some r->RW P N ops (i+1) (((E.setRoot (dW E (oA ops i)) (fin v)).bump (dW E (oA ops i))).put (oA ops i).dst (enc v)) Q) (b:∀v,(fin v).length=a.length:=by exact λ_=>rfl) (hsh:nA P E (oA ops i)=some l:=by kernel_rfl) (hb:E.boxes (dW E<|oA ops i)=some a:=by kernel_rfl) (hc:zD P E (oA ops i)=true\/∀v,AE (enc v)=false/\Aw (fin v)=false:=by exact .inl<|by kernel_rfl) (ho:(OE P ops E i&&Qz P N (oA ops i)&&m9 E (oA ops i))=true:=by kernel_rfl):RW P N ops i E Q:=AAs h c b (λv _=>hk v) hsh hb hc ho
theorem Jv {ts:List Nat} {l:List AV} {x:Option α} (h:x.bind kk=some r) {enc:α->SV} {a:List TV} (c:∀v,x=some v->A3 P (Nc (oA ops i)) (.ext a::l) (enc v) (.ext (fin v)::List.replicate n .gone)) (hk:∀v,kk v=some r->KW P N ops ts (i::dn) (((E.setRoot (dW E (oA ops i)) (fin v)).bump (dW E (oA ops i))).put (oA ops i).dst (enc v)) Q) (b:∀v,(fin v).length=a.length:=by exact λ_=>rfl) (hsh:nA P E (oA ops i)=some l:=by kernel_rfl) (hb:E.boxes (dW E<|oA ops i)=some a:=by kernel_rfl) (hc:zD P E (oA ops i)=true\/∀v,AE (enc v)=false/\Aw (fin v)=false:=by exact .inl<|by kernel_rfl) (ho:(OE P ops E i&&Qz P N (oA ops i)&&m9 E (oA ops i)&&ts.contains i)=true:=by kernel_rfl):KB P N ops ts dn i E Q:=AAw h c b (λv _=>hk v) hsh hb hc ho
theorem BO {tx ty:Option β} {b:Bool} (k t:Nat) (h:(bif b then tx else ty)=some r) (ht:tx=some r->RW P N ops (i+k) ((MP P N ops k 0 i E).rs t true) Q) (hf:ty=some r->RW P N ops (i+k) ((MP P N ops k 0 i E).rs t false) Q) (hr:(O8 P N ops k 0 i E).isSome=true:=by kernel_rfl) (hc:(MP P N ops k 0 i E).slots t=B b:=by kernel_rfl):RW P N ops i E Q:=nJ k 0 (AAp t h ht hf hc) hr
def WC (fn:Func):Code:=fn.body.getD .skip
theorem Tq (h:fn.body.isSome=true):fn.body=some (WC fn):=by
 unfold WC
 cases e:fn.body with
 |none=>grind
 |some c=>rfl
theorem gf {a:SV} (hf:P.funcs[f]?=some fn) (hN:fn.ntmps=N) (h:Wp P N (WC fn) (CU as) λe E=>(e= .normal\/e= .ret)/\∃ss E',Di P E fn.results.toList=some (ss,E')/\D7 ss=a) (hb:fn.body.isSome=true:=by kernel_rfl):A3 P f as a (List.replicate as.length .gone):=gk hf (Tq hb) hN h
theorem zC {A':OC} (hf:P.funcs[f]?=some fn) (hN:fn.ntmps=N) (hB:∀l l',(Am l).B=(Am l').B/\(Am l).pin=none) (h:Wp P N (WC fn) (CU as (Am xl)) λe E=>(e= .normal\/e= .ret)/\E.amb=A') (hb:fn.body.isSome=true:=by kernel_rfl) (hr:fn.results= #[]:=by rfl):KA P f (Am xl) as A':=mZ hf (Tq hb) hr (hB xl xl).2 (by rw[hN];exact h)
theorem fC {a cells':List TV} {b:SV} (hf:P.funcs[f]?=some fn) (hN:fn.ntmps=N) (h:Wp P N (WC fn) (CU (.ext a::as)) λe E=>(e= .normal\/e= .ret)/\∃ss E',Di P E fn.results.toList=some (ss,E')/\D7 ss=b/\E'.boxes (.ext 0)=some cells') (hb:fn.body.isSome=true:=by kernel_rfl) (c:cells'.isEmpty=false:=by rfl):A3 P f (.ext a::as) b (.ext cells'::List.replicate as.length .gone):=gkx hf (Tq hb) hN h c
theorem AAZ (h:UE X E) {a:List TV} (hc:X.st.boxes (.ext 0)=some a:=by kernel_rfl):(Exit.normal= .normal\/Exit.normal= .ret)/\∃ss E1,Di P E []=some (ss,E1)/\D7 ss= .tup []/\E1.boxes (.ext 0)=some a:=by
 refine⟨.inl rfl,[],E,rfl,rfl,?_⟩;obtain⟨h1,h2⟩:=h;rw[<-h2]at hc;unfold RS.nf at hc;by_cases hm:(X.b.map Prod.fst).contains (.ext 0)=true
 ·have e:(K4 E (X.s.map Prod.fst)<|X.b.map Prod.fst).boxes (.ext 0)=some ((E.boxes<|.ext 0).getD []):=by
   show((X.b.map Prod.fst).map λr=>(r,(E.boxes r).getD [])).lookup (.ext 0)=_;rw[KU (f:=λr=>(E.boxes r).getD []),Cl hm]
  rw[e]at hc;unfold RS.in at h1
  cases he:E.boxes (.ext 0)with
  |none=>grind
  |some v=>grind
 have e:(K4 E (X.s.map Prod.fst)<|X.b.map Prod.fst).boxes (.ext 0)=none:=by
  show((X.b.map Prod.fst).map λr=>(r,(E.boxes r).getD [])).lookup (.ext 0)=_
  grind
 grind
theorem tV {Am:α->OC} {v r:α} (h:some v=some r) (hE:UE X E) (hX:X.st.amb=Am v:=by kernel_rfl):(Exit.normal= .normal\/Exit.normal= .ret)/\E.amb=Am r:=by
 injection h with h
 rw[<-h,<-hX,<-hE.2];exact⟨.inl rfl,rfl⟩
def ZY:TV->List TV->TV
 | .sl _ e s _,row=> .sl true e s row
 |t,_=>t
def LF (cs:List TV) (j:Nat) (a:List TV):List TV:=match cs[j]? with
 |some t=>cs.set j<|ZY t a
 |none=>cs
theorem Wo {cs:List TV} {a:List TV} (h:cs[j]?=some (.sl true e s a)) (c:Nat):(LF cs j (AF a))[c]?=if c=j then some (.sl true e s (AF a))else cs[c]? :=by
 simp only[LF,h,ZY]
 grind
theorem m6 {cs:List TV} {a:List TV} (h:cs[j]?=some (.sl true e s a)) (hq:Bp cs q=some r1) (i:Nat):
  ∃r2,Bp (LF cs j (AF a)) q=some r2/\(r1[i]?.isSome=true->r2[i]?.isSome=true)/\(GJ r1[i]?=true->GJ r2[i]?=true):=by
 cases q with
 |nil=>
  injection hq with hq
  subst hq;refine⟨_,rfl,?_,?_⟩
  ·rw[Wo h]
   grind
  rw[Wo h];split
  ·intro _;rfl
  exact id
 |cons c q=>
  simp only[Bp,Wo h];simp only[Bp]at hq;by_cases hc:c=j
  ·subst hc;rw[h]at hq;rw[Cl rfl];simp only[PB,hq,EJ];refine⟨_,rfl,?_,?_⟩
   ·rw[Gv];simp
   rw[Gv]
   cases r1[i]? with
   |none=>exact id
   |some t=>simp only[GJ,EJ,Vt];exact id
  grind
theorem SU:∀{ts:List TV} {vs:List Value} {F U:List Nat} {j:Nat} {t:TV},Bj w ts vs F U->ts[j]?=some t->F.Nodup->(∀v F1 U1,F1.Nodup->CK w t v F1 U1->∃F2 U2,CK w t' v F2 U2/\Dy F1 U1 F2 U2)->
  ∃F' U',Bj w (ts.set j t') vs F' U'/\Dy F U F' U'
 |[],vs,F,U,j,t,h,hj,_,_=>by simp at hj
 |x::ts,vs,F,U,0,t,h,hj,hn,hk=>by
  simp at hj;subst hj;obtain⟨v,a,F1,F2,U1,U2,rfl,rfl,rfl,h1,h2⟩:=h;obtain⟨F1',U1',a1,a2⟩:=hk v F1 U1 (BB.1 hn).1 h1;exact⟨F1'++F2,U1'++U2,by simp only[List.set_cons_zero,Bj];grind,Il hn a2 Dy.refl⟩
 |x::ts,vs,F,U,j+1,t,h,hj,hn,hk=>by
  obtain⟨v,a,F1,F2,U1,U2,rfl,rfl,rfl,h1,h2⟩:=h;obtain⟨F2',U2',a1,a2⟩:=SU h2 (by simpa using hj) (BB.1 hn).2.1 hk;exact⟨F1++F2',U1++U2',by simp only[List.set_cons_succ,Bj];grind,Il hn Dy.refl a2⟩
theorem TR {a:Act} {blk:Root->Nat}:∀{ts:List TV} {vs:List Value} {F U:List Nat} {j:Nat} {t:TV},BZ w a E blk ts vs F U->ts[j]?=some t->F.Nodup->(∀v F1 U1,F1.Nodup->CR w a E blk t v F1 U1->∃F2 U2,CR w a E blk t' v F2 U2/\Dy F1 U1 F2 U2)->
  ∃F' U',BZ w a E blk (ts.set j t') vs F' U'/\Dy F U F' U'
 |[],vs,F,U,j,t,h,hj,_,_=>by simp at hj
 |x::ts,vs,F,U,0,t,h,hj,hn,hk=>by
  simp at hj;subst hj;obtain⟨v,b,F1,F2,U1,U2,rfl,rfl,rfl,h1,h2⟩:=h;obtain⟨F1',U1',a1,a2⟩:=hk v F1 U1 (BB.1 hn).1 h1;exact⟨F1'++F2,U1'++U2,by exact⟨v,b,F1',F2,U1',U2,rfl,rfl,rfl,a1,h2⟩,Il hn a2 Dy.refl⟩
 |x::ts,vs,F,U,j+1,t,h,hj,hn,hk=>by
  obtain⟨v,b,F1,F2,U1,U2,rfl,rfl,rfl,h1,h2⟩:=h;obtain⟨F2',U2',a1,a2⟩:=TR h2 (by simpa using hj) (BB.1 hn).2.1 hk;exact⟨F1++F2',U1++U2',by exact⟨v,b,F1,F2',U1,U2',rfl,rfl,rfl,h1,a1⟩,Il hn Dy.refl a2⟩
def yE (E:St) (r:Root) (j:Nat) (a:List TV):St:=match E.root r with
 |some cs=>E.setRoot r<|LF cs j a
 |none=>E
theorem dN {a:Act} {r:Root} {cs:List TV} {b:List TV} (hr:E.root r=some cs) (hj:cs[j]?=some (.sl true e s b)) (hh:r≠ .hand) (R:Root):BF w w a a E (E.setRoot r (LF cs j (AF b))) blk blk R:=by
 have d:(E.setRoot r<|LF cs j<|AF b).ver=E.ver:=by cases r<;>rfl
 have f:(E.setRoot r<|LF cs j<|AF b).gen=E.gen:=by cases r<;>rfl
 have g:(LF cs j<|AF b).length=cs.length:=by simp[LF,hj]
 have c:∀cs0,E.root R=some cs0->∃cs1,(E.setRoot r<|LF cs j<|AF b).root R=some cs1/\∀q r1,Bp cs0 q=some r1->∀i:Nat,∃r2,Bp cs1 q=some r2/\(r1[i]?.isSome=true->r2[i]?.isSome=true)/\(GJ r1[i]?=true->GJ r2[i]?=true):=by
  intro cs0 h0;by_cases hR:R=r
  ·subst hR;rw[hr]at h0
   injection h0 with h0
   subst h0;refine⟨LF cs j<|AF b,?_,λq r1 hq i=>m6 hj hq i⟩
   cases R with
   |slot n=>
    simp only[St.root,St.setRoot,B3,Cm]at hr⊢
    injection hr with hr
    congr 1
    cases hs:E.slots n with
    |one t=>
     rw[hs]at hr;subst hr;have:(LF [t] j<|AF b).length=1:=g
     match hf:LF [t] j (AF b),this with
     |[x],_=>rfl
    |agg ts=>rfl
    |tup ss=>
     simp only[SV.cells]at hr
     grind
   |box n=>simp[St.root,St.setRoot,B3]
   |ext n=>simp[St.root,St.setRoot,B3]
   |hand=>exact absurd rfl hh
  refine⟨cs0,?_,λq r1 hq i=>⟨r1,hq,id,id⟩⟩;rw[<-h0];cases r<;>cases R<;>simp only[St.root,St.setRoot,B3]<;>first
   |exact absurd rfl hh
   |rfl
   |grind
   |(rw[BE];intro e;injection e with e;exact hR<|by rw[e])
   |(rw[BE];intro e;cases e)
 constructor
 ·refine .inr ⟨by rw[d],λq i v h1 h2=>⟨h1,?_⟩,λq i ad hq h1 h2=>⟨h1,?_⟩⟩
  ·unfold St.place at h2⊢
   cases h0:E.root R with
   |none=>rw[h0]at h2;cases h2
   |some cs0=>
    rw[h0]at h2;obtain⟨cs1,k1,k2⟩:=c cs0 h0;simp only[Aa]at h2
    cases hc:Bp cs0 q with
    |none=>rw[hc]at h2;cases h2
    |some r1=>
     obtain⟨r2,k3,_,k4⟩:=k2 q r1 hc i
     grind
  unfold St.place at h2⊢
  cases h0:E.root R with
  |none=>grind
  |some cs0=>
   rw[h0]at h2;obtain⟨cs1,k1,k2⟩:=c cs0 h0;simp only[Aa]at h2
   cases hc:Bp cs0 q with
   |none=>grind
   |some r1=>
    obtain⟨r2,k3,k4,_⟩:=k2 q r1 hc i
    grind
 refine .inr ⟨by rw[f],λi ad h1 h2=>⟨h1,?_⟩⟩;unfold St.place at h2⊢
 cases h0:E.root R with
 |none=>grind
 |some cs0=>
  rw[h0]at h2;obtain⟨cs1,k1,k2⟩:=c cs0 h0;obtain⟨r2,k3,k4,_⟩:=k2 [] cs0 rfl i;rw[k1];simp only[Aa,k3];exact k4 h2
section
variable {w0:Base} {a:Act}
theorem Cj.freezeI {r:Root} (h:Cj w0 FA UA N w a E blk FS US) {cs:List TV} {c:List TV} (hr:E.root r=some cs) (hj:cs[j]?=some (.sl true e s c)) (hh:r≠ .hand):
  ∃FS' US',Cj w0 FA UA N w a (E.setRoot r (LF cs j (AF c))) blk FS' US'/\FS' .hand=FS .hand/\US' .hand=US .hand:=by
 have x:=dN (w:=w) (a:=a) (blk:=blk) hr hj hh;have g:LF cs j (AF c)=cs.set j (.sl true e s<|AF c):=by simp only[LF,hj,ZY]
 have i:∀v F1 U1,F1.Nodup->CK w (.sl true e s c) v F1 U1->∃F2 U2,CK w (.sl true e s<|AF c) v F2 U2/\Dy F1 U1 F2 U2:=λv F1 U1 o h1=>by
  obtain⟨n,vs,F',ho,y,rfl⟩:=h1;obtain⟨U',z,hU'⟩:=NP y
  exact⟨B5 v++ [],U',⟨n,vs,[],ho,z,rfl⟩,by
   refine⟨by simp,λb hb=>?_⟩
   rcases hU' b hb with q|q
   ·right;have:=(BB.1 o).2.2
    grind
   exact .inl q⟩
 have h0:∃F' U',Dy (FS r) (US r) F' U'/\(∀n,r= .slot n->Gr w a (E.setRoot r<|LF cs j<|AF c) blk ((E.slots n).withCells<|LF cs j<|AF c) (a.eval<|.tmp n) F' U')/\
   (r.mem=true->∃d T F,w.heap[blk r]?=some (.cells d T (0,0))/\Bj w (LF cs j<|AF c) d.toList F U'/\F'=blk r::F):=by
  cases r with
  |slot n=>
   injection hr with hr
   have hs:=EW x (h.slot n) (λ_ _=>rfl) λ_ _=>rfl
   cases l:E.slots n with
   |one t=>
    rw[l]at hr hs;simp only[SV.cells]at hr;subst hr;have h2:j=0:=by grind
    subst h2;simp at hj;subst hj;obtain⟨F2,U2,k1,k2⟩:=i _ _ _ (h.nodup _) hs.1;refine⟨F2,U2,k2,λm hm=>?_,λhm=>by cases hm⟩
    injection hm with hm
    subst hm;rw[l,g];exact⟨k1,λ_=>hs.2 rfl⟩
   |agg ts=>
    rw[l]at hr hs;simp only[SV.cells]at hr;subst hr;obtain⟨vs,k0,k1⟩:=hs;obtain⟨F2,U2,k2,k3⟩:=TR (t':= .sl true e s (AF c)) k1 hj (h.nodup _) i;refine⟨F2,U2,k3,λm hm=>?_,λhm=>by cases hm⟩
    injection hm with hm
    subst hm;rw[l,g];simp only[SV.withCells,Gr]
    grind
   |tup ss=>
    simp only[SV.cells]at hr
    grind
  |hand=>exact absurd rfl hh
  |box n=>
   rcases h.box (.box n) rfl with⟨k,_⟩|⟨cs0,d,T,F,k1,k2,k3,k4⟩
   ·simp only[St.root]at hr;grind
   simp only[St.root]at hr;rw[k1]at hr
   injection hr with hr
   subst hr;have f:=h.nodup<|.box n;rw[k4]at f;obtain⟨o,p⟩:=CX.1 f;obtain⟨F2,U2,k5,k6⟩:=SU (t':= .sl true e s (AF c)) k3 hj p i;refine⟨blk (.box n)::F2,U2,?_,λm hm=>(by cases hm),λ_=>⟨d,T,F2,k2,by rw[g];exact k5,rfl⟩⟩;rw[k4];refine⟨k6.1.cons_cons _,λb hb=>?_⟩
   rcases k6.2 b hb with q|⟨q1,q2⟩
   ·exact .inl q
   grind
  |ext n=>
   rcases h.box (.ext n) rfl with⟨k,_⟩|⟨cs0,d,T,F,k1,k2,k3,k4⟩
   ·simp only[St.root]at hr;grind
   simp only[St.root]at hr;rw[k1]at hr
   injection hr with hr
   subst hr;have f:=h.nodup<|.ext n;rw[k4]at f;obtain⟨o,p⟩:=CX.1 f;obtain⟨F2,U2,k5,k6⟩:=SU (t':= .sl true e s (AF c)) k3 hj p i;refine⟨blk (.ext n)::F2,U2,?_,λm hm=>(by cases hm),λ_=>⟨d,T,F2,k2,by rw[g];exact k5,rfl⟩⟩;rw[k4];refine⟨k6.1.cons_cons _,λb hb=>?_⟩
   rcases k6.2 b hb with q|⟨q1,q2⟩
   ·exact .inl q
   grind
 obtain⟨F',U',hl,h3,h4⟩:=h0
 have u:∀b∈F',b∈FS r:=λb hb=>hl.1.subset hb
 refine⟨B3 FS r F',B3 US r U',?_,by rw[AR λe=>hh e.symm],by rw[AR λe=>hh e.symm]⟩;have hF:∀R b,b∈B3 FS r F' R->b∈FS R:=by
  intro R b hb;by_cases hR:R=r
  ·subst hR;rw[Bx]at hb;exact u b hb
  rw[AR hR]at hb;exact hb
 have hU:∀R b,b∈B3 US r U' R->b∈US R\/(R=r/\b∈FS r/\b∉F'):=by
  intro R b hb;by_cases hR:R=r
  ·subst hR;rw[Bx]at hb
   rcases hl.2 b hb with q|⟨q1,q2⟩
   ·exact .inl q
   grind
  rw[AR hR]at hb;exact .inl hb
 constructor
 ·intro n;by_cases hn:r= .slot n
  ·subst hn;have:=h3 n rfl;simpa only[St.setRoot,B3,Cm]using this
  rw[AR λe=>hn e.symm,AR λe=>hn e.symm];have h1:(E.setRoot r<|LF cs j<|AF c).slots n=E.slots n:=by
   cases r with
   |slot m=>
    simp only[St.setRoot,B3]
    grind
   |_=>rfl
  rw[h1];exact EW x (h.slot n) (λ_ _=>rfl) λ_ _=>rfl
 ·intro R hm;by_cases hR:R=r
  ·subst hR;right;obtain⟨d,T,F,k1,k2,k3⟩:=h4 hm;refine⟨_,d,T,F,?_,k1,by rw[Bx];exact k2,by rw[Bx,k3]⟩
   cases R with
   |slot n=>cases hm
   |hand=>cases hm
   |box n=>simp[St.setRoot,B3]
   |ext n=>simp[St.setRoot,B3]
  rw[AR hR,AR hR];have h1:(E.setRoot r<|LF cs j<|AF c).boxes R=E.boxes R:=by
   cases r<;>simp only[St.setRoot,B3]<;>first
    |rfl
    |(rw[BE hR])
  rw[h1];exact h.box R hm
 ·have:(E.setRoot r<|LF cs j<|AF c).boxes .hand=E.boxes .hand:=by
   cases r<;>simp only[St.setRoot,B3]<;>first
    |exact absurd rfl hh
    |rfl
    |(rw[BE<|by simp])
  rw[this];exact h.nohand
 ·intro R;by_cases hR:R=r
  ·subst hR;rw[Bx];exact hl.1.nodup<|h.nodup R
  rw[AR hR];exact h.nodup R
 ·exact λR S h5 b hb hb'=>h.dis R S h5 b (hF R b hb)<|hF S b hb'
 ·intro R S b hb hb'
  rcases hU S b hb' with q|⟨rfl,q1,q2⟩
  ·exact h.disU R S b (hF R b hb) q
  by_cases hR:R=S
  ·subst hR;rw[Bx]at hb;exact q2 hb
  exact h.dis R S hR b (hF R b hb) q1
 ·exact λR b hb=>h.inF R b<|hF R b hb
 ·intro R b hb
  rcases hU R b hb with q|⟨rfl,q1,_⟩
  ·exact h.inU R b q
  obtain⟨q2,q3⟩:=h.inF R b q1
  grind
 ·exact h.disA
 ·exact h.os
 ·exact h.tape
 ·exact h.output
 ·exact h.size
 ·exact h.keep
 ·exact h.len
 ·exact h.nodef
 ·exact h.xblk
 ·rw[CI];exact h.ambB
 ·rw[CI];exact h.ambI
 ·rw[FG];exact h.frz
 ·exact h.ambF
 rw[CI];exact h.pin
end
theorem yD {r:Root} (h:MA E r j=some row):∃cs e s,E.root r=some cs/\cs[j]?=some (.sl true e s row)/\yE E r j (AF row)=E.setRoot r (LF cs j (AF row)):=by
 obtain⟨cs,e,s,h1,h2,_⟩:=Mr h;exact⟨cs,e,s,h1,h2,by unfold yE;rw[h1]⟩
theorem yK (r:Root) (j:Nat) (hs:AF row=row') (h:Wp P N c (yE E r j row') Q) (ho:MA E r j=some row:=by kernel_rfl) (hh:Sa r=true:=by rfl):Wp P N c E Q:=by
 intro w0 FA UA w a blk FS US hr hF hU;obtain⟨cs,e,s,h1,h2,h3⟩:=yD ho;obtain⟨FS',US',k1,k2,k3⟩:=hr.freezeI h1 h2<|NT hh;rw[<-hs,h3]at h;exact h _ _ _ _ _ _ _ _ k1 (by rw[k2,hF])<|by rw[k3,hU]
def dvA (P:Program) (E:St) (o:Oper):List TV:=match Eg o with
 |[(t,x)]=>match E.val P t x with
  |some (.agg cs)=>cs
  |_=>[]
 |_=>[]
def dvV (P:Program) (E:St) (o:Oper):Root×Nat×Nat×Nat:=match(dvA P E o).getLast? with
 |some (.view r v [q] j)=>(r,v,q,j)
 |_=>(.hand,0,0,0)
def wH (P:Program) (E:St) (o:Oper):List TV:=(FE E (dvA P E o).dropLast).getD []
def AAi (P:Program) (E:St) (o:Oper):Bool:=match Eg o with
 |[(t,x)]=>match E.val P t x with
  |some (.agg cs)=>(match cs.getLast? with
   |some (.view r v [q] j)=>Nat.beq (E.ver r) v
   |_=>false)&&(FE E cs.dropLast).isSome
  |_=>false
 |_=>false
theorem Ty:∀{as bs xs ys:List TV},FE E as=some xs->FE E bs=some ys->FE E (as++bs)=some (xs++ys)
 |[],bs,xs,ys,h1,h2=>by
  simp only[FE,Ax]at h1;subst h1;exact h2
 |a::as,bs,xs,ys,h1,h2=>by
  simp only[FE]at h1;split at h1
  ·rename_i x xs' hx b
   injection h1 with h1
   subst h1;have:=Ty b h2;simp only[BW,FE,hx,this]
  cases h1
theorem zK {α':Type} {f:α->List TV} {f':α'->List TV} {sz':Nat} {l':List α'} {n':Int} {x':α'} {cs:List TV} (hf':∀x,(f' x).length=sz') (hx':gi l' n'=some x') (k:Nat) (ho:AAi P E o=true:=by kernel_rfl) (hj:(dvV P E o).2.2.2=n'.toNat*sz'+k:=by kernel_rfl) (hp:(E.root (dvV P E o).1).bind (λcs=>Bp cs [(dvV P E o).2.2.1])=some (A6 f' l'):=by kernel_rfl) (hk:Nat.blt k sz'=true:=by kernel_rfl) (hc:(f' x')[k]?=some (.sl true e sz<|A6 f l):=by rfl) (a:cs=wH P E o++ [.sl false e sz<|AF<|A6 f l]:=by kernel_rfl):Ui P E o 0=some [.sv<|.agg cs]:=by
 unfold AAi at ho;unfold dvV dvA at hj hp;unfold wH dvA at a;unfold Ui zL z7;split at ho
 ·rename_i t x ha;simp only[ha]at hj hp a;split at ho
  ·rename_i cs0 hv;simp only[hv]at hj hp a;rw[Ai]at ho;obtain⟨h1,h2⟩:=ho;split at h1
   ·rename_i r v q j hl;simp only[hl]at hj hp;obtain⟨i,b⟩:=Gq.1 h2;rw[b,Ft]at a;have g:=AP h1;have m:E.place r [q] j=some (.sl true e sz<|A6 f l):=by
     obtain⟨cs1,k1,k2⟩:=Ae.1 hp;simp only[St.place,k1,Aa,k2];rw[hj,Mz hf' hx' (by simpa[DY]using hk),hc]
    have d:FE E [.view r v [q] j]=some [.sl false e sz<|AF<|A6 f l]:=by
     simp only[FE,Lq,g,m,Cm];rfl
    have c:=Ty b d;have h:cs0.dropLast++ [.view r v [q] j]=cs0:=by
     obtain⟨ys,n⟩:=List.getLast?_eq_some_iff.1 hl;rw[n,List.dropLast_concat]
    rw[h]at c;rw[ha];simp only[bits,L9,Hs,hv];have p:oM E (.agg cs0)=some (.agg<|i++ [.sl false e sz<|AF<|A6 f l]):=by
     unfold oM;rw[Cl<|show(SV.agg cs0).plain=true from rfl];simp only[SV.cells,c,EJ,SV.withCells]
    rw[p,a];rfl
   cases h1
  cases ho
 cases ho
theorem fD {md:Region.Mode} {Q:Exit->Act->World->Prop} {T:Nat->Bool} {oi:Oper} {v:Value} (hi:ops[i]?=some oi) (l:∀(j:Nat) (o:Oper) cs b,ops[j]?=some o->o.op≠ .select cs b) (hQ:∀c a w,Q (.panic c) (a.put oi.dst v) w->Q (.panic c) a w):
  ∀(d:Nat) (listed:Array Bool) (a:Act) (w:World),
   (∀j oj,ops[j]?=some oj->j≠i->listed.getD j true=false->(∀e∈oj.after,Region.binds md e=true->e.on≠i)->oi.apart ops oj=true)->
   i∈Region.ready md ops listed->YieldsIf P ops (λ_=>True) oi v a->
   QO P md ops Q T d (listed.setIfInBounds i true) (a.put oi.dst v) w->QO P md ops Q T (d+1) listed a w:=by
 intro d
 induction d with
 |zero=>
  intro listed a w _ hr hy H;refine⟨λh=>(by grind),λj hj=>?_⟩;by_cases f:j=i
  ·subst f;exact hy.wpOp hi trivial ⟨λ_=>Dn.refl,H⟩
  have:=ready_mono hj f;rw[H.1]at this;cases this
 |succ d ih=>
  intro listed a w g hr hy H;refine⟨λh=>(by grind),λj hj=>?_⟩;by_cases f:j=i
  ·subst f;exact hy.wpOp hi trivial ⟨λ_=>Dn.refl,H⟩
  have h1:=H.2 j<|ready_mono hj f;obtain⟨m,oj,n,p⟩:=mem_ready.1 hj;have q:listed.getD i false=false:=by
   have h0:=(mem_ready.1 hr).1
   rcases Gh i listed.size with h'|h'
   ·simpa[h']using h0
   grind
  have r:∀e∈oj.after,Region.binds md e=true->e.on≠i:=λe he hb u=>by
   have h1:=p e he hb;rw[u,q]at h1;cases h1
  have h2:=wpOp_putIf n (g j oj n f m r) (λcs b=>l i oi cs b hi) (λcs b=>l j oj cs b n) hQ hy h1;have hfree':∀k ok,ops[k]?=some ok->k≠i->(listed.setIfInBounds j true).getD k true=false->
    (∀e∈ok.after,Region.binds md e=true->e.on≠i)->oi.apart ops ok=true:=λk ok hk x s y=>by
   refine g k ok hk x ?_ y;by_cases t:j=k
   ·subst t;exact m
   rw[getD_set_ne true t]at s;exact s
  refine wpOp_mono (λa' w' h3=>⟨h3.2.1,ih (listed.setIfInBounds j true) a' w' hfree' (ready_mono hr<|I1 f) ?_ ?_⟩) h2
  ·exact h3.1
  rw[Array.setIfInBounds_comm _ _ f];exact h3.2.2
def iD (o:Oper):Bool:=match o.op with
 | .move _| .assign _=>true
 |_=>false
theorem iC {w2:World} (h:iD o=true) {a:Act} {v:Value} (hr:(execOp a.eval o).run P w= .ok (.value v) w):(execOp a.eval o).run P w2= .ok (.value v) w2:=by
 unfold iD at h;unfold execOp at hr⊢;split at h
 ·rename_i x hx;simp only[hx]at hr⊢
  injection hr with hr
  injection hr with hr
  rw[hr];rfl
 ·rename_i x hx;simp only[hx]at hr⊢
  injection hr with hr
  injection hr with hr
  rw[hr];rfl
 cases h
def aok (P:Program) (N:Nat) (ops:Array Oper) (dn:List Nat) (i:Nat) (E:St):Bool:=OE P ops E i&&Gn N (oA ops i)&&Nat.blt dn.length ops.size&&Region.noSelect ops&&Region.free .any ops (qA ops.size dn) i&&(Region.ready .any ops<|qA ops.size dn).contains i&&iD (oA ops i)&&(Gi P E<|oA ops i).isSome
theorem KW.a {ts:List Nat} (i:Nat) (h:KW P N ops ts (i::dn) (E.put (oA ops i).dst ((Gi P E (oA ops i)).getD (.one .junk))) Q) (hk:aok P N ops dn i E=true:=by kernel_rfl):KW P N ops ts dn E Q:=by
 simp only[aok,Ai]at hk;obtain⟨⟨⟨⟨⟨⟨⟨h1,h2⟩,h3⟩,e1⟩,e2⟩,e3⟩,e4⟩,e5⟩:=hk;obtain⟨h5,h6⟩:=FL h1;obtain⟨d,h7,h8,_⟩:=DD h2;obtain⟨s,hs⟩:=Gq.1 e5;rw[hs,Ft,h7]at h;unfold KW at h⊢;rw[Qa (i:=i) h3];have ho:=Gl h5;intro hQ hc w0 FA UA w a blk FS US k1 k2 k3;obtain⟨v,U,y1,y2,y3⟩:=QS k1 hs;have e3':i∈Region.ready .any ops (qA ops.size dn):=by simpa using e3
 refine fD (v:=v) ho (Region.noSelect_spec e1) (λc a w hx=>?_) _ (qA ops.size dn) a w (Region.free_spec ho e2) e3' (.inl ⟨B6 k1 h6,λw2 _=>?_⟩) ?_
 ·obtain⟨E',blk',FS',US',m1,_⟩:=hx
  grind
 ·exact iC e4<|y1 w λr _=>⟨λ_ _=>rfl,λ_ _=>rfl⟩
 rw[h7];refine h hQ (HV hc e3') _ _ _ _ _ _ _ _ (k1.put (by simpa[DY]using h8) y2<|Lh k1 y3 _) ?_ ?_
 ·rw[AR (by simp),k2]
 rw[AR (by simp),k3]
theorem M8 {n:Int} (h1: -9223372036854775808<=n) (h2:n<=9223372036854775807):IntKind.i64.wrap n=n:=by rw[IntKind.wrap_i64];omega
theorem Ca {a b:Int} (h1: -9223372036854775808<=a+b:=by omega) (h2:a+b<=9223372036854775807:=by omega):ad a b=a+b:=M8 h1 h2
theorem BV {a b:Int} (h1: -9223372036854775808<=a-b:=by omega) (h2:a-b<=9223372036854775807:=by omega):sb a b=a-b:=M8 h1 h2
theorem MU {a b:Int} (h1: -9223372036854775808<=a*b) (h2:a*b<=9223372036854775807):ml a b=a*b:=M8 h1 h2
theorem ad1 (h:i<9223372036854775807:=by omega):ad (i:Int) 1=((i+1:Nat):Int):=by grind [Ca]
theorem Lr (a b:ByteArray):seq a b=decide (a=b):=by
 unfold seq;rw[Bool.eq_iff_iff,Q4,Bz];constructor
 ·intro h;rw[ByteArray.toList_eq,ByteArray.toList_eq]at h;cases a;simp_all
 intro h;rw[h]
theorem Ar:gi l (i:Int)=l[i]? :=by rfl
theorem CP {x:α}:si l (i:Int) x=l.set i x:=by simp[si]
theorem Ms:decide ((i:Int)<ln l)=decide (i<l.length):=by
 simp[ln]
theorem cF [Decidable p] {a b:α} (h:¬p:=by omega):cond (decide p) a b=b:=by grind
theorem cT [Decidable p] {a b:α} (h:p:=by omega):cond (decide p) a b=a:=by grind
theorem En {a b:β}:cond (decide (((l.length:Nat):Int)<ln l)) a b=b:=cF (by rw[ln];omega)
theorem EM {a b:β} (h:i<l.length):cond (decide ((i:Int)<ln l)) a b=a:=cT (by rw[ln];omega)
def O3 (step:σ->Nat->α->σ⊕β) (fin:σ->β):List α->Nat->σ->β
 |[],_,s=>fin s
 |x::l,i,s=>match step s i x with
  | .inl s'=>O3 step fin l (i+1) s'
  | .inr b=>b
theorem Yq {body:S->Option (S⊕β)} (a:σ->Int->S) (l:List α) (step:σ->Nat->α->σ⊕β) (fin:σ->β) (c:Nat->σ->Prop) (h1:∀s i x,l[i]?=some x->c i s->body (a s (i:Nat))=some (match step s i x with| .inl s'=> .inl (a s' ((i+1:Nat):Int))| .inr b=> .inr b)/\∀s',step s i x= .inl s'->c (i+1) s') (h2:∀s,c l.length s->body (a s (l.length:Nat))=some (.inr (fin s))):∀(n i:Nat) (s:σ),i+n=l.length->c i s->Aj body (a s (i:Nat))=some (O3 step fin (l.drop i) i s)
 |0,i,s,hi,hs=>by
  have:i=l.length:=by omega
  subst this;rw[Az,h2 s hs,ET<|A8 _];rfl
 |n+1,i,s,hi,hs=>by
  have d:i<l.length:=by omega
  obtain⟨h3,h4⟩:=h1 s i l[i] (Ab d) hs;rw[Az,h3,AJ d,O3]
  cases e:step s i l[i]with
  |inl s'=>simp only[];exact Yq a l step fin c h1 h2 n (i+1) s' (by omega)<|h4 s' e
  |inr b=>rfl
theorem NW {s:σ} {body:S->Option (S⊕β)} (a:σ->Int->S) (l:List α) (step:σ->Nat->α->σ⊕β) (fin:σ->β) (c:Nat->σ->Prop) (h1:∀s i x,l[i]?=some x->c i s->body (a s (i:Nat))=some (match step s i x with| .inl s'=> .inl (a s' ((i+1:Nat):Int))| .inr b=> .inr b)/\∀s',step s i x= .inl s'->c (i+1) s') (h2:∀s,c l.length s->body (a s (l.length:Nat))=some (.inr (fin s))) (hs:c 0 s):Aj body (a s 0)=some (O3 step fin l 0 s):=
 Yq a l step fin c h1 h2 l.length 0 s (by omega) hs
theorem kV {body:Int->Option (Int⊕Unit⊕Bool)} (a:List α) (b:List β) (p:α->β->Bool) (hl:a.length=b.length) (hM:a.length<=9223372036854775807) (h1:∀(i:Nat) x y,a[i]?=some x->b[i]?=some y->body (i:Nat)=some (bif p x y then .inl (((i+1:Nat)):Int)else .inr (.inr false))) (h2:body (a.length:Nat)=some (.inr (.inl ()))):
  Aj body 0=some (bif(a.zip b).all (λz=>p z.1 z.2)then .inl ()else .inr false):=by
 have hz:(a.zip b).length=a.length:=by simp[hl]
 have:=NW (body:=body) (λ(_:Unit) i=>i) (a.zip b) (λ_ _ z=>bif p z.1 z.2 then .inl ()else .inr<|.inr false) (λ_=> .inl ()) (λ_ _=>True)
  (λs i x hx _=>by grind)
  (λs _=>by rw[hz];exact h2) (s:=()) trivial
 rw[this];have c:∀(m:List (α×β)) (i:Nat),O3 (λ(_:Unit) _ z=>bif p z.1 z.2 then .inl ()else .inr<|.inr false) (λ_=>(.inl ():Unit⊕Bool)) m i ()=bif m.all (λz=>p z.1 z.2)then .inl ()else .inr false:=by
  intro m
  induction m with
  |nil=>intro i;rfl
  |cons z m ih=>grind [O3]
 rw[c]
theorem i9 {p:α->α->Bool}:∀{a b:List α},(∀x∈a,∀y∈b,p x y=true↔x=y)->a.length=b.length->((a.zip b).all (λz=>p z.1 z.2)=true↔a=b)
 |[],[],_,_=>by simp
 |x::a,y::b,hp,h=>by
  have ih:=i9 (p:=p) (a:=a) (b:=b) (λx' hx y' hy=>hp x' (List.mem_cons_of_mem _ hx) y'<|List.mem_cons_of_mem _ hy) (by simpa using h);simp_all
 |[],_::_,_,h=>by simp at h
 |_::_,[],_,h=>by simp at h
theorem Se {body:S->Option (S⊕β)} (a:σ->Int->S) (n:Nat) (c:Nat->σ->Prop) (Q:β->Prop) (h1:∀s i,i<n->c i s->(∃s',body (a s (i:Nat))=some (.inl (a s' ((i+1:Nat):Int)))/\c (i+1) s')\/∃b,body (a s (i:Nat))=some (.inr b)/\Q b) (h2:∀s,c n s->∃b,body (a s (n:Nat))=some (.inr b)/\Q b):∀(k i:Nat) (s:σ),i+k=n->c i s->∃b,Aj body (a s (i:Nat))=some b/\Q b
 |0,i,s,hi,hs=>by grind [Az]
 |k+1,i,s,hi,hs=>by
  rcases h1 s i (by omega) hs with⟨s',h3,h4⟩|⟨b,h3,h4⟩
  ·obtain⟨b,h5,h6⟩:=Se a n c Q h1 h2 k (i+1) s' (by omega) h4
   grind [Az]
  grind [Az]
theorem AD {s:σ} {body:S->Option (S⊕β)} (a:σ->Int->S) (n:Nat) (c:Nat->σ->Prop) (Q:β->Prop) (h1:∀s i,i<n->c i s->(∃s',body (a s (i:Nat))=some (.inl (a s' ((i+1:Nat):Int)))/\c (i+1) s')\/∃b,body (a s (i:Nat))=some (.inr b)/\Q b) (h2:∀s,c n s->∃b,body (a s (n:Nat))=some (.inr b)/\Q b) (hs:c 0 s):∃b,Aj body (a s 0)=some b/\Q b:=
 Se a n c Q h1 h2 n 0 s (by omega) hs
theorem Yr {body body':S->Option (S⊕β)} (a:σ->Int->S) (n:Nat) (c:Nat->σ->Prop) (Q:β->Prop) (h1:∀s i,i<n->c i s->body' (a s (i:Nat))=body (a s (i:Nat))/\((∃s',body (a s (i:Nat))=some (.inl (a s' ((i+1:Nat):Int)))/\c (i+1) s')\/∃b,body (a s (i:Nat))=some (.inr b)/\Q b)) (h2:∀s,c n s->body' (a s (n:Nat))=body (a s (n:Nat))/\∃b,body (a s (n:Nat))=some (.inr b)/\Q b):∀(k i:Nat) (s:σ),i+k=n->c i s->∃b,Aj body (a s (i:Nat))=some b/\Aj body' (a s (i:Nat))=some b/\Q b
 |0,i,s,hi,hs=>by grind [Az]
 |k+1,i,s,hi,hs=>by
  obtain⟨e,h⟩:=h1 s i (by omega) hs
  rcases h with⟨s',h3,h4⟩|⟨b,h3,h4⟩
  ·obtain⟨b,h5,h6,h7⟩:=Yr a n c Q h1 h2 k (i+1) s' (by omega) h4
   grind [Az]
  grind [Az]
theorem Sf {s:σ} {body body':S->Option (S⊕β)} (a:σ->Int->S) (n:Nat) (c:Nat->σ->Prop) (Q:β->Prop) (h1:∀s i,i<n->c i s->body' (a s (i:Nat))=body (a s (i:Nat))/\((∃s',body (a s (i:Nat))=some (.inl (a s' ((i+1:Nat):Int)))/\c (i+1) s')\/∃b,body (a s (i:Nat))=some (.inr b)/\Q b)) (h2:∀s,c n s->body' (a s (n:Nat))=body (a s (n:Nat))/\∃b,body (a s (n:Nat))=some (.inr b)/\Q b) (hs:c 0 s):∃b,Aj body (a s 0)=some b/\Aj body' (a s 0)=some b/\Q b:=
 Yr a n c Q h1 h2 n 0 s (by omega) hs
theorem VY {body:Int->Option (Int⊕β)} (l:List α) (p:Nat->α->Bool) (no yes:β) (hM:l.length<=9223372036854775807) (h1:∀(i:Nat) x,l[i]?=some x->body (i:Nat)=some (bif p i x then .inl (((i+1:Nat)):Int)else .inr no)) (h2:body (l.length:Nat)=some (.inr yes)):
  Aj body 0=some (bif l.zipIdx.all (λz=>p z.2 z.1)then yes else no):=by
 have:=NW (body:=body) (λ(_:Unit) i=>i) l (λ_ i x=>bif p i x then .inl ()else .inr no) (λ_=>yes) (λ_ _=>True)
  (λs i x hx _=>by grind)
  (λs _=>h2) (s:=()) trivial
 rw[this];have a:∀(m:List α) (i:Nat),O3 (λ(_:Unit) i x=>bif p i x then .inl ()else .inr no) (λ_=>yes) m i ()=bif(m.zipIdx i).all (λz=>p z.2 z.1)then yes else no:=by
  intro m
  induction m with
  |nil=>intro i;rfl
  |cons z m ih=>grind [List.zipIdx_cons,O3]
 rw[a]
theorem Sd {body:Int×List γ->Option ((Int×List γ)⊕List γ)} (l:List α) (f:α->γ) (h1:∀(i:Nat) x (a:List γ),l[i]?=some x->a.length=i->body ((i:Nat),a)=some (.inl (((i+1:Nat):Int),a++ [f x]))) (h2:∀a,body ((l.length:Nat),a)=some (.inr a)):
  Aj body (0,[])=some (l.map f):=by
 have:=NW (body:=body) (λ(s:List γ) i=>(i,s)) l (λa _ x=>(.inl (a++ [f x]):List γ⊕List γ)) (λa=>a) (λi a=>a.length=i)
  (λs i x hx hi=>by grind)
  (λs _=>h2 s) (s:=[]) rfl
 rw[this];have b:∀(m:List α) (i:Nat) (a:List γ),O3 (λa _ x=>(.inl (a++ [f x]):List γ⊕List γ)) (λa=>a) m i a=a++m.map f:=by
  intro m
  induction m with
  |nil=>grind [O3]
  |cons z m ih=>grind [O3]
 grind
theorem gK {body:Int×List γ->Option ((Int×List γ)⊕List γ)} (n:Nat) (f:Nat->γ) (h1:∀(i:Nat) (a:List γ),i<n->a.length=i->body ((i:Nat),a)=some (.inl (((i+1:Nat):Int),a++ [f i]))) (h2:∀a,body ((n:Nat),a)=some (.inr a)):
  Aj body (0,[])=some ((List.range n).map f):=
 Sd (List.range n) f (λi x a hx ho=>by grind) (λa=>by grind)
theorem VV {z:α} (h:by_*n<=281474976710656) (h2:n<=9223372036854775807):mk by_ z (n:Int)=some (List.replicate n z):=by
 unfold mk
 grind
theorem BL {m:List α} (h:(l.length+m.length)*by_<=140737488355328):ap by_ l m=some (l++m):=Cl h
theorem P6 {i:Int} (h1:0<=i) (h2:i<l.length):gi l i=some (l[i.toNat]'(by omega)):=by
 unfold gi
 grind
theorem Bu:ln l=(l.length:Int):=rfl
def L (s:ByteArray):List UInt8:=s.data.toList
theorem IX {a b:ByteArray} (h:L a=L b):a=b:=by
 cases a;simp_all [L]
theorem aR (s:ByteArray):(L s).length=s.size:=by cases s;rfl
theorem FC (a b:ByteArray):L (a++b)=L a++L b:=by simp[L]
theorem DL (l:List UInt8):L (bs l)=l:=by simp[L,bs]
theorem LQ (l:List Int):L (Gp l)=l.map λn=>UInt8.ofNat n.toNat:=strOfNums_data l
theorem Iv (s:ByteArray) (i j:Nat):L (s.extract i j)=((L s).drop i).take (j-i):=by simp[L]
theorem Bq (s:ByteArray):Gf s=((L s).length:Int):=by rw[aR];rfl
theorem DO (s:ByteArray) (h:i<(L s).length):sx s (i:Int)=some (((L s)[i]).toNat:Int):=by
 have h':i<s.size:=by grind [aR]
 unfold sx;rw[Cl ⟨by omega,by omega⟩];unfold AK.bt;rw[dif_pos<|by simpa using h'];rfl
theorem E6 (s:ByteArray) (h1:i<=j) (h2:j<=(L s).length):sub s (i:Int) (j:Int)=some (s.extract i j):=by grind [aR,sub]
theorem FP (a b:ByteArray) (h:(L a).length+(L b).length<=9223372036854775807):Qs a b=some (a++b):=by grind [aR,Qs]
theorem OT (a b:ByteArray):seq a b=decide (L a=L b):=by grind [Lr,IX]
def BM (n:Nat):List UInt8:=if h:n<=127 then [UInt8.ofNat n]else UInt8.ofNat (n %128+128)::BM (n/128)
termination_by n
decreasing_by omega
def E5:List UInt8->Nat
 |[]=>0
 |d::ds=>d.toNat %128+128*E5 ds
theorem Ma:∀(ds es:List UInt8),E5 (ds++es)=E5 ds+128^ds.length*E5 es
 |[],es=>by simp[E5]
 |d::ds,es=>by
  simp only[BW,E5,Ma ds es,AZ,Nat.pow_succ]
  grind
theorem aZ (d:UInt8):d.toNat<256:=d.toNat_lt
theorem LI (h:n<=127):BM n=[UInt8.ofNat n]:=by rw[BM,dif_pos h]
theorem Sy (h:¬n<=127):BM n=UInt8.ofNat (n %128+128)::BM (n/128):=by rw[BM,dif_neg h]
theorem XA:∀{ds:List UInt8} {x:UInt8},E5 (ds++ [x])=0->x.toNat<128->x.toNat=0
 |[],x,h,hx=>by grind [E5]
 |d::ds,x,h,hx=>by
  simp only[BW,E5]at h;exact XA (ds:=ds) (by omega) hx
theorem Y5:∀(ds:List UInt8) (x:UInt8),(∀d∈ds,128<=d.toNat)->x.toNat<128->(BM (E5 (ds++ [x]))=ds++ [x]↔¬(x.toNat=0/\ds≠ []))
 |[],x,_,hx=>by
  have:E5 ([]++ [x])=x.toNat:=by simp[E5];omega
  rw[this,LI<|by omega];simp
 |d::ds,x,hd,hx=>by
  have ih:=Y5 ds x (λe he=>hd e<|List.mem_cons_of_mem _ he) hx;have h1:=hd d Fz;have h2:=aZ d;have hv:E5 (d::ds++ [x])=d.toNat-128+128*E5 (ds++ [x]):=by grind [E5]
  rw[hv];by_cases h0:E5 (ds++ [x])=0
  ·have a:=XA h0 hx;rw[h0,LI<|by omega];simp_all
  rw[Sy<|by omega]
  grind [UInt8.ofNat_toNat,E5]
theorem dV:∀(n:Nat),(BM n).length<=n+1
 |n=>by
  by_cases h:n<=127
  ·rw[LI h];simp
  have:=dV<|n/128
  grind [Sy]
termination_by n=>n
decreasing_by omega
theorem Y6 {body:Int×List Int->Option ((Int×List Int)⊕(Int×List Int))} (hb:∀n a,body (n,a)=bif decide (n>127)then((ap 1 a [IntKind.u8.wrap (ad (Int.tmod n 128) 128)]).bind λc=>some (.inl (qu n 128,c)))else some (.inr (n,a))):
  ∀(n:Nat) (a:List Int),a.length+n<=1099511627776->∃(m:Nat) (o:List Int),Aj body ((n:Int),a)=some ((m:Int),o)/\m<=127/\o.length<=a.length+n/\(o++ [(m:Int)]).map (λn=>UInt8.ofNat n.toNat)=a.map (λn=>UInt8.ofNat n.toNat)++BM n
 |n,a,h=>by
  rw[Az,hb];by_cases hn:n<=127
  ·rw[Ah (by omega),Ad]
   grind [LI]
  rw[Ac (by omega),Ak,BL (by grind),Aa];have e1:Int.tmod (n:Int) 128=((n %128:Nat):Int):=rfl;have e2:qu (n:Int) 128=((n/128:Nat):Int):=by grind [M8,qu]
  have e3:IntKind.u8.wrap (ad (Int.tmod (n:Int) 128) 128)=((n %128+128:Nat):Int):=by grind [Ca,IntKind.wrap_u8]
  obtain⟨m,o,h1,h2,h3,h4⟩:=Y6 hb (n/128) (a++ [((n %128+128:Nat):Int)]) (by grind);rw[e2,e3];refine⟨m,o,h1,h2,by grind,?_⟩
  grind [Sy]
termination_by n=>n
decreasing_by omega
theorem zJ {s:Int} (h0:0<=s) (h1:s<4294967296):IntKind.u32.wrap (Int.tdiv s 2)=Int.fdiv s (2^(min (1:Int).toNat IntKind.u32.bits)):=by grind [IntKind.wrap_u32,IntKind.bits]
theorem an1 {s:Int} (h0:0<=s) (h1:s<4294967296):an s 1=Int.tmod s 2:=by grind [BN,IntKind.wrap_u32,an]
theorem vK (a b:Int):0<=xr a b/\xr a b<4294967296:=by grind [IntKind.wrap_u32,xr]
theorem Yp {body:S->Option (S⊕β)} (a:σ->Int->S) (mkS':σ->Int->S') (n:Nat) (c:Nat->σ->Prop) (Q:β->Prop) (h1:∀s i,i<n->c i s->(∃s',body (a s (i:Nat))=some (.inl (a s' ((i+1:Nat):Int)))/\body' (mkS' s (i:Nat))=some (.inl (mkS' s' ((i+1:Nat):Int)))/\c (i+1) s')\/∃b,body (a s (i:Nat))=some (.inr b)/\body' (mkS' s (i:Nat))=some (.inr b)/\Q b) (h2:∀s,c n s->∃b,body (a s (n:Nat))=some (.inr b)/\body' (mkS' s (n:Nat))=some (.inr b)/\Q b):∀(k i:Nat) (s:σ),i+k=n->c i s->∃b,Aj body (a s (i:Nat))=some b/\Aj body' (mkS' s (i:Nat))=some b/\Q b
 |0,i,s,hi,hs=>by grind [Az]
 |k+1,i,s,hi,hs=>by
  rcases h1 s i (by omega) hs with⟨s',h3,h4,h5⟩|⟨b,h3,h4,h5⟩
  ·obtain⟨b,h6,h7,h8⟩:=Yp a mkS' n c Q h1 h2 k (i+1) s' (by omega) h5
   grind [Az]
  grind [Az]
theorem Sc {s:σ} {body:S->Option (S⊕β)} (a:σ->Int->S) (mkS':σ->Int->S') (n:Nat) (c:Nat->σ->Prop) (Q:β->Prop) (h1:∀s i,i<n->c i s->(∃s',body (a s (i:Nat))=some (.inl (a s' ((i+1:Nat):Int)))/\body' (mkS' s (i:Nat))=some (.inl (mkS' s' ((i+1:Nat):Int)))/\c (i+1) s')\/∃b,body (a s (i:Nat))=some (.inr b)/\body' (mkS' s (i:Nat))=some (.inr b)/\Q b) (h2:∀s,c n s->∃b,body (a s (n:Nat))=some (.inr b)/\body' (mkS' s (n:Nat))=some (.inr b)/\Q b) (hs:c 0 s):∃b,Aj body (a s 0)=some b/\Aj body' (mkS' s 0)=some b/\Q b:=
 Yp a mkS' n c Q h1 h2 n 0 s (by omega) hs
theorem SS {body:S->Option (S⊕β)} (φ:S->S') (h:∀s,body' (φ s)=(body s).map (Sum.map φ id)):∀(n:Nat) (s:S),NI body' n (φ s)=NI body n s
 |0,_=>rfl
 |n+1,s=>by
  simp only[NI,h]
  cases body s with
  |none=>rfl
  |some o=>
   cases o with
   |inl s'=>exact SS φ h n s'
   |inr b=>rfl
theorem gL {body:S->Option (S⊕β)} (φ:S->S') (h:∀s,body' (φ s)=(body s).map (Sum.map φ id)) (s:S):Aj body' (φ s)=Aj body s:=by
 have b:∀a,Aj body' (φ s)=some a↔Aj body s=some a:=λa=>by
  rw[Ga,Ga];exact⟨λ⟨n,hn⟩=>⟨n,by rw[<-SS φ h];exact hn⟩,λ⟨n,hn⟩=>⟨n,by rw[SS φ h];exact hn⟩⟩
 cases hx:Aj body s with
 |some a=>grind
 |none=>
  cases hy:Aj body' (φ s)with
  |none=>rfl
  |some a=>grind
theorem QW {body:S->Option (S⊕β)} (φ:S->S') (I:S->Prop) (h:∀s,I s->body' (φ s)=(body s).map (Sum.map φ id)) (hI:∀s s',I s->body s=some (.inl s')->I s'):∀(n:Nat) (s:S),I s->NI body' n (φ s)=NI body n s
 |0,_,_=>rfl
 |n+1,s,hs=>by
  simp only[NI,h s hs]
  cases hb:body s with
  |none=>rfl
  |some o=>
   cases o with
   |inl s'=>exact QW φ I h hI n s' (hI s s' hs hb)
   |inr b=>rfl
theorem cY {body:S->Option (S⊕β)} (φ:S->S') (I:S->Prop) (h:∀s,I s->body' (φ s)=(body s).map (Sum.map φ id)) (hI:∀s s',I s->body s=some (.inl s')->I s') (s:S) (hs:I s):Aj body' (φ s)=Aj body s:=by
 have b:∀a,Aj body' (φ s)=some a↔Aj body s=some a:=λa=>by
  rw[Ga,Ga];exact⟨λ⟨n,hn⟩=>⟨n,by rw[<-QW φ I h hI n s hs];exact hn⟩,λ⟨n,hn⟩=>⟨n,by rw[QW φ I h hI n s hs];exact hn⟩⟩
 cases hx:Aj body s with
 |some a=>grind
 |none=>
  cases hy:Aj body' (φ s)with
  |none=>rfl
  |some a=>grind
theorem mL {s:S} {b:β} {body:S->Option (S⊕β)} (I:S->Prop) (Q:β->Prop) (hI:∀s s',I s->body s=some (.inl s')->I s') (hQ:∀s b,I s->body s=some (.inr b)->Q b) (hs:I s) (h:Aj body s=some b):Q b:=by
 obtain⟨n,hn⟩:=Ga.1 h;clear h
 induction n generalizing s with
 |zero=>cases hn
 |succ n ih=>grind [NI]
theorem VX {body':S'->Option (S'⊕β')} {body:S->Option (S⊕β)} (a:σ->Int->S) (mkS':σ->Int->S') (n:Nat) (c:Nat->σ->Prop) (Q:β->β'->Prop) (h1:∀s i,i<n->c i s->(∃s',body (a s (i:Nat))=some (.inl (a s' ((i+1:Nat):Int)))/\body' (mkS' s (i:Nat))=some (.inl (mkS' s' ((i+1:Nat):Int)))/\c (i+1) s')\/∃b b',body (a s (i:Nat))=some (.inr b)/\body' (mkS' s (i:Nat))=some (.inr b')/\Q b b') (h2:∀s,c n s->∃b b',body (a s (n:Nat))=some (.inr b)/\body' (mkS' s (n:Nat))=some (.inr b')/\Q b b'):∀(k i:Nat) (s:σ),i+k=n->c i s->∃b b',Aj body (a s (i:Nat))=some b/\Aj body' (mkS' s (i:Nat))=some b'/\Q b b'
 |0,i,s,hi,hs=>by grind [Az]
 |k+1,i,s,hi,hs=>by
  rcases h1 s i (by omega) hs with⟨s',h3,h4,h5⟩|⟨b,b',h3,h4,h5⟩
  ·obtain⟨b,b',h6,h7,h8⟩:=VX a mkS' n c Q h1 h2 k (i+1) s' (by omega) h5
   grind [Az]
  grind [Az]
theorem mK {body':S'->Option (S'⊕β')} {s:σ} {body:S->Option (S⊕β)} (a:σ->Int->S) (mkS':σ->Int->S') (n:Nat) (c:Nat->σ->Prop) (Q:β->β'->Prop) (h1:∀s i,i<n->c i s->(∃s',body (a s (i:Nat))=some (.inl (a s' ((i+1:Nat):Int)))/\body' (mkS' s (i:Nat))=some (.inl (mkS' s' ((i+1:Nat):Int)))/\c (i+1) s')\/∃b b',body (a s (i:Nat))=some (.inr b)/\body' (mkS' s (i:Nat))=some (.inr b')/\Q b b') (h2:∀s,c n s->∃b b',body (a s (n:Nat))=some (.inr b)/\body' (mkS' s (n:Nat))=some (.inr b')/\Q b b') (hs:c 0 s):∃b b',Aj body (a s 0)=some b/\Aj body' (mkS' s 0)=some b'/\Q b b':=
 VX a mkS' n c Q h1 h2 n 0 s (by omega) hs
theorem PZ {body body':S->Option (S⊕β)} (m:S->Nat) (a:S->Prop) (Q:β->Prop) (h:∀s,a s->(∃s',body s=some (.inl s')/\body' s=some (.inl s')/\a s'/\m s'<m s)\/∃b,body s=some (.inr b)/\body' s=some (.inr b)/\Q b):∀(n:Nat) (s:S),m s<=n->a s->∃b,Aj body s=some b/\Aj body' s=some b/\Q b
 |n,s,hn,hs=>by
  rcases h s hs with⟨s',h1,h2,h3,h4⟩|⟨b,h1,h2,h3⟩
  ·cases n with
   |zero=>omega
   |succ n=>
    obtain⟨b,h5,h6,h7⟩:=PZ m a Q h n s' (by omega) h3
    grind [Az]
  grind [Az]
theorem OL (z:α->Nat):∀(l:List α) (i:Nat) (h:i<l.length),((l.take (i+1)).map z).sum=((l.take i).map z).sum+z l[i]
 |[],i,h=>by simp at h
 |x::l,0,h=>by simp
 |x::l,i+1,h=>by
  simp only[List.take_succ_cons,Nn,List.sum_cons,List.getElem_cons_succ];rw[OL z l i (by simpa using h)];omega
theorem Mb (z:α->Nat) (l:List α) (i:Nat):((l.take i).map z).sum<=(l.map z).sum:=by grind [Ci]
theorem uQ (a:List α) (x:α) (post:List α):gi (a++x::post) (a.length:Nat)=some x:=by grind [Ar]
theorem tA (a:List α) (x y:α) (post:List α):si (a++x::post) (a.length:Nat) y=a++y::post:=by grind [CP]
end Go.TI
