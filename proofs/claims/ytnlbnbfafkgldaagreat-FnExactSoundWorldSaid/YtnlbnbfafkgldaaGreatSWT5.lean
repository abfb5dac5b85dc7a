/- What walks of Go code need. No condition. -/
import Derived.Test.YtnlbnbfafkgldaaGreatSWT4
import Derived.Sort.OwnSortedInts
import Derived.Shelf.Sort.Plain
import Derived.Shelf.Slices.In.SortNone2
set_option linter.unusedVariables false
namespace Go.TI
open Go Go.RowKit
def NI (l:List Int):List Int:=l.mergeSort λx y=>decide (x<=y)
def QS (l:List Int):Option (List Int):=if l.length<4611686018427387904 then some (NI l)else none
theorem lA (l:List Int):(NI l).length=l.length:=List.length_mergeSort l
def Y9 (P:Program) (f:FuncId) (e:Nat):Prop:=∀(w:World) (v:Value) (zs:List Int),w.ownsRow 0 e 1 v zs.length (zs.map (Value.int .i64))->zs.length<4611686018427387904->
 Calls P f #[v] w λr w'=>r= .returned (.tuple #[])/\Fv w w' (BH v)/\w'.ownsRow 0 e 1 v zs.length ((NI zs).map (Value.int .i64))
variable {P:Program} {N n e:Nat} {E:St} {l:List Int} {β:Type} {ops:Array Oper} {Q:Exit->St->Prop} {k:List Int->Option β}
theorem jN {ρ:Go.Shelf.Ren} (Ly:Go.Proofs.Lays.n191 P ρ) (e:Nat):Y9 P (ρ.f 191) e:=by
 intro w v zs c d
 rcases c.2 with⟨rfl,h0⟩|⟨g,cap,i,rfl,h1,h2,h3,h4,h5,h6⟩
 ·have hz:zs=[]:=Ay h0;subst hz;refine(Go.Proofs.Any.sort_Ints_none Ly none 0 w).mono ?_;rintro r w' ⟨rfl,rfl⟩;exact⟨rfl,⟨rfl,rfl,rfl,A5 _,λ_ _ _=>rfl⟩,by rw[show NI []=[]from by simp[NI]];exact c⟩
 have hg:g<w.heap.size:=(Array.getElem?_eq_some_iff.1 h2).1;have hH:=Go.holds_of_blockI (ss:=zs) h2 (by rw[Qs]at h6;exact h6);refine(Go.Proofs.Any.sort_Ints Ly g 0 cap zs w hH hg d).mono ?_;rintro r w' ⟨rfl,n,os,rfl⟩;have a:=Go.grownBy_sortedI (w:=w) (g:=g) (n:=n) (os:=os) (zs.mergeSort λx y=>decide (x<=y)).toArray;refine⟨rfl,⟨a.os,a.tape,a.output,a.size,λb hb h=>a.block b hb (λe=>h (by simp at e;subst e;simp[BH,Value.ownBlock]))⟩,?_⟩;exact Go.ownsRow_sortedI (ts:=zs.mergeSort λx y=>decide (x<=y)) (List.length_mergeSort zs) (Ku _) h2 h3 h4 h5
section
variable {w0:Base} {FA:List Nat} {UA:List Nat} {w:World} {a:Act} {blk:Root->Nat} {FS:Root->List Nat} {US:Root->List Nat}
theorem Cu.turnS {t t':TV} {w':World} (h:Cu w0 FA UA N w a E blk FS US) (hF:FS .hand=[]) (hU:US .hand=[]) (hs:E.slots n= .one t) (hb:Fv w w' (FS (.slot n))) (hr:Cd w' t' (a.eval (.tmp n)) (FS (.slot n)) (US (.slot n))):∃FS' US',Cu w0 FA UA N w' a ((E.setRoot (.slot n) [t']).bump (.slot n)) blk FS' US'/\FS' .hand=[]/\US' .hand=[]:=by
 let E1:St:=(E.setRoot (.slot n) [t']).bump (.slot n)
 have es:∀m,E1.slots m=if m=n then .one t' else E.slots m:=by
  intro m;simp only[E1,St.bump,St.setRoot,BX,hs,SV.withCells]
 have ev:∀s,s≠ .slot n->E1.ver s=E.ver s:=by
  intro s c;simp[E1,St.bump,St.setRoot,BX,c]
 have evr:E1.ver (.slot n)=E.ver (.slot n)+1:=by simp[E1,St.bump,St.setRoot,BX]
 have eg:∀s,E1.gen s=E.gen s:=λs=>rfl
 have er:∀s,s≠ .slot n->E1.root s=E.root s:=by
  intro s c
  cases s with
  |slot m=>
   have:m≠n:=λe=>c (by rw[e])
   simp only[St.root,es,Au this]
  |box m=>rfl
  |ext m=>rfl
  |hand=>rfl
 have d:∀s,BW w w' a a E E1 blk blk s:=by
  intro s;by_cases c:s= .slot n
  ·subst c;exact⟨.inl (by rw[evr];omega),.inr ⟨eg _,λj ad hv hp=>by simp[pa]at hv⟩⟩
  by_cases hh:s= .hand
  ·subst hh;exact Fz (ev _ c) (eg _) (by simp[St.root,h.nohand])
  exact D4 h (ev s c) (eg s) (er s c) (λ_ _=>rfl) (λ_=>rfl)
   (λb hx=>hb.keep b (h.inF s b hx).2 (h.dis s _ c b hx)) (λb hx=>hb.keep b (h.inU s b hx).2 (λe=>h.disU _ s b e hx))
 have k7:=h.two (w':=w') (a':=a) (E':=E1) (blk':=blk) (r1:= .slot n) (r2:= .hand) (L1:=FS (.slot n)) (L2:=[]) (V1:=US (.slot n)) (V2:=[]) (by simp)
  (by simpa using h.nodup (.slot n))
  (λb hx=>⟨.inl (by simpa using hx),AJ (h.inF (.slot n) b (by simpa using hx)).2 hb.size⟩)
  (λb hx=> .inl ⟨.slot n,by simpa using hx⟩)
  hb.size hb.os hb.tape hb.output (λb hx q _=>hb.keep b hx q) d (λm hm _=>⟨by rw[es,Au (λe=>hm (by rw[e]))],rfl⟩) (λs _ hs _=>⟨rfl,rfl⟩)
  (by
   show DD w' a E1 blk (E1.slots n) (a.eval (.tmp n)) (FS (.slot n)) (US (.slot n));rw[es,Ar rfl];simp only[DD]
   exact⟨EK hr,λ_=>WR (Rg hr)⟩)
  trivial h.nohand h.len h.nodef (hamb:=by show((E.setRoot (.slot n) [t']).bump (.slot n)).amb=E.amb;rw[Iq,Dr])
 exact⟨_,_,k7,BA _ _ _,BA _ _ _⟩
end
theorem So {enc:Int->List TV} (a:∀x,enc x=[.int .i64 x]):∀l:List Int,(AB enc l).map TV.val=l.map (Value.int .i64)
 |[]=>rfl
 |x::l=>by
  have:AB enc (x::l)=enc x++AB enc l:=by simp[AB]
  rw[this,Dt,So a l,a];rfl
theorem s9 {rest:List Oper} {rr:β} {f:FuncId} {oo:Oper} {x d ver:Nat} {enc:Int->List TV} (h:(QS l).bind k=some rr) (hI:Y9 P f e) {tys:Array TypeId} (hk:∀l',QS l=some l'->k l'=some rr->EY P N ops rest (((E.setRoot (.slot n) [.sl true e 1 (AB enc l')]).bump (.slot n)).put (some d) (.tup [])) Q) (b:∀x,enc x=[.int .i64 x]) (hx:E.slots x= .one (.view (.slot n) ver [] 0):=by rfl) (g:E.ver (.slot n)=ver:=by rfl) (hs:E.slots n= .one (.sl true e 1 (AB enc l)):=by rfl) (ho:oo.op= .call {callee:= .value (.func f),args:= #[.tmp x],argTypes:=tys}:=by rfl) (hd:oo.dst=some d:=by rfl) (hN:Nat.blt d N=true:=by rfl) (hg:oo.guard=none:=by rfl) (hf:Yk P f):EY P N ops (oo::rest) E Q:=by
 obtain⟨l',hl',h⟩:=Ao.1 h;have j:=hl';unfold QS at hl';split at hl'
 case isFalse=>cases hl'
 rename_i o
 injection hl' with hl'
 have hN':d<N:=by simpa[Bi]using hN
 have c:∀x,(enc x).all TV.flat=true:=λx=>by rw[b];rfl
 have i:∀x,(enc x).length=1:=λx=>by rw[b];rfl
 intro w0 FA UA w a blk FS US hr hF hU;have b2:=hr.slot n;rw[hs]at b2;simp only[DD,C1]at b2;obtain⟨b2,b3⟩:=b2;simp only[Cd]at b2;obtain⟨m,vs,F',b4,b5,b6⟩:=b2;have p:=Rf b5 (E8 c l);obtain⟨rfl,r⟩:=IB b5 (E8 c l);subst p;have t:m=l.length:=by
  have q:=b4.1;rw[AQ,Em i l,Qs,Qs]at q;exact q.symm
 subst t;rw[Aw]at b6;have b3':=b3 rfl;have evx:a.eval (.tmp x)=a.eval (.tmp n):=by
  have q:=hr.slot x;rw[hx]at q;simp only[DD,C1]at q;obtain⟨⟨_,_,_,q4⟩,_⟩:=q;obtain⟨q5,_⟩:=q4 g;simp only[pv,B8,b3']at q5;simpa using q5.symm
 simp only[wpList,BS hr (H9 (P:=P) (ops:=ops) hg),BU];refine .inl ?_;unfold Oper.wp;rw[HI ho hf];have ea: #[Operand.tmp x].map a.eval= #[a.eval (.tmp n)]:=by simp[evx]
 rw[ea];simp only[Oper.upon];rw[So b]at b4;refine Calls.mono (hI w _ l b4 o) ?_;rintro ee w' ⟨rfl,u,y⟩;obtain⟨FS3,US3,t1,t2,t3⟩:=hr.turnS hF hU hs (t':= .sl true e 1 (AB enc l')) (w':=w') (by rw[b6];exact u)
  (by
   rw[b6,r];simp only[Cd];refine⟨l.length,_,[],?_,QE (E8 c l'),by simp⟩;rw[So b,<-hl']
   exact y)
 obtain⟨FS4,US4,u1,u2,u3⟩:=t1.land (w':=w') (d:=d) (s:= .tup []) (v:= .tuple #[]) (F:=[]) (U:=[]) hN' (by simp[DD,L3]) Ce (by simp) (by simp) (A5 _) rfl rfl rfl (λ_ _ _=>rfl);rw[hd];exact hk l' j h _ _ _ _ _ _ _ _ u1 u2 u3
def wT (E:St) (o:Oper) (t:TV):St:=(((E.setRoot (.slot (Zd (E.slots (Y2 o)))) [t]).bump (.slot (Zd (E.slots (Y2 o))))).put (some (Ql o)) (.tup []))
theorem rE {i:Nat} {rr:β} {enc:Int->List TV} (h:(QS l).bind k=some rr) (hI:Y9 P (Pu (oA ops i)) e) (hk:∀l',QS l=some l'->k l'=some rr->RW P N ops (i+1) (wT E (oA ops i) (.sl true e 1 (AB enc l'))) Q) (a:∀x,enc x=[.int .i64 x]) (hx:E.slots (Y2 (oA ops i))= .one (.view (.slot (Zd (E.slots (Y2 (oA ops i))))) (Wc (E.slots (Y2 (oA ops i)))) [] 0):=by kernel_rfl) (b:E.ver (.slot (Zd (E.slots (Y2 (oA ops i)))))=Wc (E.slots (Y2 (oA ops i))):=by kernel_rfl) (hs:E.slots (Zd (E.slots (Y2 (oA ops i))))= .one (.sl true e 1 (AB enc l)):=by kernel_rfl) (ho:(oA ops i).op= .call {callee:= .value (.func (Pu (oA ops i))),args:= #[.tmp (Y2 (oA ops i))],argTypes:=rL (oA ops i)}:=by kernel_rfl) (hd:(oA ops i).dst=some (Ql (oA ops i)):=by kernel_rfl) (hg:(oA ops i).guard=none:=by kernel_rfl) (hN:(Nat.blt (Ql (oA ops i)) N&&Nat.blt i ops.size)=true:=by kernel_rfl) (hf:Ti P N (oA ops i)=true:=by kernel_rfl):RW P N ops i E Q:=by
 rw[Ai]at hN;unfold RW;rw[FT hN.2];exact s9 h hI hk a hx b hs ho hd hN.1 hg (Pj hf).choose_spec.choose_spec.2.1
end Go.TI
