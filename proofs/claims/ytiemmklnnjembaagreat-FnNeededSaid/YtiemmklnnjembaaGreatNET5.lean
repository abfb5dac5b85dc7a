/- What walks of Go code need. No condition. -/
import Derived.Test.YtiemmklnnjembaaGreatNET4
import Derived.Sort.OwnSortedInts
import Derived.Shelf.Sort.Plain
import Derived.Shelf.Slices.In.SortNone2
namespace Go.TI
open Go Go.RowKit
def Va (l:List Int):List Int:=l.mergeSort fun x y=>decide (x<=y)
def fX (l:List Int):Option (List Int):=if l.length<4611686018427387904 then some (Va l)else none
theorem uX (l:List Int):(Va l).length=l.length:=List.length_mergeSort l
def pJ (P:Program) (f:FuncId) (e:Nat):Prop:=∀(w:World) (v:Value) (zs:List Int),w.ownsRow 0 e 1 v zs.length (zs.map (Value.int .i64))->zs.length<4611686018427387904->
 Calls P f #[v] w fun r w'=>r= .returned (.tuple #[])/\II w w' (C4 v)/\w'.ownsRow 0 e 1 v zs.length ((Va zs).map (Value.int .i64))
theorem tE {P:Program} {ρ:Go.Shelf.Ren} (Ly:Go.Proofs.Lays.n191 P ρ) (e:Nat):pJ P (ρ.f 191) e:=by
 intro w v zs c d
 rcases c.2 with⟨rfl,h0⟩|⟨g,cap,cur,rfl,h1,h2,h3,h4,h5,h6⟩
 ·have hz:zs=[]:=AC h0;subst hz;refine(Go.Proofs.Any.sort_Ints_none Ly none 0 w).mono ?_;rintro r w' ⟨rfl,rfl⟩;exact⟨rfl,⟨rfl,rfl,rfl,A6 _,fun _ _ _=>rfl⟩,by rw [show Va []=[]from by simp [Va]];exact c⟩
 ·have hg:g<w.heap.size:=(Array.getElem?_eq_some_iff.1 h2).1;have hH:=Go.holds_of_blockI (ss:=zs) h2 (by rw [YE]at h6;exact h6);refine(Go.Proofs.Any.sort_Ints Ly g 0 cap zs w hH hg d).mono ?_;rintro r w' ⟨rfl,n,os,rfl⟩;have a:=Go.grownBy_sortedI (w:=w) (g:=g) (n:=n) (os:=os) (zs.mergeSort fun x y=>decide (x<=y)).toArray;refine⟨rfl,⟨a.os,a.tape,a.output,a.size,fun b hb h=>a.block b hb (fun e=>h (by simp at e;subst e;simp [C4,Value.ownBlock]))⟩,?_⟩;exact Go.ownsRow_sortedI (ts:=zs.mergeSort fun x y=>decide (x<=y)) (List.length_mergeSort zs) (LN _) h2 h3 h4 h5
section
variable {w0:Base} {FA UA:List Nat} {N:Nat} {w:World} {a:Act} {E:St} {blk:Root->Nat} {FS US:Root->List Nat} {P:Program}
theorem CI.turnS (h:CI w0 FA UA N w a E blk FS US) (hF:FS .hand=[]) (hU:US .hand=[]) {n:Nat} {t t':TV} (hs:E.slots n= .one t) {w':World} (hb:II w w' (FS (.slot n)))
  (hr:CC w' t' (a.eval (.tmp n)) (FS (.slot n)) (US (.slot n))):∃FS' US',CI w0 FA UA N w' a ((E.setRoot (.slot n) [t']).bump (.slot n)) blk FS' US'/\FS' .hand=[]/\US' .hand=[]:=by
 let E1:St:=(E.setRoot (.slot n) [t']).bump (.slot n)
 have es:∀m,E1.slots m=if m=n then .one t' else E.slots m:=by
  intro m;simp only [E1,St.bump,St.setRoot,Ce,hs,SV.withCells]
 have ev:∀s,s≠ .slot n->E1.ver s=E.ver s:=by
  intro s c;simp [E1,St.bump,St.setRoot,Ce,c]
 have evr:E1.ver (.slot n)=E.ver (.slot n)+1:=by simp [E1,St.bump,St.setRoot,Ce]
 have eg:∀s,E1.gen s=E.gen s:=fun s=>rfl
 have er:∀s,s≠ .slot n->E1.root s=E.root s:=by
  intro s c
  cases s with
  |slot m=>
   have:m≠n:=fun e=>c (by rw [e])
   simp only [St.root,es,A5 this]
  |box m=>rfl
  |ext m=>rfl
  |hand=>rfl
 have d:∀s,Cp w w' a a E E1 blk blk s:=by
  intro s;by_cases c:s= .slot n
  ·subst c;exact⟨.inl (by rw [evr];omega),.inr ⟨eg _,fun j ad hv hp=>by simp [pa]at hv⟩⟩
  ·by_cases hh:s= .hand
   ·subst hh;exact F6 (ev _ c) (eg _) (by simp [St.root,h.nohand])
   ·exact DL h (ev s c) (eg s) (er s c) (fun _ _=>rfl) (fun _=>rfl)
     (fun b hx=>hb.keep b (h.inF s b hx).2 (h.dis s _ c b hx)) (fun b hx=>hb.keep b (h.inU s b hx).2 (fun e=>h.disU _ s b e hx))
 have k7:=h.two (w':=w') (a':=a) (E':=E1) (blk':=blk) (r1:= .slot n) (r2:= .hand) (L1:=FS (.slot n)) (L2:=[]) (V1:=US (.slot n)) (V2:=[]) (by simp)
  (by simpa using h.nodup (.slot n))
  (fun b hx=>⟨.inl (by simpa using hx),Bj (h.inF (.slot n) b (by simpa using hx)).2 hb.size⟩)
  (fun b hx=> .inl ⟨.slot n,by simpa using hx⟩)
  hb.size hb.os hb.tape hb.output (fun b hx q _=>hb.keep b hx q) d (fun m hm _=>⟨by rw [es,A5 (fun e=>hm (by rw [e]))],rfl⟩) (fun s _ hs _=>⟨rfl,rfl⟩)
  (by
   show Eo w' a E1 blk (E1.slots n) (a.eval (.tmp n)) (FS (.slot n)) (US (.slot n));rw [es,A3 rfl];simp only [Eo]
   exact⟨FH hr,fun _=>Z9 (Rw hr)⟩)
  trivial h.nohand h.len h.nodef (hamb:=by show((E.setRoot (.slot n) [t']).bump (.slot n)).amb=E.amb;rw [KR,EK])
 exact⟨_,_,k7,BQ _ _ _,BQ _ _ _⟩
theorem SE {enc:Int->List TV} (a:∀x,enc x=[.int .i64 x]):∀l:List Int,(Ah enc l).map TV.val=l.map (Value.int .i64)
 |[]=>rfl
 |x::l=>by
  have:Ah enc (x::l)=enc x++Ah enc l:=by simp [Ah]
  rw [this,C0,SE a l,a];rfl
end
section
variable {N:Nat} {E:St} {P:Program} {ops:Array Oper} {rest:List Oper} {Q:Exit->St->Prop} {β:Type} {rr:β}
theorem ABC {enc:Int->List TV} {l:List Int} {k:List Int->Option β} (h:(fX l).bind k=some rr) {f:FuncId} {e:Nat} (hI:pJ P f e) {oo:Oper} {n x d ver:Nat} {tys:Array TypeId}
  (hk:∀l',fX l=some l'->k l'=some rr->A7 P N ops rest (((E.setRoot (.slot n) [.sl true e 1 (Ah enc l')]).bump (.slot n)).put (some d) (.tup [])) Q) (b:∀x,enc x=[.int .i64 x])
  (hx:E.slots x= .one (.view (.slot n) ver [] 0):=by rfl) (g:E.ver (.slot n)=ver:=by rfl) (hs:E.slots n= .one (.sl true e 1 (Ah enc l)):=by rfl)
  (ho:oo.op= .call {callee:= .value (.func f),args:= #[.tmp x],argTypes:=tys}:=by rfl) (hd:oo.dst=some d:=by rfl) (hN:Nat.blt d N=true:=by rfl) (hg:oo.guard=none:=by rfl) (hf:eM P f):A7 P N ops (oo::rest) E Q:=by
 obtain⟨l',hl',h⟩:=As.1 h;have j:=hl';unfold fX at hl';split at hl'
 case isFalse=>cases hl'
 rename_i o
 injection hl' with hl'
 have hN':d<N:=by simpa [Bx]using hN
 have c:∀x,(enc x).all TV.flat=true:=fun x=>by rw [b];rfl
 have i:∀x,(enc x).length=1:=fun x=>by rw [b];rfl
 intro w0 FA UA w a blk FS US hr hF hU;have b2:=hr.slot n;rw [hs]at b2;simp only [Eo,CL]at b2;obtain⟨b2,b3⟩:=b2;simp only [CC]at b2;obtain⟨m,vs,F',b4,b5,b6⟩:=b2;have p:=Wb b5 (Je c l);obtain⟨rfl,r⟩:=Nx b5 (Je c l);subst p;have t:m=l.length:=by
  have q:=b4.1;rw [Bw,Fg i l,YE,YE]at q;exact q.symm
 subst t;rw [Av]at b6;have b3':=b3 rfl;have evx:a.eval (.tmp x)=a.eval (.tmp n):=by
  have q:=hr.slot x;rw [hx]at q;simp only [Eo,CL]at q;obtain⟨⟨_,_,_,q4⟩,_⟩:=q;obtain⟨q5,_⟩:=q4 g;simp only [pv,BV,b3']at q5;simpa using q5.symm
 simp only [wpList,Cz hr (Ov (P:=P) (ops:=ops) hg),Cg];refine .inl ?_;unfold Oper.wp;rw [IY ho hf];have ea: #[Operand.tmp x].map a.eval= #[a.eval (.tmp n)]:=by simp [evx]
 rw [ea];simp only [Oper.upon];rw [SE b]at b4;refine Calls.mono (hI w _ l b4 o) ?_;rintro ee w' ⟨rfl,u,y⟩;obtain⟨FS3,US3,t1,t2,t3⟩:=hr.turnS hF hU hs (t':= .sl true e 1 (Ah enc l')) (w':=w') (by rw [b6];exact u)
  (by
   rw [b6,r];simp only [CC];refine⟨l.length,_,[],?_,UK (Je c l'),by simp⟩;rw [SE b,<-hl']
   exact y)
 obtain⟨FS4,US4,u1,u2,u3⟩:=t1.land (w':=w') (d:=d) (s:= .tup []) (v:= .tuple #[]) (F:=[]) (U:=[]) hN' (by simp [Eo,Nm]) CQ (by simp) (by simp) (A6 _) rfl rfl rfl (fun _ _ _=>rfl);rw [hd];exact hk l' j h _ _ _ _ _ _ _ _ u1 u2 u3
end
end Go.TI
