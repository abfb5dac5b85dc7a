/- What walks of Go code need. No condition. -/
import Derived.Calls
import Derived.WalkKit
import Derived.Laws.AppendOwn
import Derived.Laws.OwnMore
import Derived.OrdersHeld
import Derived.Laws.Cells
import Derived.Laws.Entries
import Derived.ChangeKeysEq
import Derived.Laws.BytesArg
set_option linter.unusedSimpArgs false
namespace Go.TI
theorem Aa:type_of% @Option.bind_some:=@Option.bind_some
theorem Ab:type_of% @List.getElem?_eq_getElem:=@List.getElem?_eq_getElem
theorem Ac:type_of% @cond_false:=@cond_false
theorem Ad:type_of% @decide_eq_true:=@decide_eq_true
theorem Ae:type_of% @cond_true:=@cond_true
theorem Af:type_of% @decide_eq_false:=@decide_eq_false
theorem Ag:type_of% @List.getElem?_eq_some_iff:=@List.getElem?_eq_some_iff
theorem Ah:type_of% @Bool.not_true:=@Bool.not_true
theorem Ai:type_of% @List.length_append:=@List.length_append
theorem Aj:type_of% @Option.bind_eq_some_iff:=@Option.bind_eq_some_iff
theorem Ak:type_of% @Bool.and_eq_true:=@Bool.and_eq_true
theorem Al:type_of% @List.mem_append:=@List.mem_append
theorem An:type_of% @Option.some.injEq:=@Option.some.injEq
theorem Ao:type_of% @List.take_succ_eq_append_getElem:=@List.take_succ_eq_append_getElem
theorem Aq:type_of% @List.mem_of_getElem?:=@List.mem_of_getElem?
theorem Au:type_of% @Nat.le_refl:=@Nat.le_refl
theorem Av:type_of% @if_neg:=@if_neg
theorem Ax:type_of% @List.append_assoc:=@List.append_assoc
theorem Ay:type_of% @if_pos:=@if_pos
theorem A3:type_of% @List.getElem_mem:=@List.getElem_mem
theorem A4:type_of% @List.append_nil:=@List.append_nil
theorem A5:type_of% @decide_eq_true_eq:=@decide_eq_true_eq
theorem A6:type_of% @List.nil_append:=@List.nil_append
theorem A7:type_of% @List.length_cons:=@List.length_cons
theorem A8:type_of% @List.length_singleton:=@List.length_singleton
theorem AC:type_of% @List.getElem_of_mem:=@List.getElem_of_mem
theorem AD:type_of% @Bool.not_false:=@Bool.not_false
theorem AE:type_of% @List.mem_singleton:=@List.mem_singleton
theorem AG:type_of% @List.mem_map:=@List.mem_map
theorem AH:type_of% @List.eq_nil_of_length_eq_zero:=@List.eq_nil_of_length_eq_zero
theorem AI:type_of% @List.mem_append_left:=@List.mem_append_left
theorem AM:type_of% @Option.map_eq_some_iff:=@Option.map_eq_some_iff
theorem AN:type_of% @List.take_of_length_le:=@List.take_of_length_le
theorem AO:type_of% @List.filter_append:=@List.filter_append
theorem AP:type_of% @List.getElem?_map:=@List.getElem?_map
theorem AR:type_of% @List.pairwise_append:=@List.pairwise_append
theorem AT:type_of% @List.drop_eq_getElem_cons:=@List.drop_eq_getElem_cons
theorem AU:type_of% @List.mem_append_right:=@List.mem_append_right
theorem AW:type_of% @List.length_take:=@List.length_take
theorem AX:type_of% @Nat.lt_of_lt_of_le:=@Nat.lt_of_lt_of_le
theorem AY:type_of% @Int.toNat_of_nonneg:=@Int.toNat_of_nonneg
theorem Bc:type_of% @List.take_length:=@List.take_length
theorem Be:type_of% @Int.toNat_natCast:=@Int.toNat_natCast
theorem Bf:type_of% @List.mem_filter:=@List.mem_filter
theorem Bg:type_of% @List.length_map:=@List.length_map
theorem Bl:type_of% @Option.getD_some:=@Option.getD_some
theorem Bm:type_of% @List.getElem?_append_left:=@List.getElem?_append_left
theorem Bo:type_of% @Prod.mk.injEq:=@Prod.mk.injEq
theorem Bp:type_of% @Nat.eq_of_beq_eq_true:=@Nat.eq_of_beq_eq_true
theorem Bq:type_of% @List.getElem?_append_right:=@List.getElem?_append_right
theorem Br:type_of% @List.filter_eq_nil_iff:=@List.filter_eq_nil_iff
theorem Bx:type_of% @Option.map_some:=@Option.map_some
theorem Bz:type_of% @Sum.elim_inl:=@Sum.elim_inl
theorem B5:type_of% @List.cons_append:=@List.cons_append
theorem B8:type_of% @Nat.blt_eq:=@Nat.blt_eq
theorem BB:type_of% @Bool.false_eq_true:=@Bool.false_eq_true
theorem BG:type_of% @congrArg:=@congrArg
theorem BJ:type_of% @List.map_cons:=@List.map_cons
theorem BQ:type_of% @if_true:=@if_true
theorem BR:type_of% @List.nodup_append:=@List.nodup_append
theorem BS:type_of% @Nat.mul_le_mul_right:=@Nat.mul_le_mul_right
theorem BV:type_of% @List.length_nil:=@List.length_nil
theorem Cb:type_of% @List.length_drop:=@List.length_drop
theorem Cd:type_of% @beq_iff_eq:=@beq_iff_eq
theorem Cf:type_of% @List.mem_or_eq_of_mem_set:=@List.mem_or_eq_of_mem_set
theorem Ci:type_of% @List.take_append_drop:=@List.take_append_drop
theorem Co:type_of% @List.map_append:=@List.map_append
theorem Cq:type_of% @Bool.or_eq_true:=@Bool.or_eq_true
theorem Cz:type_of% @List.getElem?_set:=@List.getElem?_set
theorem C0:type_of% @Int.eq_ofNat_of_zero_le:=@Int.eq_ofNat_of_zero_le
theorem C3:type_of% @List.pairwise_cons:=@List.pairwise_cons
theorem C4:type_of% @List.getElem?_drop:=@List.getElem?_drop
theorem C7:type_of% @List.nodup_nil:=@List.nodup_nil
theorem CC:type_of% @List.mem_cons:=@List.mem_cons
theorem CE:type_of% @List.any_eq_true:=@List.any_eq_true
theorem CF:type_of% @List.ext_getElem?:=@List.ext_getElem?
theorem CG:type_of% @Bool.not_eq_true':=@Bool.not_eq_true'
theorem CH:type_of% @List.getElem?_take:=@List.getElem?_take
theorem CI:type_of% @List.drop_drop:=@List.drop_drop
theorem CL:type_of% @List.length_filter_le:=@List.length_filter_le
theorem CN:type_of% @List.filter_cons_of_pos:=@List.filter_cons_of_pos
theorem CR:type_of% @List.length_range:=@List.length_range
theorem CZ:type_of% @List.mem_cons_self:=@List.mem_cons_self
theorem Df:type_of% @beq_eq_false_iff_ne:=@beq_eq_false_iff_ne
theorem Dh:type_of% @List.map_congr_left:=@List.map_congr_left
theorem Di:type_of% @List.nodup_cons:=@List.nodup_cons
theorem Dn:type_of% @Bool.true_and:=@Bool.true_and
theorem Dq:type_of% @List.pairwise_iff_getElem:=@List.pairwise_iff_getElem
theorem Dr:type_of% @List.set_cons_zero:=@List.set_cons_zero
theorem D5:type_of% @List.eq_of_mem_replicate:=@List.eq_of_mem_replicate
theorem D6:type_of% @List.singleton_append:=@List.singleton_append
theorem DB:type_of% @Nat.succ_mul:=@Nat.succ_mul
theorem DI:type_of% @decide_eq_false_iff_not:=@decide_eq_false_iff_not
theorem DJ:type_of% @List.getElem?_cons_zero:=@List.getElem?_cons_zero
theorem DK:type_of% @List.filter_cons_of_neg:=@List.filter_cons_of_neg
theorem DU:type_of% @Bool.eq_iff_iff:=@Bool.eq_iff_iff
theorem DX:type_of% @Nat.lt_or_ge:=@Nat.lt_or_ge
theorem DY:type_of% @List.drop_eq_nil_of_le:=@List.drop_eq_nil_of_le
theorem Ei:type_of% @List.take_add_one:=@List.take_add_one
theorem Ey:type_of% @List.range_succ:=@List.range_succ
theorem E7:type_of% @List.filter_filter:=@List.filter_filter
theorem ED:type_of% @Array.getD_eq_getD_getElem?:=@Array.getD_eq_getD_getElem?
theorem EZ:type_of% @Array.getElem?_eq_none:=@Array.getElem?_eq_none
theorem Fk:type_of% @Ne.symm:=@Ne.symm
theorem Fs:type_of% @if_false:=@if_false
theorem F6:type_of% @Option.isSome_none:=@Option.isSome_none
theorem FE:type_of% @Nat.lt_irrefl:=@Nat.lt_irrefl
theorem FG:type_of% @List.sum_cons:=@List.sum_cons
theorem FH:type_of% @List.map_map:=@List.map_map
theorem FI:type_of% @List.all_cons:=@List.all_cons
theorem FO:type_of% @List.take_append_of_le_length:=@List.take_append_of_le_length
theorem FP:type_of% @List.mem_cons_of_mem:=@List.mem_cons_of_mem
theorem G4:type_of% @List.length_set:=@List.length_set
theorem G5:type_of% @List.drop_left':=@List.drop_left'
theorem GH:type_of% @List.replicate_succ:=@List.replicate_succ
theorem GI:type_of% @List.filter_eq_self:=@List.filter_eq_self
theorem GQ:type_of% @Int.le_refl:=@Int.le_refl
theorem Hl:type_of% @UInt8.toNat_ofNat':=@UInt8.toNat_ofNat'
theorem Hm:type_of% @List.mem_range:=@List.mem_range
theorem Hw:type_of% @List.getElem?_eq_none:=@List.getElem?_eq_none
theorem Hx:type_of% @List.eq_nil_or_concat:=@List.eq_nil_or_concat
theorem Hy:type_of% @List.concat_eq_append:=@List.concat_eq_append
theorem HU:type_of% @Nat.zero_add:=@Nat.zero_add
theorem HV:type_of% @Nat.add_zero:=@Nat.add_zero
theorem HW:type_of% @List.getLast?_concat:=@List.getLast?_concat
theorem HX:type_of% @List.getElem_take:=@List.getElem_take
theorem Jh:type_of% @List.take_zero:=@List.take_zero
theorem Ji:type_of% @List.pairwise_singleton:=@List.pairwise_singleton
theorem Jj:type_of% @List.all_eq_true:=@List.all_eq_true
theorem JF:type_of% @Nat.le_trans:=@Nat.le_trans
theorem JG:type_of% @List.set_cons_succ:=@List.set_cons_succ
theorem JH:type_of% @List.append_eq_nil_iff:=@List.append_eq_nil_iff
theorem JK:type_of% @Bool.true_eq_false:=@Bool.true_eq_false
theorem JX:type_of% @List.filter_nil:=@List.filter_nil
theorem Ku:type_of% @Bool.and_self:=@Bool.and_self
theorem Kv:type_of% @of_decide_eq_true:=@of_decide_eq_true
theorem Kw:type_of% @List.pairwise_map:=@List.pairwise_map
theorem Kx:type_of% @List.flatMap_cons:=@List.flatMap_cons
theorem Lh:type_of% @Nat.zero_le:=@Nat.zero_le
theorem Li:type_of% @List.getElem?_mapIdx:=@List.getElem?_mapIdx
theorem Lj:type_of% @Int.tmod_eq_emod_of_nonneg:=@Int.tmod_eq_emod_of_nonneg
theorem LP:type_of% @decide_false:=@decide_false
theorem MR:type_of% @List.take_succ_cons:=@List.take_succ_cons
theorem MS:type_of% @List.length_pos_iff:=@List.length_pos_iff
theorem Nc:type_of% @Option.isSome_iff_exists:=@Option.isSome_iff_exists
theorem Ng:type_of% @List.map_const':=@List.map_const'
theorem N8:type_of% @Nat.mul_div_cancel:=@Nat.mul_div_cancel
theorem N9:type_of% @List.find?_eq_none:=@List.find?_eq_none
theorem O5:type_of% @Nat.lt_trichotomy:=@Nat.lt_trichotomy
theorem O6:type_of% @List.size_toArray:=@List.size_toArray
theorem O7:type_of% @List.length_pos_of_mem:=@List.length_pos_of_mem
theorem O8:type_of% @List.any_eq_false:=@List.any_eq_false
theorem PU:type_of% @Nat.ble_eq:=@Nat.ble_eq
theorem PW:type_of% @Array.toList_map:=@Array.toList_map
theorem PY:type_of% @Nat.add_assoc:=@Nat.add_assoc
theorem Rk:type_of% @Bool.or_eq_false_iff:=@Bool.or_eq_false_iff
theorem Rm:type_of% @Array.toArray_toList:=@Array.toArray_toList
theorem Rz:type_of% @List.take_left':=@List.take_left'
theorem R0:type_of% @List.foldl_cons:=@List.foldl_cons
theorem R1:type_of% @List.cons.injEq:=@List.cons.injEq
theorem R7:type_of% @List.getElem?_range:=@List.getElem?_range
theorem R8:type_of% @List.flatMap_append:=@List.flatMap_append
theorem T8:type_of% @Option.isSome_some:=@Option.isSome_some
theorem T9:type_of% @Nat.eq_zero_or_pos:=@Nat.eq_zero_or_pos
theorem TA:type_of% @List.length_mapIdx:=@List.length_mapIdx
theorem UO:type_of% @List.map_id:=@List.map_id
theorem UP:type_of% @List.getElem_drop:=@List.getElem_drop
theorem UQ:type_of% @List.flatten_cons:=@List.flatten_cons
theorem Wl:type_of% @Bool.false_or:=@Bool.false_or
theorem WP:type_of% @false_iff:=@false_iff
theorem Xg:type_of% @List.take_append:=@List.take_append
theorem Yi:type_of% @Nat.sub_self:=@Nat.sub_self
theorem Yj:type_of% @Nat.pow_succ:=@Nat.pow_succ
theorem Yk:type_of% @Int.zero_add:=@Int.zero_add
theorem dP:type_of% @Nat.mul_one:=@Nat.mul_one
theorem dQ:type_of% @Nat.mul_le_mul:=@Nat.mul_le_mul
theorem lC:type_of% @Bool.or_false:=@Bool.or_false
theorem lD:type_of% @Bool.and_true:=@Bool.and_true
theorem sJ:type_of% @Nat.mul_comm:=@Nat.mul_comm
theorem sK:type_of% @List.map_nil:=@List.map_nil
theorem sN:type_of% @Int.le_of_lt:=@Int.le_of_lt
theorem ACn:type_of% @Option.ext:=@Option.ext
theorem ACs:type_of% @Array.ext':=@Array.ext'
theorem AE1:type_of% @Eq.trans:=@Eq.trans
end Go.TI
set_option linter.unusedVariables false
namespace Go.TI
open Go
inductive Root where
 |slot (n:Nat)
 |box (n:Nat)
 |ext (n:Nat)
 |hand
 deriving DecidableEq
inductive TV where
 |int (k:IntKind) (n:Int)
 |bool (b:Bool)
 |str (s:ByteArray)
 |fn (f:Fn) (ta cap:Array Value)
 |adr (ad:Addr)
 |hdr (ad:Addr) (n c:Nat)
 |sl (own:Bool) (e sz:Nat) (cells:List TV)
 |view (r:Root) (ver:Nat) (q:List Nat) (j:Nat)
 |ptr (r:Root) (ver:Nat) (q:List Nat) (j:Nat)
 |junk
inductive SV where
 |one (t:TV)
 |agg (cells:List TV)
 |tup (vs:List SV)
structure R2 where
 B:List Nat
 I:World->Prop
 st:∀w w',I w->(∀b∈B,w'.heap[b]?=w.heap[b]?)->I w'
 rd:Addr->Option Value:=λ_=>Option.none
 rdI:∀w ad v,I w->rd ad=some v->w.cell? ad=some v:=by intro w ad v _ h;cases h
 pin:Option Nat:=Option.none
def R2.none:R2 where
 B:=[]
 I:=λ_=>True
 st:=λ_ _ _ _=>trivial
structure St where
 slots:Nat->SV
 boxes:Root->Option (List TV)
 ver:Root->Nat
 gen:Root->Nat
 amb:R2:=R2.none
 fz:Option Nat:=Option.none
def St.stamp (E:St) (r:Root) (q:List Nat):Nat:=match q with
 |[]=>E.gen r
 |_=>E.ver r
def SV.cells:SV->List TV
 | .one t=>[t]
 | .agg cs=>cs
 | .tup _=>[]
variable {w w' w2:World} {E E' E1:St} {a a':Act} {blk blk':Root->Nat} {FA UA q U F:List Nat} {FS US:Root->List Nat} {N j d sz n c e i:Nat} {r:Root} {P:Program} {v vx:Value} {s:SV} {t:TypeId} {o:Oper} {x:Operand} {α β:Type} {z y:TV} {vs:List Value} {op:BinOp} {b:Bool} {lo hi:Option Operand} {f:List TV->List TV}
def Cg [DecidableEq α] (f:α->β) (a:α) (b:β):α->β:=λx=>if x=a then b else f x
def St.root (E:St):Root->Option (List TV)
 | .slot n=>some (E.slots n).cells
 |r=>E.boxes r
def SV.withCells:SV->List TV->SV
 | .one _,[t]=> .one t
 | .agg _,cs=> .agg cs
 |s,_=>s
def St.setRoot (E:St) (r:Root) (cs:List TV):St:=match r with
 | .slot n=>{E with slots:=Cg E.slots n ((E.slots n).withCells cs)}
 |r=>{E with boxes:=Cg E.boxes r (some cs)}
def St.bump (E:St) (r:Root):St:={E with ver:=Cg E.ver r (E.ver r+1)}
theorem Ew {cs:List TV}:(E.setRoot r cs).amb=E.amb:=by cases r<;>rfl
theorem Ii {cs:List TV}:(E.setRoot r cs).fz=E.fz:=by cases r<;>rfl
theorem Rd:(E.bump r).fz=E.fz:=rfl
theorem Lb:(E.bump r).amb=E.amb:=rfl
def BN:List TV->List Nat->Option (List TV)
 |cs,[]=>some cs
 |cs,c::q=>match cs[c]? with
  |some (.sl _ _ _ cells)=>BN cells q
  |_=>none
def MX:List TV->List Nat->Bool
 |_,[]=>true
 |cs,c::q=>match cs[c]? with
  |some (.sl o _ _ cells)=>o&&MX cells q
  |_=>false
def DL:List TV->List Nat->(List TV->List TV)->List TV
 |cs,[],f=>f cs
 |cs,c::q,f=>match cs[c]? with
  |some (.sl o e sz cells)=>cs.set c (.sl o e sz (DL cells q f))
  |_=>cs
def setRow (cs:List α) (j:Nat) (xs:List α):List α:=cs.take j++xs++cs.drop (j+xs.length)
def TV.isSl:TV->Bool
 | .sl .. =>true
 |_=>false
def TV.isJunk:TV->Bool
 | .junk=>true
 |_=>false
mutual
def Nf:TV->TV
 | .sl _ e sz cells=> .sl false e sz (BD cells)
 |t=>t
def BD:List TV->List TV
 |[]=>[]
 |t::ts=>Nf t::BD ts
end
mutual
def Bb:TV->Bool
 | .sl o _ _ cells=>!o||AB cells
 | .int .. | .bool _| .str _| .fn .. | .adr .. | .hdr .. =>false
 |_=>true
def AB:List TV->Bool
 |[]=>false
 |t::ts=>Bb t||AB ts
end
def see (E:St) (r:Root) (q:List Nat) (c:Nat) (t:TV):TV:=match t with
 | .sl true _ _ _=> .view r (E.ver r) q c
 |t=>t
def Vp (E:St) (r:Root) (q:List Nat):Nat->List TV->List TV
 |_,[]=>[]
 |c,t::ts=>see E r q c t::Vp E r q (c+1) ts
def Ts (P:Program) (t:TypeId):Value->Option TV
 | .int k n=>some (.int k n)
 | .bool b=>some (.bool b)
 | .string s=>some (.str s)
 | .slice none 0 0=>match P.underlying t with
  |some (.slice e)=>some (.sl true e (P.cellsOf e) [])
  |_=>none
 |_=>none
def St.val (P:Program) (E:St) (t:TypeId):Operand->Option SV
 | .tmp n=>match E.slots n with
  | .one x=>some (.one (see E (.slot n) [] 0 x))
  | .agg cs=>some (.agg (Vp E (.slot n) [] 0 cs))
  | .tup _=>none
 | .const v=>(Ts P t v).map .one
 |_=>none
def AAt (f:Option Nat) (d:Nat):Option Nat:=match f with
 |some n=>bif Nat.beq (n/2) d then none else some n
 |none=>none
theorem aG {f:Option Nat} (h:AAt f d=some n):f=some n/\n/2≠d:=by
 unfold AAt at h
 cases f with
 |none=>cases h
 |some m=>
  simp only at h
  cases hb:Nat.beq (m/2) d with
  |true=>rw[hb]at h;cases h
  |false=>
   rw[hb]at h
   injection h with h
   subst h;exact⟨rfl,λe=>by rw[e]at hb;simp at hb⟩
def St.put (E:St) (d:Option Tmp) (s:SV):St:=match d with
 |some d=>{E with slots:=Cg E.slots d s,ver:=Cg E.ver (.slot d)<|E.ver (.slot d)+1,fz:=AAt E.fz d}
 |none=>E
open Go.RowKit
def BO (v:Value):List Nat:=v.ownBlock.toList
def O1 (w:World) (v:Value) (vs:List Value):Prop:=∀i u,vs[i]?=some u->∃ad n c,v= .slice (some ad) n c/\w.cell? (ad.add i)=some u
mutual
def C1 (w:World):TV->Value->List Nat->List Nat->Prop
 | .int k n,v,F,U=>v= .int k n/\F=[]/\U=[]
 | .bool b,v,F,U=>v= .bool b/\F=[]/\U=[]
 | .str s,v,F,U=>v= .string s/\F=[]/\U=[]
 | .fn f ta cap,v,F,U=>v= .func f ta cap/\F=[]/\U=[]
 | .adr ad,v,F,U=>v= .pointer (some ad)/\F=[]/\U=[]
 | .hdr ad n c,v,F,U=>v= .slice (some ad) n c/\F=[]/\U=[]
 | .sl true e sz cells,v,F,U=>∃n vs F',w.ownsRow 0 e sz v n vs/\Bv w cells vs F' U/\F=BO v++F'
 | .sl false _ sz cells,v,F,U=>∃A n c vs U' B,v= .slice A n c/\n<=c/\vs.length=n*sz/\O1 w v vs/\Bv w cells vs [] U'/\F=[]/\(B=BO v\/vs=[]/\B=[])/\U=B++U'
 | .junk,v,F,U=>v.oneCell'=true/\F=[]/\U=[]
 |_,_,_,_=>False
def Bv (w:World):List TV->List Value->List Nat->List Nat->Prop
 |[],vs,F,U=>vs=[]/\F=[]/\U=[]
 |t::ts,vs,F,U=>∃v a F1 F2 U1 U2,vs=v::a/\F=F1++F2/\U=U1++U2/\C1 w t v F1 U1/\Bv w ts a F2 U2
end
theorem Du:∀{ts:List TV} {vs F U},Bv w ts vs F U->vs.length=ts.length
 |[],vs,F,U,h=>by simp only[Bv]at h;simp[h.1]
 |t::ts,vs,F,U,h=>by
  simp only[Bv]at h;obtain⟨v,a,F1,F2,U1,U2,rfl,_,_,_,h2⟩:=h;simp[Du h2]
theorem oJ {a:Addr} (h:w'.heap[a.block]?=w.heap[a.block]?):w'.cell? a=w.cell? a:=World.cell?_of_block h
theorem Hh (a:Addr) (i:Nat):(a.add i).block=a.block:=by unfold Addr.add;split<;>rfl
theorem O1.move (h:O1 w v vs) (hb:∀b∈BO v,w'.heap[b]?=w.heap[b]?):O1 w' v vs:=by
 intro i u hi;obtain⟨ad,n,c,rfl,hc⟩:=h i u hi;refine⟨ad,n,c,rfl,?_⟩;rw[<-hc];exact oJ (by rw[Hh];exact hb _<|by simp[BO,Value.ownBlock])
theorem O1.moveB {B:List Nat} (h:O1 w v vs) (hB:B=BO v\/vs=[]/\B=[]) (hb:∀b∈B,w'.heap[b]?=w.heap[b]?):O1 w' v vs:=by
 rcases hB with rfl|⟨rfl,_⟩
 ·exact h.move hb
 intro i u hi;simp at hi
mutual
theorem J0 {w w':World}:∀{t:TV} {v F U},C1 w t v F U->(∀b∈F,w'.heap[b]?=w.heap[b]?)->(∀b∈U,w'.heap[b]?=w.heap[b]?)->C1 w' t v F U
 | .int ..,v,F,U,h,_,_=>by simpa only[C1]using h
 | .bool _,v,F,U,h,_,_=>by simpa only[C1]using h
 | .str _,v,F,U,h,_,_=>by simpa only[C1]using h
 | .fn ..,v,F,U,h,_,_=>by simpa only[C1]using h
 | .adr ..,v,F,U,h,_,_=>by simpa only[C1]using h
 | .hdr ..,v,F,U,h,_,_=>by simpa only[C1]using h
 | .junk,v,F,U,h,_,_=>by simpa only[C1]using h
 | .view ..,v,F,U,h,_,_=>by simp only[C1]at h
 | .ptr ..,v,F,U,h,_,_=>by simp only[C1]at h
 | .sl true e sz cells,v,F,U,h,hF,hU=>by
  simp only[C1]at h⊢;obtain⟨n,vs,F',ho,hr,rfl⟩:=h;refine⟨n,vs,F',?_,Ge hr (λb hb=>hF b<|AU _ hb) hU,rfl⟩;refine⟨ho.1,?_⟩
  rcases ho.2 with h0|⟨g,cap,a,rfl,hg,hh,r⟩
  ·exact .inl h0
  exact .inr ⟨g,cap,a,rfl,hg,(hF g<|by simp[BO,Value.ownBlock]).trans hh,r⟩
 | .sl false e sz cells,v,F,U,h,hF,hU=>by
  simp only[C1]at h⊢;obtain⟨A,n,c,vs,U',B,rfl,hn,hl,d,hr,rfl,hB,rfl⟩:=h;exact⟨A,n,c,vs,U',B,rfl,hn,hl,d.moveB hB λb hb=>hU b<|AI _ hb,Ge hr (by simp) λb hb=>hU b<|AU _ hb,rfl,hB,rfl⟩
theorem Ge {w w':World}:∀{ts:List TV} {vs F U},Bv w ts vs F U->(∀b∈F,w'.heap[b]?=w.heap[b]?)->(∀b∈U,w'.heap[b]?=w.heap[b]?)->Bv w' ts vs F U
 |[],vs,F,U,h,_,_=>by simpa only[Bv]using h
 |t::ts,vs,F,U,h,hF,hU=>by
  simp only[Bv]at h⊢;obtain⟨v,a,F1,F2,U1,U2,rfl,rfl,rfl,h1,h2⟩:=h
  exact⟨v,a,F1,F2,U1,U2,rfl,rfl,rfl,
   J0 h1 (λb hb=>hF b<|AI _ hb) (λb hb=>hU b<|AI _ hb),
   Ge h2 (λb hb=>hF b<|AU _ hb) (λb hb=>hU b<|AU _ hb)⟩
end
theorem NE (h:w.ownsRow 0 e sz v n vs):O1 w v vs:=by
 intro i u hi;have hl:=(Ag.1 hi).1
 rcases h.2 with⟨_,h0⟩|⟨g,cap,a,rfl,_⟩
 ·have:=h.1;subst h0;simp at this;subst this;simp at hi
 exact⟨_,_,_,rfl,h.cells rfl i u hi⟩
mutual
theorem SS {w:World}:∀{t:TV} {v F U},C1 w t v F U->∃U',C1 w (Nf t) v [] U'/\∀b∈U',b∈F\/b∈U
 | .int ..,v,F,U,h=>by simp only[C1,Nf]at h⊢;exact⟨[],by simp[h.1],by simp⟩
 | .bool _,v,F,U,h=>by simp only[C1,Nf]at h⊢;exact⟨[],by simp[h.1],by simp⟩
 | .str _,v,F,U,h=>by simp only[C1,Nf]at h⊢;exact⟨[],by simp[h.1],by simp⟩
 | .fn ..,v,F,U,h=>by simp only[C1,Nf]at h⊢;exact⟨[],by simp[h.1],by simp⟩
 | .adr ..,v,F,U,h=>by simp only[C1,Nf]at h⊢;exact⟨[],by simp[h.1],by simp⟩
 | .hdr ..,v,F,U,h=>by simp only[C1,Nf]at h⊢;exact⟨[],by simp[h.1],by simp⟩
 | .junk,v,F,U,h=>by simp only[C1,Nf]at h⊢;exact⟨[],by simp[h.1],by simp⟩
 | .view ..,v,F,U,h=>by simp only[C1]at h
 | .ptr ..,v,F,U,h=>by simp only[C1]at h
 | .sl true e sz cells,v,F,U,h=>by
  simp only[C1,Nf]at h⊢;obtain⟨n,vs,F',ho,hr,rfl⟩:=h;obtain⟨U',hr',hU'⟩:=Uq hr;have a:=NE ho;have hs:∃A c,v= .slice A n c/\n<=c:=by
   rcases ho.2 with⟨rfl,rfl⟩|⟨g,cap,d,rfl,_,_,hc,_⟩
   ·exact⟨none,0,rfl,Au _⟩
   exact⟨_,_,rfl,hc⟩
  obtain⟨A,c,rfl,hc⟩:=hs;refine⟨_,⟨A,n,c,vs,U',_,rfl,hc,ho.1,a,hr',by simp,.inl rfl,rfl⟩,λb hb=>?_⟩
  rcases Al.1 hb with hb|hb
  ·exact .inl<|AI _ hb
  exact(hU' b hb).imp (AU _) id
 | .sl false e sz cells,v,F,U,h=>by
  simp only[C1,Nf]at h⊢;obtain⟨A,n,c,vs,U',B,rfl,hn,hl,a,hr,rfl,hB,rfl⟩:=h;obtain⟨U2,hr',hU'⟩:=Uq hr;refine⟨_,⟨A,n,c,vs,U2,B,rfl,hn,hl,a,hr',by simp,hB,rfl⟩,λb hb=>?_⟩
  rcases Al.1 hb with hb|hb
  ·exact .inr<|AI _ hb
  rcases hU' b hb with hb|hb
  ·simp at hb
  exact .inr<|AU _ hb
theorem Uq {w:World}:∀{ts:List TV} {vs F U},Bv w ts vs F U->∃U',Bv w (BD ts) vs [] U'/\∀b∈U',b∈F\/b∈U
 |[],vs,F,U,h=>by simp only[Bv,BD]at h⊢;exact⟨[],by simp[h.1],by simp⟩
 |t::ts,vs,F,U,h=>by
  simp only[Bv,BD]at h⊢;obtain⟨v,a,F1,F2,U1,U2,rfl,rfl,rfl,h1,h2⟩:=h;obtain⟨Ua,ha,c⟩:=SS h1;obtain⟨Ub,hb,d⟩:=Uq h2;refine⟨Ua++Ub,⟨v,a,[],[],Ua,Ub,rfl,by simp,rfl,ha,hb⟩,λb hb=>?_⟩
  rcases Al.1 hb with hb|hb
  ·exact(c b hb).imp (AI _) (AI _)
  exact(d b hb).imp (AU _) (AU _)
end
def HH (w:World):Addr->List Nat->Option Addr
 |ad,[]=>some ad
 |ad,c::q=>match w.cell? (ad.add c)with
  |some (.slice (some ad') _ _)=>HH w ad' q
  |_=>none
def Pg (w:World) (v:Value) (q:List Nat):Option Addr:=match v with
 | .slice (some ad) _ _=>HH w ad q
 |_=>none
theorem P2 {l:List α} {a:α} (h:l[i]?=some a):l.set i a=l:=by
 apply CF;intro j;rw[Cz];have hl:=(Ag.1 h).1;split
 ·rename_i b;subst b
  first|exact h.symm|(rw[Ay hl,h])
 rfl
theorem TP {ad:Addr} (h:w.cell? (ad.add c)=some v):HH w ad (c::q)=Pg w v q:=by
 simp only[HH,h,Pg];cases v<;>try rfl
 rename_i a _ _;cases a<;>rfl
theorem I1:∀{ts:List TV} {vs F U} (c:Nat) {t:TV},Bv w ts vs F U->ts[c]?=some t->
  ∃v A B C D F1 U1,vs[c]?=some v/\C1 w t v F1 U1/\F=A++F1++B/\U=C++U1++D/\
   ∀w' t' v' F1' U1',C1 w' t' v' F1' U1'->(∀b∈A++B,w'.heap[b]?=w.heap[b]?)->(∀b∈C++D,w'.heap[b]?=w.heap[b]?)->
    Bv w' (ts.set c t') (vs.set c v') (A++F1'++B) (C++U1'++D)
 |[],vs,F,U,c,t,h,hc=>by simp at hc
 |t0::ts,vs,F,U,0,t,h,hc=>by
  simp only[Bv]at h;obtain⟨v,a,F1,F2,U1,U2,rfl,rfl,rfl,h1,h2⟩:=h;simp at hc;subst hc;refine⟨v,[],F2,[],U2,F1,U1,rfl,h1,rfl,rfl,λw' t' v' F1' U1' hr hA hC=>?_⟩;simp only[Dr,Bv];exact⟨v',a,F1',F2,U1',U2,rfl,rfl,rfl,hr,Ge h2 (by simpa using hA)<|by simpa using hC⟩
 |t0::ts,vs,F,U,c+1,t,h,hc=>by
  simp only[Bv]at h;obtain⟨v,a,F1,F2,U1,U2,rfl,rfl,rfl,h1,h2⟩:=h;simp at hc;obtain⟨u,A,B,C,D,G,V,hu,hr,rfl,rfl,hk⟩:=I1 c h2 hc;refine⟨u,F1++A,B,U1++C,D,G,V,by simpa using hu,hr,by simp,by simp,λw' t' v' F1' U1' hr' hA hC=>?_⟩;simp only[JG,Bv];refine⟨v,a.set c v',F1,A++F1'++B,U1,C++U1'++D,rfl,by simp,by simp,J0 h1 ?_ ?_,hk w' t' v' F1' U1' hr' ?_ ?_⟩
  ·exact λb hb=>hA b<|by simp[hb]
  ·exact λb hb=>hC b<|by simp[hb]
  ·exact λb hb=>hA b (by simp at hb⊢;rcases hb with hb|hb<;>simp[hb])
  exact λb hb=>hC b (by simp at hb⊢;rcases hb with hb|hb<;>simp[hb])
theorem aQ:∀(q:List Nat) {cs:List TV} {vs F U} {d:List TV},Bv w cs vs F U->BN cs q=some d->
  ∃rvs F1 U1,Bv w d rvs F1 U1/\(∀b∈F1,b∈F)/\(∀b∈U1,b∈U)/\
   match q with
   |[]=>rvs=vs
   |c::q=>∃v,vs[c]?=some v/\∀j u,rvs[j]?=some u->∃ad,∀w2:World,(∀b∈F,w2.heap[b]?=w.heap[b]?)->(∀b∈U,w2.heap[b]?=w.heap[b]?)->Pg w2 v q=some ad/\w2.cell? (ad.add j)=some u
 |[],cs,vs,F,U,d,h,hc=>by
  simp only[BN,An]at hc;subst hc;exact⟨vs,F,U,h,λ_ hb=>hb,λ_ hb=>hb,rfl⟩
 |c::q,cs,vs,F,U,d,h,hc=>by
  simp only[BN]at hc;split at hc
  ·rename_i o e sz i p;obtain⟨v,A,B,C,D,F1,U1,hv,hr,rfl,rfl,_⟩:=I1 c h p;have r:∃vs1 F2 U2,Bv w i vs1 F2 U2/\O1 w v vs1/\(∀b∈F2,b∈F1)/\(∀b∈U2,b∈U1)/\(∃B,(B=BO v\/vs1=[]/\B=[])/\∀b∈B,b∈F1\/b∈U1):=by
    cases o
    ·simp only[C1]at hr;obtain⟨A,n,c,vs1,U',B0,rfl,hn,hl,f,hr,rfl,k,rfl⟩:=hr;exact⟨vs1,[],U',hr,f,by simp,λb hb=>AU _ hb,B0,k,λb hb=> .inr (AI _ hb)⟩
    simp only[C1]at hr;obtain⟨n,vs1,F',ho,hr,rfl⟩:=hr;exact⟨vs1,F',_,hr,NE ho,λb hb=>AU _ hb,λ_ hb=>hb,_,.inl rfl,λb hb=> .inl (AI _ hb)⟩
   obtain⟨vs1,F2,U2,s,f,l,m,B0,k,t⟩:=r;obtain⟨rvs,F3,U3,x,y,z,hb⟩:=aQ q s hc;refine⟨rvs,F3,U3,x,λb hb=>by simp[l b<|y b hb],λb hb=>by simp[m b<|z b hb],v,hv,λj u hj=>?_⟩
   have g:∀w2:World,(∀b∈A++F1++B,w2.heap[b]?=w.heap[b]?)->(∀b∈C++U1++D,w2.heap[b]?=w.heap[b]?)->O1 w2 v vs1:=λw2 hA hC=>f.moveB k (λb hb=>by
    rcases t b hb with hb|hb
    ·exact hA b<|by simp[hb]
    exact hC b<|by simp[hb])
   match q,hb with
   |[],hb=>
    subst hb;obtain⟨ad,n,c,rfl,a⟩:=f j u hj;refine⟨ad,λw2 hA hC=>⟨rfl,?_⟩⟩;obtain⟨ad',n',c',he,hcell'⟩:=g w2 hA hC j u hj
    injection he with he
    injection he with he
    subst he;exact hcell'
   |c'::q',hb=>
    obtain⟨v',hv',hb⟩:=hb;obtain⟨ad,hk⟩:=hb j u hj;refine⟨ad,λw2 hA hC=>?_⟩;obtain⟨h0,a⟩:=hk w2 (λb hb=>hA b<|by simp[l b hb]) (λb hb=>hC b<|by simp[m b hb]);obtain⟨ad0,n,c,rfl,h1⟩:=g w2 hA hC c' v' hv';refine⟨?_,a⟩;show HH w2 ad0 (c'::q')=some ad;rw[TP h1];exact h0
  cases hc
theorem gO:∀(q:List Nat) {cs:List TV} {vs F U} {i:List TV} (c:Nat),Bv w cs vs F U->MX cs (c::q)=true->BN cs (c::q)=some i->
  ∃v hv n e sz rvs A B C D F1 U1,vs[c]?=some hv/\w.ownsRow 0 e sz v n rvs/\Bv w i rvs F1 U1/\F=A++(BO v++F1)++B/\U=C++U1++D/\
   (∀ad m k,v= .slice (some ad) m k->Pg w hv q=some ad)/\
   ∀w' row' rvs' F1' U1',w'.ownsRow 0 e sz v n rvs'->Bv w' row' rvs' F1' U1'->(∀b∈A++B,w'.heap[b]?=w.heap[b]?)->(∀b∈C++D,w'.heap[b]?=w.heap[b]?)->
    ∀f:List TV->List TV,f i=row'->Bv w' (DL cs (c::q) f) vs (A++(BO v++F1')++B) (C++U1'++D)
 |[],cs,vs,F,U,i,c,h,ho,hc=>by
  simp only[BN]at hc;split at hc
  ·rename_i o e sz j d;simp only[An]at hc;subst hc;simp only[MX,d,lD]at ho;subst ho;obtain⟨v,A,B,C,D,F1,U1,hv,hr,rfl,rfl,hk⟩:=I1 c h d;simp only[C1]at hr;obtain⟨n,vs1,F',a,hr,rfl⟩:=hr;refine⟨v,v,n,e,sz,vs1,A,B,C,D,F',U1,hv,a,hr,rfl,rfl,λad m k p=>by subst p;rfl,λw' row' rvs' F1' U1' ho' hr' hA hC f hf=>?_⟩;simp only[DL,d,hf];have l:vs.set c v=vs:=P2 hv;have:=hk w' (.sl true e sz row') v (BO v++F1') U1' (by simp only[C1];exact⟨n,rvs',F1',ho',hr',rfl⟩) hA hC;rw[l]at this;exact this
  cases hc
 |c'::q,cs,vs,F,U,i,c,h,ho,hc=>by
  rw[BN]at hc;split at hc
  ·rename_i o e sz j d;simp only[MX,d,Ak]at ho;obtain⟨rfl,ho⟩:=ho;obtain⟨v,A,B,C,D,F1,U1,hv,hr,rfl,rfl,hk⟩:=I1 c h d;simp only[C1]at hr;obtain⟨n,vs1,F',a,hr,rfl⟩:=hr;obtain⟨v2,x,n2,e2,sz2,rvs,A2,B2,C2,D2,F2,U2,u,s,y,rfl,rfl,t,z⟩:=gO q c' hr (by simpa only[MX]using ho) hc;refine⟨v2,v,n2,e2,sz2,rvs,A++(BO v++A2),B2++B,C++C2,D2++D,F2,U2,hv,s,y,by simp,by simp,?_,?_⟩
   ·intro ad m k p;obtain⟨ad0,m0,k0,rfl,h1⟩:=NE a c' x u;show HH w ad0 (c'::q)=some ad;rw[TP h1];exact t ad m k p
   intro w' row' rvs' F1' U1' ho' hr' hA hC f hf;simp only[DL,d];have h3:=z w' row' rvs' F1' U1' ho' hr' (λb hb=>hA b (by simp at hb⊢;rcases hb with hb|hb<;>simp[hb])) (λb hb=>hC b (by simp at hb⊢;rcases hb with hb|hb<;>simp[hb])) f hf;have hown':w'.ownsRow 0 e sz v n vs1:=by
    refine⟨a.1,?_⟩
    rcases a.2 with h0|⟨g,cap,h2,rfl,hg,hh,r⟩
    ·exact .inl h0
    exact .inr ⟨g,cap,h2,rfl,hg,(hA g<|by simp[BO,Value.ownBlock]).trans hh,r⟩
   have l:vs.set c v=vs:=P2 hv;have:=hk w' (.sl true e sz<|DL j (c'::q) f) v (BO v++(A2++(BO v2++F1')++B2)) (C2++U1'++D2) (by simp only[C1];exact⟨n,vs1,_,hown',h3,rfl⟩) (λb hb=>hA b (by simp at hb⊢;rcases hb with hb|hb<;>simp[hb])) (λb hb=>hC b (by simp at hb⊢;rcases hb with hb|hb<;>simp[hb]));rw[l]at this;simpa[DL]using this
  cases hc
def BL (w:World) (a:Act) (blk:Root->Nat):Root->Nat->Option Value
 | .slot n,c=>(a.eval (.tmp n)).cells[c]?
 |r,c=>w.cell? ((⟨blk r,0,none⟩:Addr).add c)
def pv (w:World) (a:Act) (blk:Root->Nat) (r:Root) (q:List Nat) (j:Nat):Option Value:=match q with
 |[]=>BL w a blk r j
 |c::q=>(BL w a blk r c).bind λv=>(Pg w v q).bind λad=>w.cell?<|ad.add j
def pa (w:World) (a:Act) (blk:Root->Nat) (r:Root) (q:List Nat) (j:Nat):Option Addr:=match q with
 |[]=>match r with
  | .slot _=>none
  | .hand=>none
  |r=>some<|(⟨blk r,0,none⟩:Addr).add j
 |c::q=>(BL w a blk r c).bind λv=>(Pg w v q).map λad=>ad.add j
def St.place (E:St) (r:Root) (q:List Nat) (j:Nat):Option TV:=(E.root r).bind λcs=>(BN cs q).bind λa=>a[j]?
def Ll:Option TV->Bool
 |some t=>t.isSl
 |none=>false
def CT (w:World) (a:Act) (E:St) (blk:Root->Nat) (t:TV) (v:Value) (F U:List Nat):Prop:=match t with
 | .view r ver q j=>F=[]/\U=[]/\ver<=E.ver r/\(E.ver r=ver->pv w a blk r q j=some v/\Ll (E.place r q j)=true)
 | .ptr r ver q j=>F=[]/\U=[]/\ver<=E.stamp r q/\(E.stamp r q=ver->(E.place r q j).isSome=true/\∃ad,pa w a blk r q j=some ad/\v= .pointer (some ad))
 | .junk=>F=[]/\U=[]
 |t=>C1 w t v F U
def CW (w:World) (a:Act) (E:St) (blk:Root->Nat):List TV->List Value->List Nat->List Nat->Prop
 |[],vs,F,U=>vs=[]/\F=[]/\U=[]
 |t::ts,vs,F,U=>∃v b F1 F2 U1 U2,vs=v::b/\F=F1++F2/\U=U1++U2/\CT w a E blk t v F1 U1/\CW w a E blk ts b F2 U2
mutual
def EE (w:World) (a:Act) (E:St) (blk:Root->Nat):SV->Value->List Nat->List Nat->Prop
 | .one t,v,F,U=>CT w a E blk t v F U/\(t.isJunk=false->v.cells= #[v])
 | .agg cs,v,F,U=>∃vs:List Value,v= .agg vs.toArray/\CW w a E blk cs vs F U
 | .tup ss,v,F,U=>∃vs:List Value,v= .tuple vs.toArray/\Pj w a E blk ss vs F U
def Pj (w:World) (a:Act) (E:St) (blk:Root->Nat):List SV->List Value->List Nat->List Nat->Prop
 |[],vs,F,U=>vs=[]/\F=[]/\U=[]
 |s::ss,vs,F,U=>∃v b F1 F2 U1 U2,vs=v::b/\F=F1++F2/\U=U1++U2/\EE w a E blk s v F1 U1/\Pj w a E blk ss b F2 U2
end
structure Cr (w w':World) (a a':Act) (E E':St) (blk blk':Root->Nat) (r:Root):Prop where
 views:E.ver r<E'.ver r\/(E'.ver r=E.ver r/\
  (∀q j v,pv w a blk r q j=some v->Ll (E.place r q j)=true->pv w' a' blk' r q j=some v/\Ll (E'.place r q j)=true)/\
  (∀q j ad,q≠ []->pa w a blk r q j=some ad->(E.place r q j).isSome=true->pa w' a' blk' r q j=some ad/\(E'.place r q j).isSome=true))
 addrs:E.gen r<E'.gen r\/(E'.gen r=E.gen r/\
  (∀j ad,pa w a blk r [] j=some ad->(E.place r [] j).isSome=true->pa w' a' blk' r [] j=some ad/\(E'.place r [] j).isSome=true))
theorem Lr (h:q≠ []):E.stamp r q=E.ver r:=by cases q<;>first|rfl|exact absurd rfl h
theorem Ra {t:TV} (hs:∀r,Cr w w' a a' E E' blk blk' r) (h:CT w a E blk t v F U) (hF:∀b∈F,w'.heap[b]?=w.heap[b]?) (hU:∀b∈U,w'.heap[b]?=w.heap[b]?):CT w' a' E' blk' t v F U:=by
 cases t with
 |view r ver q j=>
  obtain⟨rfl,rfl,hv,hc⟩:=h
  rcases(hs r).views with hlt|⟨he,h1,_⟩
  ·exact⟨rfl,rfl,by omega,λe=>by omega⟩
  refine⟨rfl,rfl,by omega,λe=>?_⟩;obtain⟨h3,h4⟩:=hc (by omega);exact h1 q j v h3 h4
 |ptr r ver q j=>
  obtain⟨rfl,rfl,hv,hc⟩:=h
  cases q with
  |nil=>
   simp only[St.stamp]at hv hc
   rcases(hs r).addrs with hlt|⟨he,h2⟩
   ·exact⟨rfl,rfl,by simp only[St.stamp];omega,λe=>by simp only[St.stamp]at e;omega⟩
   refine⟨rfl,rfl,by simp only[St.stamp];omega,λe=>?_⟩;simp only[St.stamp]at e;obtain⟨h5,ad,h3,h4⟩:=hc (by omega);obtain⟨h6,h7⟩:=h2 j ad h3 h5;exact⟨h7,ad,h6,h4⟩
  |cons c q=>
   rw[Lr<|by simp]at hv hc
   rcases(hs r).views with hlt|⟨he,_,h2⟩
   ·exact⟨rfl,rfl,by rw[Lr<|by simp];omega,λe=>by rw[Lr<|by simp]at e;omega⟩
   refine⟨rfl,rfl,by rw[Lr<|by simp];omega,λe=>?_⟩;rw[Lr<|by simp]at e;obtain⟨h5,ad,h3,h4⟩:=hc (by omega);obtain⟨h6,h7⟩:=h2 (c::q) j ad (by simp) h3 h5;exact⟨h7,ad,h6,h4⟩
 |junk=>exact h
 |int k n=>exact J0 h hF hU
 |bool b=>exact J0 h hF hU
 |str s=>exact J0 h hF hU
 |fn _ _ _=>exact J0 h hF hU
 |adr _=>exact J0 h hF hU
 |hdr _ _ _=>exact J0 h hF hU
 |sl o e sz cells=>exact J0 h hF hU
theorem S8 (hs:∀r,Cr w w' a a' E E' blk blk' r):∀{ts:List TV} {vs:List Value} {F U:List Nat},CW w a E blk ts vs F U->
  (∀b∈F,w'.heap[b]?=w.heap[b]?)->(∀b∈U,w'.heap[b]?=w.heap[b]?)->CW w' a' E' blk' ts vs F U
 |[],_,_,_,h,_,_=>h
 |t::ts,vs,F,U,h,hF,hU=>by
  obtain⟨v,c,F1,F2,U1,U2,rfl,rfl,rfl,h1,h2⟩:=h
  exact⟨v,c,F1,F2,U1,U2,rfl,rfl,rfl,Ra hs h1 (λb hb=>hF b<|AI _ hb) λb hb=>hU b<|AI _ hb,
   S8 hs h2 (λb hb=>hF b<|AU _ hb) (λb hb=>hU b<|AU _ hb)⟩
mutual
theorem Ig (hs:∀r,Cr w w' a a' E E' blk blk' r):∀{s:SV} {v:Value} {F U:List Nat},EE w a E blk s v F U->
  (∀b∈F,w'.heap[b]?=w.heap[b]?)->(∀b∈U,w'.heap[b]?=w.heap[b]?)->EE w' a' E' blk' s v F U
 | .one t,v,F,U,h,hF,hU=>by
  simp only[EE]at h⊢;exact⟨Ra hs h.1 hF hU,h.2⟩
 | .agg cs,v,F,U,h,hF,hU=>by
  simp only[EE]at h⊢;obtain⟨vs,rfl,h⟩:=h;exact⟨vs,rfl,S8 hs h hF hU⟩
 | .tup ss,v,F,U,h,hF,hU=>by
  simp only[EE]at h⊢;obtain⟨vs,rfl,h⟩:=h;exact⟨vs,rfl,Wo hs h hF hU⟩
theorem Wo (hs:∀r,Cr w w' a a' E E' blk blk' r):∀{ss:List SV} {vs:List Value} {F U:List Nat},Pj w a E blk ss vs F U->
  (∀b∈F,w'.heap[b]?=w.heap[b]?)->(∀b∈U,w'.heap[b]?=w.heap[b]?)->Pj w' a' E' blk' ss vs F U
 |[],_,_,_,h,_,_=>by simpa only[Pj]using h
 |s::ss,vs,F,U,h,hF,hU=>by
  simp only[Pj]at h⊢;obtain⟨v,c,F1,F2,U1,U2,rfl,rfl,rfl,h1,h2⟩:=h
  exact⟨v,c,F1,F2,U1,U2,rfl,rfl,rfl,Ig hs h1 (λb hb=>hF b<|AI _ hb) λb hb=>hU b<|AI _ hb,
   Wo hs h2 (λb hb=>hF b<|AU _ hb) (λb hb=>hU b<|AU _ hb)⟩
end
def Root.mem:Root->Bool
 | .slot _=>false
 | .hand=>false
 |_=>true
structure Base extends World where
 xb:Nat->Nat
 B:List Nat:=[]
 av:Nat->Value:=λ_=>undef
def Frz (w0:Base) (a:Act) (n:Nat):Prop:=if n %2=0 then a.eval (.tmp<|n/2)=w0.av (n/2)else∃B,a.eval (.tmp<|n/2)= .slice B 0 0
theorem Frz.same {w0:Base} (h:Frz w0 a n) (he:a'.eval (.tmp (n/2))=a.eval (.tmp (n/2))):Frz w0 a' n:=by
 unfold Frz at h⊢;rw[he];exact h
structure CO (w0:Base) (FA UA:List Nat) (N:Nat) (w:World) (a:Act) (E:St) (blk:Root->Nat) (FS US:Root->List Nat):Prop where
 slot:∀n,EE w a E blk (E.slots n) (a.eval (.tmp n)) (FS (.slot n)) (US (.slot n))
 box:∀r,r.mem=true->(E.boxes r=none/\FS r=[]/\US r=[])\/∃cs cur T F,E.boxes r=some cs/\w.heap[blk r]?=some (.cells cur T (0,0))/\Bv w cs cur.toList F (US r)/\FS r=blk r::F
 nohand:E.boxes .hand=none
 nodup:∀r,(FS r).Nodup
 dis:∀r s,r≠s->∀b∈FS r,b∉FS s
 disU:∀r s,∀b∈FS r,b∉US s
 inF:∀r,∀b∈FS r,(b∈FA\/w0.heap.size<=b)/\b<w.heap.size
 inU:∀r,∀b∈US r,(b∈UA\/b∈FA\/w0.heap.size<=b)/\b<w.heap.size
 disA:∀b∈FA,b∉UA
 os:w.os=w0.os
 tape:w.tape=w0.tape
 output:w.output=w0.output
 size:w0.heap.size<=w.heap.size
 keep:∀b,b<w0.heap.size->b∉FA->b∉w0.B->w.heap[b]?=w0.heap[b]?
 len:N<=a.tmps.size
 nodef:a.defers=[]
 xblk:∀i,blk (.ext i)=w0.xb i
 ambB:w0.B=E.amb.B
 ambI:E.amb.I w
 frz:∀n,E.fz=some n->Frz w0 a n
 ambF:∀b∈w0.B,b<w0.heap.size/\b∉FA/\b∉UA
 pin:∀b,E.amb.pin=some b->w0.xb 0=b
theorem Gy (h:d<a.tmps.size):(a.put (some d) v).eval (.tmp d)=v:=by
 simp[Act.put,Act.eval,Array.getD,h]
theorem Dx (h:n≠d):(a.put (some d) v).eval (.tmp n)=a.eval (.tmp n):=by
 simp only[Act.put,Act.eval,ED,Array.getElem?_setIfInBounds];rw[Av<|Fk h]
theorem ABx {d:Option Nat}:(E.put d s).amb=E.amb:=by cases d<;>rfl
theorem RY {d:Option Nat}:(a.put d v).tmps.size=a.tmps.size:=by cases d<;>simp[Act.put]
theorem Oe {d:Option Nat}:(a.put d v).defers=a.defers:=by cases d<;>simp[Act.put]
theorem BK [DecidableEq α] (f:α->β) (x:α) (b:β):Cg f x b x=b:=by simp[Cg]
theorem Bt {f:α->β} {x y:α} {b:β} [DecidableEq α] (h:y≠x):Cg f x b y=f y:=by simp[Cg,h]
theorem Qp {blk:Root->Nat} (h:r≠ .slot d) (c:Nat):BL w (a.put (some d) v) blk r c=BL w a blk r c:=by
 cases r with
 |slot n=>
  have:n≠d:=λe=>h<|by rw[e]
  simp only[BL];rw[Dx this]
 |box n=>rfl
 |ext n=>rfl
 |hand=>rfl
theorem zE {blk blk':Root->Nat} (h:∀c,BL w a' blk' r c=BL w a blk r c) (q:List Nat) (j:Nat):pv w a' blk' r q j=pv w a blk r q j:=by
 cases q with
 |nil=>exact h j
 |cons c q=>simp only[pv,h]
theorem m6 {blk:Root->Nat} (h:∀c,BL w a' blk r c=BL w a blk r c) (q:List Nat) (j:Nat):pa w a' blk r q j=pa w a blk r q j:=by
 cases q with
 |nil=>rfl
 |cons c q=>simp only[pa,h]
theorem Z0 (h:r≠ .slot d):(E.put (some d) s).root r=E.root r:=by
 cases r with
 |slot n=>
  have:n≠d:=λe=>h<|by rw[e]
  simp[St.root,St.put,Cg,this]
 |box n=>rfl
 |ext n=>rfl
 |hand=>rfl
theorem Yw (h:r≠ .slot d):(E.put (some d) s).ver r=E.ver r:=by simp[St.put,Cg,h]
theorem Us:(E.put (some d) s).ver (.slot d)=E.ver (.slot d)+1:=by simp[St.put,Cg]
theorem Qq {d:Option Nat}:(E.put d s).gen=E.gen:=by cases d<;>rfl
theorem Qe {blk:Root->Nat} (r:Root):Cr w w a (a.put (some d) v) E (E.put (some d) s) blk blk r:=by
 by_cases h:r= .slot d
 ·subst h;refine⟨.inl (by rw[Us];omega),.inr ⟨by rw[Qq],λj ad h1 _=>?_⟩⟩;simp[pa]at h1
 have b:∀q j,(E.put (some d) s).place r q j=E.place r q j:=λq j=>by simp only[St.place,Z0 h]
 refine⟨.inr ⟨Yw h,λq j u h1 h2=>?_,λq j ad _ h1 h2=>?_⟩,.inr ⟨by rw[Qq],λj ad h1 h2=>?_⟩⟩
 ·rw[zE<|Qp h,b];exact⟨h1,h2⟩
 ·rw[m6<|Qp h,b];exact⟨h1,h2⟩
 rw[m6<|Qp h,b];exact⟨h1,h2⟩
structure bP (w0:Base) (FA UA:List Nat) (w:World) (FS US:Root->List Nat) (d:Root) (F U:List Nat):Prop where
 nd:F.Nodup
 f1:∀r,r≠d->∀b∈F,b∉FS r/\b∉US r
 fu:∀b∈F,b∉U
 u1:∀r,r≠d->∀b∈U,b∉FS r
 inF:∀b∈F,(b∈FA\/w0.heap.size<=b)/\b<w.heap.size
 inU:∀b∈U,(b∈UA\/b∈FA\/w0.heap.size<=b)/\b<w.heap.size
theorem bP.none {d:Root} {w0:Base}:bP w0 FA UA w FS US d [] []:=
 ⟨C7,by simp,by simp,by simp,by simp,by simp⟩
theorem CO.put {w0:Base} {blk:Root->Nat} (h:CO w0 FA UA N w a E blk FS US) (hd:d<N) (hs:EE w a E blk s v F U) (hf:bP w0 FA UA w FS US (.slot d) F U):
  CO w0 FA UA N w (a.put (some d) v) (E.put (some d) s) blk (Cg FS (.slot d) F) (Cg US (.slot d) U) where
 slot:=λn=>by
  by_cases hn:n=d
  ·subst hn;rw[Gy<|AX hd h.len,BK,BK];have:(E.put (some n) s).slots n=s:=by simp[St.put,Cg]
   rw[this];exact Ig (λr=>Qe r) hs (λ_ _=>rfl) λ_ _=>rfl
  have c:Root.slot n≠Root.slot d:=λe=>hn<|Root.slot.inj e
  rw[Dx hn,Bt c,Bt c];have:(E.put (some d) s).slots n=E.slots n:=by simp[St.put,Cg,hn]
  rw[this];exact Ig (λr=>Qe r) (h.slot n) (λ_ _=>rfl) λ_ _=>rfl
 box:=λr hr=>by
  have c:r≠ .slot d:=by rintro rfl;cases hr
  rw[Bt c,Bt c];exact h.box r hr
 nohand:=h.nohand
 nodup:=λr=>by
  by_cases hr:r= .slot d
  ·subst hr;rw[BK];exact hf.nd
  rw[Bt hr];exact h.nodup r
 dis:=λr s f b hb=>by
  by_cases hr:r= .slot d
  ·subst hr;rw[BK]at hb;rw[Bt<|Fk f];exact(hf.f1 s (Fk f) b hb).1
  rw[Bt hr]at hb;by_cases hs:s= .slot d
  ·subst hs;rw[BK]
   exact λhb'=>(hf.f1 r hr b hb').1 hb
  rw[Bt hs];exact h.dis r s f b hb
 disU:=λr s b hb=>by
  by_cases hr:r= .slot d
  ·subst hr;rw[BK]at hb;by_cases hs:s= .slot d
   ·subst hs;rw[BK];exact hf.fu b hb
   rw[Bt hs];exact(hf.f1 s hs b hb).2
  rw[Bt hr]at hb;by_cases hs:s= .slot d
  ·subst hs;rw[BK];exact λhb'=>hf.u1 r hr b hb' hb
  rw[Bt hs];exact h.disU r s b hb
 inF:=λr b hb=>by
  by_cases hr:r= .slot d
  ·subst hr;rw[BK]at hb;exact hf.inF b hb
  rw[Bt hr]at hb;exact h.inF r b hb
 inU:=λr b hb=>by
  by_cases hr:r= .slot d
  ·subst hr;rw[BK]at hb;exact hf.inU b hb
  rw[Bt hr]at hb;exact h.inU r b hb
 disA:=h.disA
 os:=h.os
 tape:=h.tape
 output:=h.output
 size:=h.size
 keep:=h.keep
 len:=by rw[RY];exact h.len
 nodef:=by rw[Oe];exact h.nodef
 xblk:=h.xblk
 ambB:=h.ambB
 ambI:=h.ambI
 frz:=λn hn=>by
  obtain⟨h1,h2⟩:=aG hn;exact(h.frz n h1).same (Dx h2)
 ambF:=h.ambF
 pin:=h.pin
theorem Gu {t:TV} (h:C1 w t v F U) (ht:∀e sz a,t≠ .sl true e sz a):F=[]:=by
 cases t with
 |sl o e sz a=>
  cases o
  ·simp only[C1]at h;obtain⟨_,_,_,_,_,_,_,_,_,_,_,h,_⟩:=h;exact h
  exact absurd rfl<|ht e sz a
 |int _ _=>simp only[C1]at h;exact h.2.1
 |bool _=>simp only[C1]at h;exact h.2.1
 |str _=>simp only[C1]at h;exact h.2.1
 |fn _ _ _=>simp only[C1]at h;exact h.2.1
 |adr _=>simp only[C1]at h;exact h.2.1
 |hdr _ _ _=>simp only[C1]at h;exact h.2.1
 |junk=>simp only[C1]at h;exact h.2.1
 |view _ _ _ _=>simp only[C1]at h
 |ptr _ _ _ _=>simp only[C1]at h
theorem g7 {t:TV} (h:CT w a E blk t v F U) (hp:∀e sz d,t= .sl true e sz d->pv w a blk r q c=some v/\E.place r q c=some t):
  ∃U',CT w a E blk (see E r q c t) v [] U'/\∀b∈U',b∈U:=by
 cases t with
 |sl o e sz d=>
  cases o
  ·have hF:=Gu h (by simp);subst hF;exact⟨U,h,λ_ hb=>hb⟩
  obtain⟨h1,h2⟩:=hp e sz d rfl;exact⟨[],⟨rfl,rfl,Au _,λ_=>⟨h1,by rw[h2];rfl⟩⟩,by simp⟩
 |int _ _=>
  have hF:=Gu h (by simp);subst hF;exact⟨U,h,λ_ hb=>hb⟩
 |bool _=>
  have hF:=Gu h (by simp);subst hF;exact⟨U,h,λ_ hb=>hb⟩
 |str _=>
  have hF:=Gu h (by simp);subst hF;exact⟨U,h,λ_ hb=>hb⟩
 |fn _ _ _=>
  have hF:=Gu h (by simp);subst hF;exact⟨U,h,λ_ hb=>hb⟩
 |adr _=>
  have hF:=Gu h (by simp);subst hF;exact⟨U,h,λ_ hb=>hb⟩
 |hdr _ _ _=>
  have hF:=Gu h (by simp);subst hF;exact⟨U,h,λ_ hb=>hb⟩
 |junk=>exact⟨[],⟨rfl,rfl⟩,by simp⟩
 |view r ver q j=>
  obtain⟨rfl,rfl,h⟩:=h;exact⟨[],⟨rfl,rfl,h⟩,by simp⟩
 |ptr r ver q j=>
  obtain⟨rfl,rfl,h⟩:=h;exact⟨[],⟨rfl,rfl,h⟩,by simp⟩
theorem Vo {r:Root} {q:List Nat}:∀{ts:List TV} {vs:List Value} {F U:List Nat} (c:Nat),CW w a E blk ts vs F U->
  (∀i t v,ts[i]?=some t->vs[i]?=some v->∀e sz d,t= .sl true e sz d->pv w a blk r q (c+i)=some v/\E.place r q (c+i)=some t)->
  ∃U',CW w a E blk (Vp E r q c ts) vs [] U'/\∀b∈U',b∈U
 |[],vs,F,U,c,h,_=>by
  obtain⟨rfl,rfl,rfl⟩:=h;exact⟨[],⟨rfl,rfl,rfl⟩,by simp⟩
 |t::ts,vs,F,U,c,h,hp=>by
  obtain⟨v,f,F1,F2,U1,U2,rfl,rfl,rfl,h1,h2⟩:=h;obtain⟨Ua,ha,g⟩:=g7 (r:=r) (q:=q) (c:=c) h1 λe sz d he=>by simpa using hp 0 t v rfl rfl e sz d he
  obtain⟨Ub,hb,j⟩:=Vo (r:=r) (q:=q) (c+1) h2 (λi t' v' hi hv e sz d he=>by
   have:=hp (i+1) t' v' (by simpa using hi) (by simpa using hv) e sz d he
   rwa [show c+(i+1)=c+1+i from by omega]at this)
  refine⟨Ua++Ub,⟨v,f,[],[],Ua,Ub,rfl,rfl,rfl,ha,hb⟩,λb hb=>?_⟩
  rcases Al.1 hb with hb|hb
  ·exact AI _<|g b hb
  exact AU _<|j b hb
theorem Oy {blk:Root->Nat}:∀{ts:List TV} {vs:List Value} {F U:List Nat},CW w a E blk ts vs F U->vs.length=ts.length
 |[],_,_,_,h=>by obtain⟨rfl,_⟩:=h;rfl
 |t::ts,vs,F,U,h=>by
  obtain⟨v,b,F1,F2,U1,U2,rfl,_,_,_,h2⟩:=h;simp[Oy h2]
theorem f9 {x:TV} (h:Ts P t v=some x):C1 w x v [] []/\v.cells= #[v]:=by
 unfold Ts at h;split at h
 ·injection h with h;subst h;exact⟨by simp[C1],rfl⟩
 ·injection h with h;subst h;exact⟨by simp[C1],rfl⟩
 ·injection h with h;subst h;exact⟨by simp[C1],rfl⟩
 ·split at h
  ·injection h with h
   subst h;refine⟨?_,rfl⟩;simp only[C1];exact⟨0,[],[],World.ownsRow_nil w 0 _ _,by simp[Bv],by simp[BO,Value.ownBlock]⟩
  cases h
 cases h
theorem G0 {t:TV} (h:C1 w t v F U):CT w a E blk t v F U:=by
 cases t with
 |view _ _ _ _=>simp only[C1]at h
 |ptr _ _ _ _=>simp only[C1]at h
 |junk=>simp only[C1]at h;exact h.2
 |int _ _=>exact h
 |bool _=>exact h
 |str _=>exact h
 |fn _ _ _=>exact h
 |adr _=>exact h
 |hdr _ _ _=>exact h
 |sl _ _ _ _=>exact h
theorem Ni {w0:Base} {o:Operand} (h:CO w0 FA UA N w a E blk FS US) (hv:E.val P t o=some s):
  ∃U,EE w a E blk s (a.eval o) [] U/\∀b∈U,∃r,b∈US r:=by
 unfold St.val at hv;split at hv
 ·rename_i n;have hs:=h.slot n;split at hv
  ·rename_i x hx
   injection hv with hv
   subst hv;rw[hx]at hs;simp only[EE]at hs;obtain⟨hc,hj⟩:=hs
   obtain⟨U',h1,h2⟩:=g7 (r:= .slot n) (q:=[]) (c:=0) hc (λe sz cells he=>by
    subst he;refine⟨?_,?_⟩
    ·simp[pv,BL,hj rfl]
    simp[St.place,St.root,hx,SV.cells,BN])
   refine⟨U',?_,λb hb=>⟨_,h2 b hb⟩⟩;simp only[EE];refine⟨h1,λf=>?_⟩
   cases x with
   |junk=>simp[see,TV.isJunk]at f
   |_=>exact hj rfl
  ·rename_i cs hx
   injection hv with hv
   subst hv;rw[hx]at hs;simp only[EE]at hs;obtain⟨vs,d,hc⟩:=hs
   obtain⟨U',h1,h2⟩:=Vo (r:= .slot n) (q:=[]) 0 hc (λi t' v' hi hv' e sz cells he=>by
    subst he;refine⟨?_,?_⟩
    ·simp[pv,BL,d,Value.cells,hv']
    simp[St.place,St.root,hx,SV.cells,BN,hi])
   refine⟨U',?_,λb hb=>⟨_,h2 b hb⟩⟩;simp only[EE];exact⟨vs,d,h1⟩
  cases hv
 ·rename_i v;obtain⟨x,hx,rfl⟩:=AM.1 hv;obtain⟨h1,h2⟩:=f9 (w:=w) hx;refine⟨[],?_,by simp⟩;simp only[EE];exact⟨G0 h1,λ_=>h2⟩
 cases hv
theorem PO {w0:Base} (h:CO w0 FA UA N w a E blk FS US) (hU:∀b∈U,∃r,b∈US r) (d:Root):bP w0 FA UA w FS US d [] U where
 nd:=C7
 f1:=by simp
 fu:=by simp
 u1:=λr _ b hb hb'=>by
  obtain⟨s,hs⟩:=hU b hb;exact h.disU r s b hb' hs
 inF:=by simp
 inU:=λb hb=>by
  obtain⟨s,hs⟩:=hU b hb;exact h.inU s b hs
def TV.toV:TV->Option Value
 | .int k n=>some (.int k n)
 | .bool b=>some (.bool b)
 | .str s=>some (.string s)
 |_=>none
def AAl (op:BinOp) (k:IntKind) (a b:Int):Option TV:=match op with
 | .add=>some<|.int k<|k.wrap<|a+b
 | .sub=>some<|.int k<|k.wrap<|a-b
 | .mul=>some<|.int k<|k.wrap<|a*b
 | .quo=>if b=0 then none else some<|.int k<|k.wrap<|a.tdiv b
 | .rem=>if b=0 then none else some<|.int k<|a.tmod b
 | .and=>some<|.int k<|k.wrap (BitVec.ofInt k.bits a&&&BitVec.ofInt k.bits b).toNat
 | .or=>some<|.int k<|k.wrap (BitVec.ofInt k.bits a|||BitVec.ofInt k.bits b).toNat
 | .xor=>some<|.int k<|k.wrap (BitVec.ofInt k.bits a^^^BitVec.ofInt k.bits b).toNat
 | .eql=>some<|.bool<|a==b
 | .neq=>some<|.bool<|a !=b
 | .lss=>some<|.bool<|decide<|a<b
 | .leq=>some<|.bool<|decide<|a<=b
 | .gtr=>some<|.bool<|decide<|a>b
 | .geq=>some<|.bool<|decide<|a>=b
 |_=>none
def XL (op:BinOp) (x y:TV):Option TV:=match x,y with
 | .int k a,.int k' b=>match op with
  | .shl=>if b<0 then none else some<|.int k<|k.wrap<|a*2^(min b.toNat k.bits)
  | .shr=>if b<0 then none else some<|.int k<|a.fdiv<|2^(min b.toNat k.bits)
  |op=>if k=k' then AAl op k a b else none
 | .str a,.str b=>match op with
  | .add=>if((a.size+b.size:Nat):Int)>9223372036854775807 then none else some<|.str<|a++b
  | .eql=>some<|.bool<|a.toList==b.toList
  | .neq=>some<|.bool<|!(a.toList==b.toList)
  | .lss=>some<|.bool<|Op.bytesLess a.toList b.toList
  |_=>none
 | .bool a,.bool b=>match op with
  | .eql=>some<|.bool<|a==b
  | .neq=>some<|.bool<|!(a==b)
  |_=>none
 |_,_=>none
theorem vC {ox oy:Operand} {x:TV} {vy:Value} (h:XL op x y=some z) (hb:∀b,x= .bool b->P.underlying t=some .bool) (hx:x.toV=some vx) (hy:y.toV=some vy):
  ∃vz,z.toV=some vz/\∀W:World,(do eqGuard op t ox oy vx vy;Go.binOp op t vx vy:Sem Value).run P W= .ok vz W:=by
 cases x<;>simp only[TV.toV,An,reduceCtorEq]at hx<;>subst hx<;>cases y<;>simp only[TV.toV,An,reduceCtorEq]at hy<;>subst hy<;>simp only[XL,reduceCtorEq]at h
 ·rename_i k a k' b;cases op<;>simp only[AAl,reduceCtorEq,ite_eq_left_iff,Option.ite_none_left_eq_some,Option.ite_none_right_eq_some,An]at h
  all_goals first
   |(obtain⟨rfl,h0,rfl⟩:=h;refine⟨_,rfl,λW=>?_⟩;simp[eqGuard,Go.binOp,Op.intArith,Op.intDiv,Op.intBits,Op.intCmp,h0];done)
   |(obtain⟨rfl,rfl⟩:=h;refine⟨_,rfl,λW=>?_⟩;simp[eqGuard,Go.binOp,Op.intArith,Op.intDiv,Op.intBits,Op.intCmp];done)
   |(obtain⟨h0,rfl⟩:=h;refine⟨_,rfl,λW=>?_⟩;simp[eqGuard,Go.binOp,Op.shift,h0];done)
   |(simp at h;done)
   |skip
 ·rename_i a b;have ht:=hb a rfl;cases op<;>simp only[reduceCtorEq,An]at h
  all_goals first
   |(subst h;refine⟨_,rfl,λW=>?_⟩;simp[eqGuard,Go.binOp,Op.equal,Op.maxDepth,run_equalIn_bool',ht];done)
   |skip
 rename_i a b;cases op<;>simp only[reduceCtorEq,Option.ite_none_left_eq_some,An]at h
 all_goals first
  |(obtain⟨h0,rfl⟩:=h;refine⟨_,rfl,λW=>?_⟩;have h1:¬(((a.size+b.size:Nat):Int)>IntKind.i64.max):=h0;simp only[eqGuard,Go.binOp,Op.stringOp,Av h1];rfl)
  |(subst h;refine⟨_,rfl,λW=>?_⟩;simp[eqGuard,Go.binOp,Op.stringOp];done)
  |skip
def ABj (op:UnOp) (x:TV):Option TV:=match op,x with
 | .neg,.int k n=>some<|.int k<|k.wrap<|0-n
 | .not,.bool b=>some<|.bool<|!b
 | .xor,.int k n=>some<|.int k<|k.wrap (BitVec.ofInt k.bits (if k.signed then-1 else k.max)^^^BitVec.ofInt k.bits n).toNat
 |_,_=>none
theorem yU {op:UnOp} {x:TV} (h:ABj op x=some z) (hx:x.toV=some vx):
  ∃vz,z.toV=some vz/\∀W:World,(Op.unary op vx).run P W= .ok vz W:=by
 cases op<;>cases x<;>simp only[ABj,reduceCtorEq,An]at h<;>subst h<;>simp only[TV.toV,An]at hx<;>subst hx<;>exact⟨_,rfl,λW=>by simp[Op.unary,Op.intArith,Op.intBits]⟩
theorem aV:∀{ts:List TV} {vs:List Value} {F U:List Nat} (c:Nat) {t:TV},CW w a E blk ts vs F U->ts[c]?=some t->
  ∃v F1 U1,vs[c]?=some v/\CT w a E blk t v F1 U1/\(∀b∈F1,b∈F)/\(∀b∈U1,b∈U)
 |[],_,_,_,c,t,_,hc=>by simp at hc
 |t0::ts,vs,F,U,0,t,h,hc=>by
  obtain⟨v,d,F1,F2,U1,U2,rfl,rfl,rfl,h1,_⟩:=h;simp at hc;subst hc;exact⟨v,F1,U1,rfl,h1,λb hb=>by simp[hb],λb hb=>by simp[hb]⟩
 |t0::ts,vs,F,U,c+1,t,h,hc=>by
  obtain⟨v,d,F1,F2,U1,U2,rfl,rfl,rfl,_,h2⟩:=h;simp at hc;obtain⟨u,G,V,h3,h4,h5,h6⟩:=aV c h2 hc;exact⟨u,G,V,by simpa using h3,h4,λb hb=>by simp[h5 b hb],λb hb=>by simp[h6 b hb]⟩
theorem tK {w0:Base} {o:Bool} (h:CO w0 FA UA N w a E blk FS US) {cs:List TV} {cells:List TV} (hr:E.root r=some cs) (hc:cs[c]?=some (.sl o e sz cells)):
  ∃v F1 U1,BL w a blk r c=some v/\C1 w (.sl o e sz cells) v F1 U1/\(∀b∈F1,b∈FS r)/\(∀b∈U1,b∈US r):=by
 have d:∀r,r.mem=true->E.boxes r=some cs->∃v F1 U1,w.cell? ((⟨blk r,0,none⟩:Addr).add c)=some v/\C1 w (.sl o e sz cells) v F1 U1/\(∀b∈F1,b∈FS r)/\(∀b∈U1,b∈US r):=by
  intro r hm hr
  rcases h.box r hm with⟨h1,_⟩|⟨cs',g,T,F,h1,h2,h3,h4⟩
  ·rw[h1]at hr;cases hr
  rw[h1]at hr
  injection hr with hr
  subst hr;obtain⟨v,A,B,C,D,F1,U1,hv,i,hF,hU,_⟩:=I1 c h3 hc;refine⟨v,F1,U1,?_,i,λb hb=>by rw[h4,hF];simp[hb],λb hb=>by rw[hU];simp[hb]⟩;have hv':g[c]?=some v:=by simpa using hv
  unfold World.cell?;rw[Hh];simp only[h2];unfold Addr.add;split
  ·rename_i h0;subst h0;simpa using hv'
  simpa using hv'
 cases r with
 |slot n=>
  have hs:=h.slot n;simp only[St.root,An]at hr
  cases f:E.slots n with
  |one t=>
   rw[f]at hs hr;simp only[SV.cells]at hr;subst hr;simp only[EE]at hs;obtain⟨hx,hj⟩:=hs
   cases c with
   |succ c=>simp at hc
   |zero=>
    simp at hc;subst hc;exact⟨_,_,_,by simp[BL,hj rfl],hx,λ_ hb=>hb,λ_ hb=>hb⟩
  |agg ts=>
   rw[f]at hs hr;simp only[SV.cells]at hr;subst hr;simp only[EE]at hs;obtain⟨vs,j,hx⟩:=hs;obtain⟨v,F1,U1,h1,h2,h3,h4⟩:=aV c hx hc;exact⟨v,F1,U1,by simp[BL,j,Value.cells,h1],h2,h3,h4⟩
  |tup ss=>
   rw[f]at hr;simp only[SV.cells]at hr;subst hr;simp at hc
 |box n=>exact d (.box n) rfl hr
 |ext n=>exact d (.ext n) rfl hr
 |hand=>simp only[St.root,h.nohand,reduceCtorEq]at hr
theorem Qr {w0:Base} (h:CO w0 FA UA N w a E blk FS US) {cs:List TV} {f:List TV} (hr:E.root r=some cs) (hc:BN cs (c::q)=some f):
  ∃rvs F1 U1,Bv w f rvs F1 U1/\(∀b∈F1,b∈FS r)/\(∀b∈U1,b∈US r)/\
   ∃hv,BL w a blk r c=some hv/\∀j u,rvs[j]?=some u->∃ad,∀w2:World,(∀b∈FS r,w2.heap[b]?=w.heap[b]?)->(∀b∈US r,w2.heap[b]?=w.heap[b]?)->Pg w2 hv q=some ad/\w2.cell? (ad.add j)=some u:=by
 simp only[BN]at hc;split at hc
 ·rename_i o e sz d g;obtain⟨v,F1,U1,h1,h2,h3,h4⟩:=tK h hr g;have h5:Bv w [.sl o e sz d] [v] F1 U1:=by simp only[Bv];exact⟨v,[],F1,[],U1,[],rfl,by simp,by simp,h2,rfl,rfl,rfl⟩
  have h6:BN [.sl o e sz d] (0::q)=some f:=by simpa[BN]using hc
  obtain⟨rvs,F2,U2,h7,h8,h9,hv,h10,h11⟩:=aQ (0::q) h5 h6;simp at h10;subst h10;refine⟨rvs,F2,U2,h7,λb hb=>h3 b<|h8 b hb,λb hb=>h4 b<|h9 b hb,v,h1,λj u hj=>?_⟩;obtain⟨ad,hk⟩:=h11 j u hj;exact⟨ad,λw2 hA hC=>hk w2 (λb hb=>hA b<|h3 b hb) λb hb=>hC b<|h4 b hb⟩
 cases hc
theorem vI {w0:Base} (h:CO w0 FA UA N w a E blk FS US) {ad:Addr} {cs g:List TV} (hr:E.root r=some cs) (hc:BN cs q=some g) (hp:pa w a blk r q j=some ad):
  ∃rvs F1 U1,Bv w g rvs F1 U1/\(∀b∈F1,b∈FS r)/\(∀b∈U1,b∈US r)/\
   ∀i u,rvs[j+i]?=some u->pv w a blk r q (j+i)=some u/\∀w2:World,(∀b∈FS r,w2.heap[b]?=w.heap[b]?)->(∀b∈US r,w2.heap[b]?=w.heap[b]?)->w2.cell? (ad.add i)=some u:=by
 have d:∀(x:Addr) (m n:Nat),(x.add m).add n=x.add (m+n):=by
  intro x m n;unfold Addr.add;split<;>split<;>simp_all<;>omega
 cases q with
 |nil=>
  simp only[BN,An]at hc;subst hc;have e:∀r:Root,r.mem=true->E.boxes r=some cs->∃rvs F1 U1,Bv w cs rvs F1 U1/\(∀b∈F1,b∈FS r)/\(∀b∈U1,b∈US r)/\
    ∀i u,rvs[j+i]?=some u->w.cell? ((⟨blk r,0,none⟩:Addr).add<|j+i)=some u/\∀w2:World,(∀b∈FS r,w2.heap[b]?=w.heap[b]?)->w2.cell? (((⟨blk r,0,none⟩:Addr).add j).add i)=some u:=by
   intro r hm hr
   rcases h.box r hm with⟨h1,_⟩|⟨cs',k,T,F,h1,h2,h3,h4⟩
   ·rw[h1]at hr;cases hr
   rw[h1]at hr
   injection hr with hr
   subst hr;refine⟨k.toList,F,US r,h3,λb hb=>by rw[h4];exact FP _ hb,λ_ hb=>hb,λi u hu=>?_⟩;have hu':k[j+i]?=some u:=by simpa using hu
   have f:∀w2:World,w2.heap[blk r]?=w.heap[blk r]? ->w2.cell? ((⟨blk r,0,none⟩:Addr).add<|j+i)=some u:=by
    intro w2 l;unfold World.cell?;rw[Hh];simp only[l,h2];unfold Addr.add;split
    ·rename_i h0;rw[h0]at hu';simpa using hu'
    simpa using hu'
   refine⟨f w rfl,λw2 hA=>?_⟩;rw[d];exact f w2<|hA _ (by rw[h4];exact CZ)
  cases r with
  |slot n=>simp[pa]at hp
  |box n=>
   simp only[pa,An]at hp;subst hp;obtain⟨rvs,F1,U1,h1,h2,h3,h4⟩:=e (.box n) rfl hr;exact⟨rvs,F1,U1,h1,h2,h3,λi u hu=>⟨(h4 i u hu).1,λw2 hA _=>(h4 i u hu).2 w2 hA⟩⟩
  |ext n=>
   simp only[pa,An]at hp;subst hp;obtain⟨rvs,F1,U1,h1,h2,h3,h4⟩:=e (.ext n) rfl hr;exact⟨rvs,F1,U1,h1,h2,h3,λi u hu=>⟨(h4 i u hu).1,λw2 hA _=>(h4 i u hu).2 w2 hA⟩⟩
  |hand=>simp only[St.root,h.nohand,reduceCtorEq]at hr
 |cons c q=>
  obtain⟨rvs,F1,U1,h1,h2,h3,hv,h4,h5⟩:=Qr h hr hc;refine⟨rvs,F1,U1,h1,h2,h3,λi u hu=>?_⟩;obtain⟨ad',hk⟩:=h5 (j+i) u hu;obtain⟨h6,h7⟩:=hk w (λ_ _=>rfl) λ_ _=>rfl;simp only[pa,h4,Aa,h6,Bx,An]at hp;subst hp;refine⟨by simp only[pv,h4,Aa,h6];exact h7,λw2 hA hC=>?_⟩;rw[d];exact(hk w2 hA hC).2
def St.ptr? (E:St):Operand->Option (Root×List Nat×Nat)
 | .tmp n=>match E.slots n with
  | .one (.ptr r v q j)=>if E.stamp r q=v then some (r,q,j)else none
  |_=>none
 |_=>none
def St.ref (E:St):Operand->Option (Root×List Nat×Nat)
 | .tmp n=>match E.slots n with
  | .one (.sl ..)=>some (.slot n,[],0)
  | .one (.view r v q j)=>if E.ver r=v then some (r,q,j)else none
  |_=>none
 |_=>none
def dM (P:Program) (t:TypeId):Bool:=match P.underlying t with
 |some (.struct _)|some (.array _ _)=>true
 |_=>false
def St.cell1 (P:Program) (E:St) (t:TypeId) (o:Operand):Option TV:=match E.val P t o with
 |some (.one x)=>some x
 |_=>none
def St.sliceCells (E:St) (o:Operand):Option (Nat×List TV):=match E.ref o with
 |some (r,q,j)=>match E.place r q j with
  |some (.sl _ _ sz cells)=>some (sz,cells)
  |_=>none
 |none=>none
def WY (P:Program) (t:TypeId):TV->Bool
 | .bool _=>match P.underlying t with
  |some .bool=>true
  |_=>false
 |_=>true
theorem oN (P:Program) (h:WY P t (.bool b)=true):P.underlying t=some .bool:=by
 simp only[WY]at h;split at h
 ·assumption
 cases h
def Pf (P:Program) (E:St):Builtin->List Operand->List TypeId->Option SV
 | .len,[x],[t]=>match P.underlying t with
  |some .string=>match E.cell1 P t x with
   |some (.str s)=>some (.one (.int .i64 s.size))
   |_=>none
  |some (.slice _)=>match E.sliceCells x with
   |some (sz,cells)=>if 0<sz then some (.one (.int .i64 (cells.length/sz:Nat)))else none
   |none=>none
  |_=>none
 | .min,[x,y],[t,_]=>match E.cell1 P t x,E.cell1 P t y with
  |some (.int k a),some (.int _ b)=>some (.one (.int k (if b<a then b else a)))
  |_,_=>none
 | .max,[x,y],[t,_]=>match E.cell1 P t x,E.cell1 P t y with
  |some (.int k a),some (.int _ b)=>some (.one (.int k (if b>a then b else a)))
  |_,_=>none
 |_,_,_=>none
def Pe:List TV->Option (List Int)
 |[]=>some []
 | .int .u8 n::ts=>(Pe ts).map (n::·)
 |_=>none
def Bi (P:Program) (E:St) (o:Oper):Option SV:=match o.op with
 | .move x=>E.val P o.type x
 | .assign x=>E.val P o.type x
 | .nilCheck x=>match E.ptr? x with
  |some _=>E.val P o.type x
  |none=>none
 | .pick c x y=>match E.cell1 P 0 c with
  |some (.bool true)=>E.val P o.type x
  |some (.bool false)=>E.val P o.type y
  |_=>none
 | .binOp op t x y _=>match E.cell1 P t x,E.cell1 P t y with
  |some x,some y=>if WY P t x=true then(XL op x y).map .one else none
  |_,_=>none
 | .unOp op t x=>match E.cell1 P t x with
  |some x=>(ABj op x).map .one
  |none=>none
 | .convert src dst x=>match P.underlying src,P.underlying dst,E.cell1 P src x with
  |some (.int _),some<|.int k,some (.int _ n)=>some<|.one<|.int k<|k.wrap n
  |some (.slice e),some .string,_=>match P.underlying e,E.ref x with
   |some (.int .u8),some (r,q,j)=>match E.place r q j with
    |some (.sl _ _ sz cells)=>if sz=1 then(Pe cells).map λl=> .one (.str<|strOfNums l)else none
    |_=>none
   |_,_=>none
  |_,_,_=>none
 | .fieldAddr s x f=>match P.underlying s,E.ptr? x with
  |some (.struct fs),some (r,q,j)=>match fs[f]? with
   |some fd=>if P.cellsOf fd.type=0 then none else if(E.place r q<|j+fd.offset).isSome=true then some (.one<|.ptr r (E.stamp r q) q<|j+fd.offset)else none
   |none=>none
  |_,_=>none
 | .indexAddr t x i=>match P.underlying t,E.cell1 P 0 i with
  |some (.slice e),some (.int _ n)=>match E.ref x with
   |some (r,q,j)=>match E.place r q j with
    |some (.sl _ _ sz cells)=>if sz=P.cellsOf e/\0<sz/\0<=n/\(n.toNat+1)*sz<=cells.length then some (.one<|.ptr r (E.ver r) (q++ [j])<|n.toNat*sz)else none
    |_=>none
   |none=>none
  |some (.array len e),some (.int _ n)=>match E.ptr? x with
   |some (r,q,j)=>if 0<P.cellsOf e/\0<=n/\n<len/\(E.place r q<|j+n.toNat*P.cellsOf e).isSome=true then some (.one<|.ptr r (E.stamp r q) q<|j+n.toNat*P.cellsOf e)else none
   |none=>none
  |_,_=>none
 | .load t x=>match E.ptr? x with
  |some (r,q,j)=>match(E.root r).bind λcs=>BN cs q with
   |some row=>if j+P.cellsOf t<=row.length then
     (if dM P t then some (.agg<|Vp E r q j<|(row.drop j).take<|P.cellsOf t) else if P.cellsOf t=1/\(P.underlying t).isSome=true then(row[j]?).map λx=> .one (see E r q j x)else none) else none
   |none=>none
  |none=>none
 | .index t x i=>match P.underlying t,E.cell1 P t x,E.cell1 P 0 i with
  |some .string,some<|.str s,some (.int _ n)=>if 0<=n/\n<s.size then some (.one<|.int .u8<|bt s n)else none
  |_,_,_=>none
 | .slice t x lo hi none=>match P.underlying t,E.cell1 P t x with
  |some .string,some (.str s)=>match(match lo with|some o=>E.cell1 P 0 o|none=>some<|.int .i64 0),(match hi with|some o=>E.cell1 P 0 o|none=>some<|.int .i64 s.size)with
   |some (.int _ l),some (.int _ h)=>if 0<=l/\l<=h/\h<=s.size then some (.one<|.str<|s.extract l.toNat h.toNat)else none
   |_,_=>none
  |some (.slice e),_=>match E.ref x with
   |some (r,q,j)=>match E.place r q j with
    |some (.sl false e' sz cells)=>match(match lo with|some o=>E.cell1 P 0 o|none=>some<|.int .i64 0),(match hi with|some o=>E.cell1 P 0 o|none=>some<|.int .i64 (cells.length/sz:Nat))with
     |some (.int _ l),some (.int _ h)=>if sz=P.cellsOf e/\0<sz/\0<=l/\l<=h/\h.toNat*sz<=cells.length then some (.one<|.sl false e' sz<|(cells.drop<|l.toNat*sz).take<|(h.toNat-l.toNat)*sz)else none
     |_,_=>none
    |_=>none
   |none=>none
  |_,_=>none
 | .call c=>match c.callee with
  | .builtin b=>Pf P E b c.args.toList c.argTypes.toList
  |_=>none
 |_=>none
where
 bt (s:ByteArray) (i:Int):Int:=if h:i.toNat<s.size then((s[i.toNat]'h).toNat:Int)else 0
theorem add_add (x:Addr) (m n:Nat):(x.add m).add n=x.add (m+n):=by
 unfold Addr.add;split<;>split<;>simp_all<;>omega
theorem TO {ad2:Addr}:∀{q:List Nat} {ad ad1:Addr},HH w ad q=some ad1->w.cell? (ad1.add j)=some (.slice (some ad2) n c)->HH w ad (q++ [j])=some ad2
 |[],ad,ad1,h1,h2=>by
  simp only[HH,An]at h1;subst h1;simp[HH,h2]
 |c'::q,ad,ad1,h1,h2=>by
  simp only[HH,B5]at h1⊢;split at h1
  ·exact TO h1 h2
  cases h1
theorem tV {blk:Root->Nat} {ad:Addr} (h:pv w a blk r q j=some (.slice (some ad) n c)):pa w a blk r (q++ [j]) i=some (ad.add i):=by
 cases q with
 |nil=>
  simp only[pv]at h;simp[pa,h,Pg,HH]
 |cons c' q=>
  simp only[pv]at h;simp only[pa,B5];obtain⟨v,h1,h⟩:=Aj.1 h;obtain⟨ad1,h2,h3⟩:=Aj.1 h;rw[h1];simp only[Aa];cases v<;>simp only[Pg,reduceCtorEq]at h2;rename_i A m k;cases A<;>simp only[reduceCtorEq]at h2;simp only[Pg];rw[TO h2 h3];rfl
theorem LS {w0:Base} {o:Operand} {x:TV} (h:CO w0 FA UA N w a E blk FS US) (hv:E.cell1 P t o=some x):
  ∃U,CT w a E blk x (a.eval o) [] U/\(∀b∈U,∃r,b∈US r)/\(x.isJunk=false->(a.eval o).cells= #[a.eval o]):=by
 unfold St.cell1 at hv;split at hv
 ·rename_i y hy
  injection hv with hv
  subst hv;obtain⟨U,h1,h2⟩:=Ni h hy;simp only[EE]at h1;exact⟨U,h1.1,h2,h1.2⟩
 cases hv
theorem Dp {w0:Base} {o:Operand} {k:IntKind} {n:Int} (h:CO w0 FA UA N w a E blk FS US) (hv:E.cell1 P t o=some (.int k n)):a.eval o= .int k n:=by
 obtain⟨U,h1,_⟩:=LS h hv;simp only[CT,C1]at h1;exact h1.1
theorem Tt {w0:Base} {o:Operand} {s:ByteArray} (h:CO w0 FA UA N w a E blk FS US) (hv:E.cell1 P t o=some (.str s)):a.eval o= .string s:=by
 obtain⟨U,h1,_⟩:=LS h hv;simp only[CT,C1]at h1;exact h1.1
theorem Oz {w0:Base} {o:Operand} (h:CO w0 FA UA N w a E blk FS US) (hv:E.cell1 P t o=some (.bool b)):a.eval o= .bool b:=by
 obtain⟨U,h1,_⟩:=LS h hv;simp only[CT,C1]at h1;exact h1.1
theorem WX {w0:Base} {o:Operand} {x:TV} {z:Value} (h:CO w0 FA UA N w a E blk FS US) (hv:E.cell1 P t o=some x) (hx:x.toV=some z):a.eval o=z:=by
 cases x<;>simp only[TV.toV,An,reduceCtorEq]at hx<;>subst hx
 ·exact Dp h hv
 ·exact Oz h hv
 exact Tt h hv
theorem KE {w0:Base} {o:Operand} (h:CO w0 FA UA N w a E blk FS US) (hv:E.ptr? o=some (r,q,j)):(E.place r q j).isSome=true/\∃ad,pa w a blk r q j=some ad/\a.eval o= .pointer (some ad):=by
 unfold St.ptr? at hv;split at hv
 ·rename_i n;split at hv
  ·rename_i r' v q' j' hs;split at hv
   ·rename_i he;simp only[An,Bo]at hv;obtain⟨rfl,rfl,rfl⟩:=hv;have:=h.slot n;rw[hs]at this;simp only[EE,CT]at this;exact this.1.2.2.2 he
   cases hv
  cases hv
 cases hv
theorem V6 {w0:Base} {o:Operand} (h:CO w0 FA UA N w a E blk FS US) (hv:E.ref o=some (r,q,j)):pv w a blk r q j=some (a.eval o):=by
 unfold St.ref at hv;split at hv
 ·rename_i n;split at hv
  ·rename_i e1 e2 e3 e4 hs;simp only[An,Bo]at hv;obtain⟨rfl,rfl,rfl⟩:=hv;have:=h.slot n;rw[hs]at this;simp only[EE]at this;simp[pv,BL,this.2 rfl]
  ·rename_i r' v q' j' hs;split at hv
   ·rename_i he;simp only[An,Bo]at hv;obtain⟨rfl,rfl,rfl⟩:=hv;have:=h.slot n;rw[hs]at this;simp only[EE,CT]at this;exact(this.1.2.2.2 he).1
   cases hv
  cases hv
 cases hv
theorem Oh {w0:Base} {o:Bool} (h:CO w0 FA UA N w a E blk FS US) {d:List TV} (hp:E.place r q j=some (.sl o e sz d)) (hv:pv w a blk r q j=some v):
  ∃F U,C1 w (.sl o e sz d) v F U/\(∀b∈F,b∈FS r)/\(∀b∈U,b∈US r):=by
 unfold St.place at hp;obtain⟨cs,hr,hp⟩:=Aj.1 hp;obtain⟨f,hc,hj⟩:=Aj.1 hp
 cases q with
 |nil=>
  simp only[BN,An]at hc;subst hc;obtain⟨v',F1,U1,h1,h2,h3,h4⟩:=tK h hr hj;simp only[pv]at hv;rw[h1]at hv
  injection hv with hv
  subst hv;exact⟨F1,U1,h2,h3,h4⟩
 |cons c q=>
  obtain⟨rvs,F1,U1,h1,h2,h3,g,h4,h5⟩:=Qr h hr hc;obtain⟨v',A,B,C,D,F2,U2,h6,h7,rfl,rfl,_⟩:=I1 j h1 hj;obtain⟨ad,hk⟩:=h5 j v' h6;obtain⟨h8,h9⟩:=hk w (λ_ _=>rfl) λ_ _=>rfl;simp only[pv,h4,Aa,h8,h9,An]at hv;subst hv;exact⟨F2,U2,h7,λb hb=>h2 b (by simp[hb]),λb hb=>h3 b<|by simp[hb]⟩
theorem RX {o:Bool} {a:List TV} (h:C1 w (.sl o e sz a) v F U):
  ∃A n c,v= .slice A n c/\n*sz=a.length/\(0<a.length->∃ad,A=some ad):=by
 cases o
 ·simp only[C1]at h;obtain⟨A,n,c,vs,U',B,rfl,hn,hl,b,hr,_,_,_⟩:=h;have:=Du hr;refine⟨A,n,c,rfl,by omega,λhp=>?_⟩;have h0:0<vs.length:=by omega
  obtain⟨ad,m,k,he,_⟩:=b 0 _<|Ab h0
  injection he with he
  exact⟨ad,he⟩
 simp only[C1]at h;obtain⟨n,vs,F',ho,hr,_⟩:=h;have:=Du hr;have h2:=ho.1
 rcases ho.2 with⟨rfl,rfl⟩|⟨g,cap,d,rfl,_⟩
 ·refine⟨none,0,0,rfl,by omega,λhp=>?_⟩;simp at h2;subst h2;simp at this;simp[<-this]at hp
 exact⟨_,n,cap,rfl,by omega,λ_=>⟨_,rfl⟩⟩
def V7 (E:St) (o:Oper):Option Root:=match o.op with
 | .load _ x=>(E.ptr? x).map (·.1)
 | .convert _ _ x=>(E.ref x).map (·.1)
 |_=>none
def AAP (P:Program) (FS US:Root->List Nat) (w:World) (a:Act) (E:St) (o:Oper) (v:Value):Prop:=∀w2:World,(∀r,V7 E o=some r->(∀b∈FS r,w2.heap[b]?=w.heap[b]?)/\∀b∈US r,w2.heap[b]?=w.heap[b]?)->(execOp a.eval o).run P w2= .ok (.value v) w2
def Ft (P:Program) (w:World) (a:Act) (E:St) (blk:Root->Nat) (FS US:Root->List Nat) (o:Oper) (s:SV):Prop:=∃v U,AAP P FS US w a E o v/\EE w a E blk s v [] U/\∀b∈U,∃r,b∈US r
theorem qL {blk:Root->Nat} (h:z.toV=some v):EE w a E blk (.one z) v [] []:=by
 cases z<;>simp only[TV.toV,An,reduceCtorEq]at h<;>subst h<;>simp[EE,CT,C1,Value.cells]
theorem V9 {blk:Root->Nat} {ad:Addr} (hq:(E.place r q j).isSome=true) (h:pa w a blk r q j=some ad):EE w a E blk (.one (.ptr r (E.stamp r q) q j)) (.pointer (some ad)) [] []:=by
 simp only[EE,CT];exact⟨⟨by trivial,by trivial,Au _,λ_=>⟨hq,ad,h,rfl⟩⟩,λ_=>rfl⟩
theorem zL {k:Nat} {blk:Root->Nat} {ad:Addr} (h:pa w a blk r q j=some ad):pa w a blk r q (j+k)=some (ad.add k):=by
 cases q with
 |nil=>
  cases r<;>simp only[pa,reduceCtorEq,An]at h⊢<;>subst h<;>rw[add_add]
 |cons c q=>
  simp only[pa]at h⊢;obtain⟨v,h1,h⟩:=Aj.1 h;obtain⟨ad1,h2,rfl⟩:=AM.1 h;rw[h1];simp only[Aa,h2,Bx];rw[add_add]
theorem WV:∀{q:List Nat} {cs b:List TV} {j:Nat} {o:Bool} {e sz:Nat} {a:List TV},BN cs q=some b->b[j]?=some (.sl o e sz a)->BN cs (q++ [j])=some a
 |[],cs,b,j,o,e,sz,a,h,hj=>by
  simp only[BN,An]at h;subst h;simp[BN,hj]
 |c::q,cs,b,j,o,e,sz,a,h,hj=>by
  simp only[BN,B5]at h⊢;split at h
  ·exact WV h hj
  cases h
theorem qI {o:Bool} {a:List TV} (h:E.place r q j=some (.sl o e sz a)) (hi:i<a.length):(E.place r (q++ [j]) i).isSome=true:=by
 unfold St.place at h;obtain⟨cs,h1,h⟩:=Aj.1 h;obtain⟨b,h2,h3⟩:=Aj.1 h;simp[St.place,h1,WV h2 h3,hi]
theorem GA (h:P.cellsOf t≠0):∃i,P.info? t=some i/\i.size=P.cellsOf t:=by
 unfold Program.cellsOf at h⊢
 cases hi:P.info? t with
 |none=>simp[hi]at h
 |some i=>exact⟨i,rfl,by simp⟩
theorem YO {w0:Base} (h:CO w0 FA UA N w a E blk FS US) (hv:E.val P t x=some s) (b:∀w2:World,(execOp a.eval o).run P w2= .ok (.value (a.eval x)) w2):Ft P w a E blk FS US o s:=by
 obtain⟨U,h1,h2⟩:=Ni h hv;exact⟨a.eval x,U,λw2 _=>b w2,h1,h2⟩
theorem IQ (hz:z.toV=some v) (b:∀w2:World,(execOp a.eval o).run P w2= .ok (.value v) w2):Ft P w a E blk FS US o (.one z):=
 ⟨v,[],λw2 _=>b w2,qL hz,by simp⟩
theorem ABH {w0:Base} (h:CO w0 FA UA N w a E blk FS US) (ho:o.op= .move x) (hp:Bi P E o=some s):Ft P w a E blk FS US o s:=by
 simp only[Bi,ho]at hp;exact YO h hp λw2=>by simp[execOp,ho]
theorem vM {w0:Base} (h:CO w0 FA UA N w a E blk FS US) (ho:o.op= .assign x) (hp:Bi P E o=some s):Ft P w a E blk FS US o s:=by
 simp only[Bi,ho]at hp;exact YO h hp λw2=>by simp[execOp,ho]
theorem m8 {w0:Base} (h:CO w0 FA UA N w a E blk FS US) (ho:o.op= .nilCheck x) (hp:Bi P E o=some s):Ft P w a E blk FS US o s:=by
 simp only[Bi,ho]at hp;split at hp
 ·rename_i p b;obtain⟨r,q,j⟩:=p;obtain⟨_,ad,_,he⟩:=KE h b;exact YO h hp λw2=>by simp[execOp,ho,he]
 cases hp
theorem ABF {w0:Base} {c y:Operand} (h:CO w0 FA UA N w a E blk FS US) (ho:o.op= .pick c x y) (hp:Bi P E o=some s):Ft P w a E blk FS US o s:=by
 simp only[Bi,ho]at hp;split at hp
 ·rename_i hc;have:=Oz h hc;exact YO h hp λw2=>by simp[execOp,ho,this,asBool]
 ·rename_i hc;have:=Oz h hc;exact YO h hp λw2=>by simp[execOp,ho,this,asBool]
 cases hp
theorem pK {x:TV} (h:XL op x y=some z):∃vx vy,x.toV=some vx/\y.toV=some vy:=by
 cases x<;>cases y<;>simp only[XL,reduceCtorEq]at h<;>exact⟨_,_,rfl,rfl⟩
theorem zQ {w0:Base} {t':TypeId} {y:Operand} (h:CO w0 FA UA N w a E blk FS US) (ho:o.op= .binOp op t x y t') (hp:Bi P E o=some s):Ft P w a E blk FS US o s:=by
 simp only[Bi,ho]at hp;split at hp
 ·rename_i u v hu hv;split at hp
  ·rename_i hb;obtain⟨z,hz,rfl⟩:=AM.1 hp;obtain⟨vx,vy,hx,hy⟩:=pK hz;have h1:=WX h hu hx;have h2:=WX h hv hy
   obtain⟨vz,d,c⟩:=vC (P:=P) (op:=op) (t:=t) (ox:=x) (oy:=y) hz (λb hb'=>by
    subst hb'
    exact oN P hb) hx hy
   refine IQ d λw2=>?_;have:=c w2;simp only[execOp,ho,h1,h2];simp only[Sem.run_bind]at this⊢;rw[this];rfl
  cases hp
 cases hp
theorem ABE {w0:Base} {op:UnOp} (h:CO w0 FA UA N w a E blk FS US) (ho:o.op= .unOp op t x) (hp:Bi P E o=some s):Ft P w a E blk FS US o s:=by
 simp only[Bi,ho]at hp;split at hp
 ·rename_i u hu;obtain⟨z,hz,rfl⟩:=AM.1 hp;have:∃vx,u.toV=some vx:=by cases op<;>cases u<;>simp only[ABj,reduceCtorEq]at hz<;>exact⟨_,rfl⟩
  obtain⟨vx,hx⟩:=this;have h1:=WX h hu hx;obtain⟨vz,c,b⟩:=yU (P:=P) hz hx;refine IQ c λw2=>?_;simp[execOp,ho,h1,b w2]
 cases hp
theorem aZ:∀{ts:List TV} {vs:List Value} {F U:List Nat} {l:List Int},Bv w ts vs F U->Pe ts=some l->vs=l.map (.int .u8)
 |[],vs,F,U,l,h,k=>by
  simp only[Pe,An]at k;subst k;simp only[Bv]at h;simp[h.1]
 |t::ts,vs,F,U,l,h,k=>by
  simp only[Bv]at h;obtain⟨v,a,F1,F2,U1,U2,rfl,_,_,h1,h2⟩:=h
  cases t with
  |int kd n=>
   cases kd<;>simp only[Pe,reduceCtorEq]at k;obtain⟨l',k1,rfl⟩:=AM.1 k;simp only[C1]at h1;rw[h1.1,aZ h2 k1];rfl
  |_=>simp[Pe]at k
theorem qM {w0:Base} {src dst:TypeId} (h:CO w0 FA UA N w a E blk FS US) (ho:o.op= .convert src dst x) (hp:Bi P E o=some s):Ft P w a E blk FS US o s:=by
 simp only[Bi,ho]at hp;split at hp
 ·rename_i k0 k k1 n hs hd hu
  injection hp with hp
  subst hp;have h1:=Dp h hu;refine IQ rfl λw2=>?_;simp[execOp,ho,h1,convert,run_underlying hs,run_underlying hd,Conv.intToInt]
 ·rename_i e hs hd;split at hp
  ·rename_i r q j he hr;split at hp
   ·rename_i o' e' sz cells f;split at hp
    ·rename_i m;subst m;obtain⟨l,hl,rfl⟩:=AM.1 hp;obtain⟨F,U,h1,h2,h3⟩:=Oh h f<|V6 h hr;refine⟨.string<|strOfNums l,[],λw2 p=>?_,by simp[EE,CT,C1,Value.cells],by simp⟩;have hw:=p r (by simp[V7,ho,hr]);have h4:=J0 (w':=w2) h1 (λb hb=>hw.1 b<|h2 b hb) λb hb=>hw.2 b<|h3 b hb;have t:∃A n c vs F' U',a.eval x= .slice A n c/\vs.length=n/\O1 w2 (a.eval x) vs/\Bv w2 cells vs F' U':=by
      cases o' with
      |true=>
       simp only[C1]at h4;obtain⟨n,vs,F',h5,h6,_⟩:=h4;have hs':∃A c,a.eval x= .slice A n c:=by
        rcases h5.2 with⟨h7,rfl⟩|⟨g,cap,z,h7,_⟩
        ·exact⟨none,0,h7⟩
        exact⟨_,_,h7⟩
       obtain⟨A,c,h7⟩:=hs';exact⟨A,n,c,vs,F',_,h7,by simpa using h5.1,NE h5,h6⟩
      |false=>
       simp only[C1]at h4;obtain⟨A,n,c,vs,U',B,h5,_,h6,h7,h8,_⟩:=h4;exact⟨A,n,c,vs,[],U',h5,by simpa using h6,h7,h8⟩
     obtain⟨A,n,c,vs,F',U',k1,k2,k3,k4⟩:=t;have k5:=aZ k4 hl;simp only[execOp,ho,k1];have d:(convert src dst<|.slice A n c).run P w2= .ok (.string<|strOfNums l) w2:=by
      rw[run_convert_bytes_string w2 src dst e A n c hs he hd]
      cases A with
      |none=>
       have hv:vs=[]:=by
        cases vs with
        |nil=>rfl
        |cons u us=>
         obtain⟨ad,n',c',hx,_⟩:=k3 0 u rfl;rw[k1]at hx;cases hx
       subst hv;have:l=[]:=by simpa using k5.symm
       subst this;simp[Conv.bytesToString];rfl
      |some ad=>
       have y:(loadCells ad n).run P w2= .ok (l.map<|Value.int .u8).toArray w2:=by
        have:=run_loadCells_list (P:=P) w2 ad (l.map<|Value.int .u8) (λi v hi=>by
         rw[<-k5]at hi;obtain⟨ad',n',c',hx,hy⟩:=k3 i v hi;rw[k1]at hx
         injection hx with hx
         injection hx with hx
         subst hx
         exact hy)
        rw[<-k5]at this⊢;rw[k2]at this;exact this
       rw[run_bytesToString w2 _ n c l y,foldl_push_bytes];simp[strOfNums,ByteArray.empty,ByteArray.emptyWithCapacity];rfl
     rw[Sem.run_bind,d];simp
    cases hp
   cases hp
  cases hp
 cases hp
theorem i7 {w0:Base} {st:TypeId} {f:Nat} (h:CO w0 FA UA N w a E blk FS US) (ho:o.op= .fieldAddr st x f) (hp:Bi P E o=some s):Ft P w a E blk FS US o s:=by
 simp only[Bi,ho]at hp;split at hp
 ·rename_i fs r q j hs c;split at hp
  ·rename_i fd hf;split at hp
   ·cases hp
   rename_i b;split at hp
   case isFalse=>cases hp
   rename_i hq
   injection hp with hp
   subst hp;obtain⟨_,ad,h1,h2⟩:=KE h c;obtain⟨i,hi,_⟩:=GA b;refine⟨_,[],λw2 _=>?_,V9 hq<|zL h1,by simp⟩;simp[execOp,ho,h2,Instr.fieldAt,run_underlying hs,hf,Instr.sureAddr,fieldPlace,run_sizeOf w2 hi,b]
  cases hp
 cases hp
theorem iZ {w0:Base} {i:Operand} (h:CO w0 FA UA N w a E blk FS US) (ho:o.op= .indexAddr t x i) (hp:Bi P E o=some s):Ft P w a E blk FS US o s:=by
 simp only[Bi,ho]at hp;split at hp
 ·rename_i e k n ht hi;split at hp
  ·rename_i r q j g;split at hp
   ·rename_i o' e' sz d l;split at hp
    ·rename_i hc;obtain⟨rfl,p,v,f⟩:=hc
     injection hp with hp
     subst hp;have h1:=Dp h hi;have h2:=V6 h g;obtain⟨F,U,h3,_,_⟩:=Oh h l h2;obtain⟨A,m,c,hv,hm,hA⟩:=RX h3;have u:0<d.length:=AX (Nat.mul_pos (by omega) p) f;obtain⟨ad,rfl⟩:=hA u;obtain⟨inf,b,_⟩:=GA (P:=P) (t:=e) (by omega);have y:n<(m:Int):=by
      have:(n.toNat+1)<=m:=Nat.le_of_mul_le_mul_right (by rw[hm];exact f) p;omega
     rw[hv]at h2;have z:E.stamp r (q++ [j])=E.ver r:=Lr (by simp);rw[<-z];refine⟨_,[],λw2 _=>?_,V9 (qI l<|AX (by rw[Nat.add_mul];omega) f)<|tV h2,by simp⟩;simp[execOp,ho,h1,hv,Instr.indexAt,run_underlying ht,asIntOf,v,y,run_sizeOf w2 b]
    cases hp
   cases hp
  cases hp
 ·rename_i len e k n ht hi;split at hp
  ·rename_i r q j h0;split at hp
   ·rename_i hc
    injection hp with hp
    subst hp;have h1:=Dp h hi;obtain⟨_,ad,h2,h3⟩:=KE h h0;obtain⟨inf,b,_⟩:=GA (P:=P) (t:=e) (by omega);refine⟨_,[],λw2 _=>?_,V9 hc.2.2.2<|zL h2,by simp⟩;simp[execOp,ho,h1,h3,Instr.indexAt,run_underlying ht,asIntOf,Instr.sureAddr,hc,run_sizeOf w2 b]
   cases hp
  cases hp
 cases hp
theorem W5:∀(j:Nat) {ts:List TV} {vs F U},Bv w ts vs F U->∃F1 U1,Bv w (ts.drop j) (vs.drop j) F1 U1/\(∀b∈F1,b∈F)/\(∀b∈U1,b∈U)
 |0,ts,vs,F,U,h=>⟨F,U,h,λ_ hb=>hb,λ_ hb=>hb⟩
 |j+1,[],vs,F,U,h=>by
  simp only[Bv]at h;obtain⟨rfl,rfl,rfl⟩:=h;exact⟨[],[],by simp[Bv],by simp,by simp⟩
 |j+1,t::ts,vs,F,U,h=>by
  simp only[Bv]at h;obtain⟨v,a,F1,F2,U1,U2,rfl,rfl,rfl,h1,h2⟩:=h;obtain⟨F3,U3,h3,h4,h5⟩:=W5 j h2;exact⟨F3,U3,by simpa using h3,λb hb=>by simp[h4 b hb],λb hb=>by simp[h5 b hb]⟩
theorem W4:∀(n:Nat) {ts:List TV} {vs F U},Bv w ts vs F U->∃F1 U1,Bv w (ts.take n) (vs.take n) F1 U1/\(∀b∈F1,b∈F)/\(∀b∈U1,b∈U)
 |0,ts,vs,F,U,h=>⟨[],[],by simp[Bv],by simp,by simp⟩
 |n+1,[],vs,F,U,h=>by
  simp only[Bv]at h;obtain⟨rfl,rfl,rfl⟩:=h;exact⟨[],[],by simp[Bv],by simp,by simp⟩
 |n+1,t::ts,vs,F,U,h=>by
  simp only[Bv]at h;obtain⟨v,a,F1,F2,U1,U2,rfl,rfl,rfl,h1,h2⟩:=h;obtain⟨F3,U3,h3,h4,h5⟩:=W4 n h2;refine⟨F1++F3,U1++U3,by simp only[MR,Bv];exact⟨v,_,F1,F3,U1,U3,rfl,rfl,rfl,h1,h3⟩,λb hb=>?_,λb hb=>?_⟩
  ·rcases Al.1 hb with hb|hb
   ·simp[hb]
   simp[h4 b hb]
  rcases Al.1 hb with hb|hb
  ·simp[hb]
  simp[h5 b hb]
theorem FD {blk:Root->Nat}:∀{ts:List TV} {vs:List Value} {F U:List Nat},Bv w ts vs F U->CW w a E blk ts vs F U
 |[],vs,F,U,h=>by simpa only[Bv,CW]using h
 |t::ts,vs,F,U,h=>by
  simp only[Bv]at h;obtain⟨v,b,F1,F2,U1,U2,rfl,rfl,rfl,h1,h2⟩:=h;exact⟨v,b,F1,F2,U1,U2,rfl,rfl,rfl,G0 h1,FD h2⟩
theorem V5 {t:TV} (h:C1 w t v F U):v.oneCell'=true:=by
 cases t with
 |int _ _=>simp only[C1]at h;obtain⟨rfl,_⟩:=h;rfl
 |bool _=>simp only[C1]at h;obtain⟨rfl,_⟩:=h;rfl
 |str _=>simp only[C1]at h;obtain⟨rfl,_⟩:=h;rfl
 |fn _ _ _=>simp only[C1]at h;obtain⟨rfl,_⟩:=h;rfl
 |adr _=>simp only[C1]at h;obtain⟨rfl,_⟩:=h;rfl
 |hdr _ _ _=>simp only[C1]at h;obtain⟨rfl,_⟩:=h;rfl
 |junk=>simp only[C1]at h;exact h.1
 |view _ _ _ _=>simp only[C1]at h
 |ptr _ _ _ _=>simp only[C1]at h
 |sl o e sz cells=>
  obtain⟨A,n,c,rfl,_⟩:=RX h;rfl
theorem Zz:∀{ts:List TV} {vs:List Value} {F U:List Nat},Bv w ts vs F U->∀v∈vs,v.oneCell'=true
 |[],vs,F,U,h,v,hv=>by
  simp only[Bv]at h;rw[h.1]at hv;cases hv
 |t::ts,vs,F,U,h,v,hv=>by
  simp only[Bv]at h;obtain⟨u,a,F1,F2,U1,U2,rfl,rfl,rfl,h1,h2⟩:=h
  rcases CC.1 hv with rfl|hv
  ·exact V5 h1
  exact Zz h2 v hv
theorem gA (h:v.oneCell'=true):v.cells= #[v]:=by cases v<;>first|rfl|cases h
theorem W1 (h:P.underlying t≠none):(isAgg t).run P w2= .ok (dM P t) w2:=by
 cases hu:P.underlying t with
 |none=>exact absurd hu h
 |some d=>cases d<;>simp[isAgg,run_underlying hu,dM,hu]
theorem ABI {w0:Base} (h:CO w0 FA UA N w a E blk FS US) (ho:o.op= .load t x) (hp:Bi P E o=some s):Ft P w a E blk FS US o s:=by
 simp only[Bi,ho]at hp;split at hp
 ·rename_i r q j y;split at hp
  ·rename_i a3 z;obtain⟨cs,hr,hc⟩:=Aj.1 z;obtain⟨_,ad,h1,h2⟩:=KE h y;obtain⟨rvs,F1,U1,h3,h4,h5,h6⟩:=vI h hr hc h1;have a0:V7 E o=some r:=by simp[V7,ho,y]
   have a7:=Du h3;split at hp
   ·rename_i a8;split at hp
    ·rename_i g
     injection hp with hp
     subst hp;have k:P.underlying t≠none:=by intro e;simp[dM,e]at g
     obtain⟨F2,U2,h7,h8,h9⟩:=W5 j h3;obtain⟨F3,U3,h10,h11,h12⟩:=W4 (P.cellsOf t) h7;have a4:=FD (a:=a) (E:=E) (blk:=blk) h10
     obtain⟨U4,h13,h14⟩:=Vo (r:=r) (q:=q) j a4 (λi t' v' hi hv e sz m he=>by
      have hi':a3[j+i]?=some t':=by
       rw[CH]at hi;split at hi
       ·rwa [C4]at hi
       cases hi
      have hv':rvs[j+i]?=some v':=by
       rw[CH]at hv;split at hv
       ·rwa [C4]at hv
       cases hv
      refine⟨(h6 i v' hv').1,?_⟩
      simp only[St.place,hr,Aa,hc,hi'])
     refine⟨.agg ((rvs.drop j).take<|P.cellsOf t).toArray,U4,λw2 n=>?_,?_,λb hb=>⟨r,h5 b<|h9 b<|h12 b<|h14 b hb⟩⟩
     ·obtain⟨hA,hC⟩:=n r a0;have hl:((rvs.drop j).take<|P.cellsOf t).length=P.cellsOf t:=by
       rw[AW,Cb];omega
      have d:=run_loadCells_list (P:=P) w2 ad ((rvs.drop j).take<|P.cellsOf t) (λi u hu=>by
       rw[CH]at hu;split at hu
       ·rw[C4]at hu;exact(h6 i u hu).2 w2 hA hC
       cases hu)
      rw[hl]at d;have a5:(sizeOf t).run P w2= .ok (P.cellsOf t) w2:=by
       cases hi:P.info? t with
       |some i=>exact run_sizeOf w2 hi
       |none=>
        exfalso;apply k;simp[Program.underlying,hi]
      simp[execOp,ho,h2,Instr.loadAt,Instr.sureAddr,loadVar,W1 k,g,a5,d]
     simp only[EE];exact⟨_,rfl,h13⟩
    split at hp
    ·rename_i g l;obtain⟨x',hx',rfl⟩:=AM.1 hp;obtain⟨l,f⟩:=l;have k:P.underlying t≠none:=by
      intro e;rw[e]at f;cases f
     obtain⟨v,A,B,C,D,F2,U2,hv,a1,hF,hU,_⟩:=I1 j h3 hx';obtain⟨a6,p⟩:=h6 0 v hv;obtain⟨U4,h13,h14⟩:=g7 (r:=r) (q:=q) (c:=j) (G0 (a:=a) (E:=E) (blk:=blk) a1) (λe sz m he=>⟨a6,by simp only[St.place,hr,Aa,hc,hx']⟩);refine⟨v,U4,λw2 n=>?_,?_,λb hb=>⟨r,h5 b (by rw[hU];simp[h14 b hb])⟩⟩
     ·obtain⟨hA,hC⟩:=n r a0;have:=p w2 hA hC;have h0:ad.add 0=ad:=by simp[Addr.add]
      rw[h0]at this;have a2:dM P t=false:=by simpa using g
      simp[execOp,ho,h2,Instr.loadAt,Instr.sureAddr,loadVar,W1 k,a2,this]
     simp only[EE];exact⟨h13,λ_=>gA<|V5 a1⟩
    cases hp
   cases hp
  cases hp
 cases hp
theorem zP {w0:Base} {i:Operand} (h:CO w0 FA UA N w a E blk FS US) (ho:o.op= .index t x i) (hp:Bi P E o=some s):Ft P w a E blk FS US o s:=by
 simp only[Bi,ho]at hp;split at hp
 ·rename_i str k n ht hx hi;split at hp
  ·rename_i hc
   injection hp with hp
   subst hp;have h1:=Tt h hx;have h2:=Dp h hi;have b:n.toNat<str.size:=by omega
   refine IQ rfl λw2=>?_;have hg:str[n.toNat]?=some str[n.toNat]:=by simp[b]
   simp only[execOp,ho,h1,h2,Instr.index];simp[run_underlying ht,asIntOf,hc.1,hg,Bi.bt,b]
  cases hp
 cases hp
theorem yV {e:TypeId} {A:Option Addr} {lo hi:Option Value} {l u:Nat} (ht:P.underlying t=some (.slice e)) (a:sz=P.cellsOf e) (h0:0<sz) (h:l<=u) (j:u<=n) (m:n<=c) (f:lo=none/\l=0\/∃k,lo=some (.int k l)) (g:hi=none/\u=n\/∃k,hi=some (.int k u)) (w2:World):
  (Instr.sliceAt t (.slice A n c) lo hi none).run P w2= .ok (.slice (if c=l then A else A.map (·.add (l*sz))) (u-l) (c-l)) w2:=by
 have he:P.elem t=e:=by simp[Program.elem,ht]
 have ht':P.underlying t=some (.slice<|P.elem t):=by rw[he];exact ht
 obtain⟨i,b,d⟩:=GA (P:=P) (t:=e) (by omega);rw[run_sliceAt_slice w2 _ _ _ _ _ ht']
 rcases f with⟨rfl,rfl⟩|⟨k,rfl⟩<;>rcases g with⟨rfl,rfl⟩|⟨k',rfl⟩
 ·rw[run_slice_all w2 _ _ _ _ ht'];simp[he,sizeOf,typeInfo,b,d,sliced,a]
 ·rw[run_slice_h w2 _ _ _ _ ht' _ _ (by omega)<|by omega];simp[he,sizeOf,typeInfo,b,d,sliced,a]
 ·rw[run_slice_l w2 _ _ _ _ ht' _ _ (by omega)<|by omega];simp[he,sizeOf,typeInfo,b,d,sliced,a]
 rw[run_slice_lh w2 _ _ _ _ ht' _ _ _ _ (by omega) (by omega)<|by omega];simp[he,sizeOf,typeInfo,b,d,sliced,a]
theorem ABG {w0:Base} {e:TypeId} {e':Nat} {k1 k2:IntKind} {l u:Int} (h:CO w0 FA UA N w a E blk FS US) (ho:o.op= .slice t x lo hi none) (ht:P.underlying t=some (.slice e)) {d:List TV} (hr:E.ref x=some (r,q,j)) (h4:E.place r q j=some (.sl false e' sz d)) (hl:lo=none/\l=0\/∃ol,lo=some ol/\a.eval ol= .int k1 l) (hu:hi=none/\u=(d.length/sz:Nat)\/∃oh,hi=some oh/\a.eval oh= .int k2 u) (hc:sz=P.cellsOf e/\0<sz/\0<=l/\l<=u/\u.toNat*sz<=d.length):
  Ft P w a E blk FS US o (.one (.sl false e' sz ((d.drop (l.toNat*sz)).take ((u.toNat-l.toNat)*sz)))):=by
 obtain⟨h5,h0,h6,a9,f⟩:=hc;obtain⟨F,U,h1,h2,h3⟩:=Oh h h4<|V6 h hr;simp only[C1]at h1;obtain⟨A,n,c,vs,U0,B,hv,h7,g,h8,p,rfl,hB,rfl⟩:=h1;have s:=Du p;obtain⟨l',rfl⟩:=C0 h6;obtain⟨u',rfl⟩:=C0 (by omega:0<=u);simp only[Be]at f⊢;have h9:u'<=n:=by
  rw[<-s,g]at f;exact Nat.le_of_mul_le_mul_right f h0
 have hlu':l'<=u':=by omega
 have a8:d.length/sz=n:=by rw[<-s,g];exact N8 _ h0
 have v:∀w2:World,(execOp a.eval o).run P w2= .ok (.value (.slice (if c=l' then A else A.map (·.add (l'*sz))) (u'-l')<|c-l')) w2:=by
  intro w2;have:=yV (P:=P) ht h5 h0 (A:=A) (lo:=lo.map a.eval) (hi:=hi.map a.eval) hlu' h9 h7
   (by
     rcases hl with⟨rfl,hl⟩|⟨ol,rfl,a0⟩
     ·exact .inl ⟨rfl,by omega⟩
     exact .inr ⟨k1,by simp[a0]⟩)
   (by
     rcases hu with⟨rfl,hu⟩|⟨oh,rfl,a1⟩
     ·exact .inl ⟨rfl,by omega⟩
     exact .inr ⟨k2,by simp[a1]⟩) w2
  simp[execOp,ho,hv,this]
 obtain⟨F1,U1,d1,d2,d3⟩:=W5 (l'*sz) p;obtain⟨F2,U2,g1,g2,g3⟩:=W4 ((u'-l')*sz) d1;have a2:F2=[]:=by
  cases F2 with
  |nil=>rfl
  |cons b _=>exact absurd (d2 b<|g2 b<|by simp)<|by simp
 subst a2;have z:((vs.drop<|l'*sz).take<|(u'-l')*sz).length=(u'-l')*sz:=by
  rw[AW,Cb,g,<-Nat.sub_mul];exact Nat.min_eq_left<|BS _<|by omega
 have hrd':O1 w (.slice (if c=l' then A else A.map (·.add (l'*sz))) (u'-l')<|c-l') ((vs.drop<|l'*sz).take<|(u'-l')*sz):=by
  intro i y hi;have k:=(Ag.1 hi).1;rw[z]at k;rw[CH,Ay k,C4]at hi;obtain⟨ad,n2,c2,k3,k4⟩:=h8 (l'*sz+i) y hi;rw[hv]at k3
  injection k3 with k3 k5 k6
  subst k3;have a3:c≠l':=by
   intro e;have:u'-l'=0:=by omega
   rw[this]at k;omega
  refine⟨ad.add<|l'*sz,u'-l',c-l',by rw[Av a3];rfl,?_⟩;rw[<-k4];congr 1;unfold Addr.add;split<;>split<;>simp_all<;>omega
 have a4:∃B',(B'=BO (.slice (if c=l' then A else A.map (·.add (l'*sz))) (u'-l')<|c-l')\/(vs.drop<|l'*sz).take ((u'-l')*sz)=[]/\B'=[])/\∀b∈B',b∈US r:=by
  by_cases m:(vs.drop<|l'*sz).take ((u'-l')*sz)=[]
  ·exact⟨[],.inr ⟨m,rfl⟩,by simp⟩
  have a5:vs≠ []:=by rintro rfl;simp at m
  rcases hB with hB|⟨hB,_⟩
  ·refine⟨BO<|a.eval x,.inl ?_,λb hb=>h3 b<|AI _ (by rw[hB];exact hb)⟩;rw[hv]
   cases A with
   |none=>split<;>rfl
   |some ad=>
    split
    ·rfl
    simp[BO,Value.ownBlock,Hh]
  exact absurd hB a5
 obtain⟨B',a6,a7⟩:=a4;refine⟨_,B'++U2,λw2 _=>v w2,?_,λb hb=>⟨r,?_⟩⟩
 ·simp only[EE,CT,C1];refine⟨⟨_,_,_,_,U2,B',rfl,by omega,z,hrd',g1,trivial,a6,rfl⟩,λ_=>rfl⟩
 rcases Al.1 hb with hb|hb
 ·exact a7 b hb
 exact h3 b<|AU _<|d3 b<|g3 b hb
theorem zO {w0:Base} (h:CO w0 FA UA N w a E blk FS US) (ho:o.op= .slice t x lo hi none) (hp:Bi P E o=some s):Ft P w a E blk FS US o s:=by
 simp only[Bi,ho]at hp;split at hp
 ·rename_i str ht hx;have h1:=Tt h hx;split at hp
  ·rename_i k1 l k2 u hl hu;split at hp
   ·rename_i hc
    injection hp with hp
    subst hp;obtain⟨d,i,k⟩:=hc;refine IQ rfl λw2=>?_;have hL:lo=none/\l=0\/∃ol,lo=some ol/\a.eval ol= .int k1 l:=by
     cases lo with
     |none=>simp at hl;exact .inl ⟨rfl,hl.2.symm⟩
     |some ol=>exact .inr ⟨ol,rfl,Dp h hl⟩
    have hU:hi=none/\u=(str.size:Int)\/∃oh,hi=some oh/\a.eval oh= .int k2 u:=by
     cases hi with
     |none=>simp at hu;exact .inl ⟨rfl,hu.2.symm⟩
     |some oh=>exact .inr ⟨oh,rfl,Dp h hu⟩
    obtain⟨u',rfl⟩:=C0 (by omega:0<=u);obtain⟨l',rfl⟩:=C0 d;have e1:l'<=u':=by omega
    have e2:u'<=str.size:=by omega
    rcases hL with⟨rfl,m⟩|⟨ol,rfl,b⟩<;>rcases hU with⟨rfl,n⟩|⟨oh,rfl,c⟩
    ·have:l'=0:=by omega
     have:u'=str.size:=by omega
     subst_vars
     simp[execOp,ho,h1,Instr.sliceAt,run_underlying ht,Instr.slice,Instr.sliceBounds]
    ·have:l'=0:=by omega
     subst this;simp[execOp,ho,h1,Instr.sliceAt,run_underlying ht,Instr.slice,Instr.sliceBounds,Instr.sliceBound,c,asIntOf,e2]
    ·have:u'=str.size:=by omega
     subst this;simp[execOp,ho,h1,Instr.sliceAt,run_underlying ht,Instr.slice,Instr.sliceBounds,Instr.sliceBound,b,asIntOf,e1]
    simp[execOp,ho,h1,Instr.sliceAt,run_underlying ht,Instr.slice,Instr.sliceBounds,Instr.sliceBound,b,c,asIntOf,e1,e2]
   cases hp
  cases hp
 ·rename_i e ht;split at hp
  ·rename_i r q j hr;split at hp
   ·rename_i e' sz f g;split at hp
    ·rename_i k1 l k2 u hl hu;split at hp
     ·rename_i hc
      injection hp with hp
      subst hp;refine ABG h ho ht hr g (k1:=k1) (k2:=k2) ?_ ?_ hc
      ·cases lo with
       |none=>simp at hl;exact .inl ⟨rfl,hl.2.symm⟩
       |some ol=>exact .inr ⟨ol,rfl,Dp h hl⟩
      cases hi with
      |none=>simp at hu;exact .inl ⟨rfl,by simpa using hu.2.symm⟩
      |some oh=>exact .inr ⟨oh,rfl,Dp h hu⟩
     cases hp
    cases hp
   cases hp
  cases hp
 cases hp
theorem qN {w0:Base} {c:Call} {b:Builtin} (h:CO w0 FA UA N w a E blk FS US) (ho:o.op= .call c) (hb:c.callee= .builtin b) (hp:Pf P E b c.args.toList c.argTypes.toList=some s):Ft P w a E blk FS US o s:=by
 obtain⟨callee,args,types⟩:=c;simp only at hb;subst hb;simp only at hp;unfold Pf at hp;split at hp
 ·rename_i x t d f;obtain rfl:args= #[x]:=by cases args;simp_all
  obtain rfl:types= #[t]:=by cases types;simp_all
  split at hp
  ·rename_i ht;split at hp
   ·rename_i str hx
    injection hp with hp
    subst hp;have h1:=Tt h hx;refine IQ rfl λw2=>?_;simp[execOp,ho,resolve,invoke,builtin,Builtin.len_,h1,run_underlying ht,goInt]
   cases hp
  ·rename_i e ht;split at hp
   ·rename_i sz l hs;split at hp
    ·rename_i g
     injection hp with hp
     subst hp;unfold St.sliceCells at hs;split at hs
     ·rename_i r q j i;split at hs
      ·rename_i o' e' sz' cells' p;simp only[An,Bo]at hs;obtain⟨rfl,rfl⟩:=hs;have h2:=V6 h i;obtain⟨F,U,h3,_,_⟩:=Oh h p h2;obtain⟨A,m,c,hv,hm,_⟩:=RX h3;refine IQ (v:= .int .i64 m) ?_ (λw2=>?_)
       ·simp only[TV.toV];rw[<-hm,N8 _ g]
       simp[execOp,ho,resolve,invoke,builtin,Builtin.len_,hv,run_underlying ht,goInt]
      cases hs
     cases hs
    cases hp
   cases hp
  cases hp
 ·rename_i x y t t' d f;obtain rfl:args= #[x,y]:=by cases args;simp_all
  obtain rfl:types= #[t,t']:=by cases types;simp_all
  split at hp
  ·rename_i k m k' n hx hy
   injection hp with hp
   subst hp;have h1:=Dp h hx;have h2:=Dp h hy;refine IQ rfl λw2=>?_;simp[execOp,ho,resolve,invoke,builtin,Builtin.min_,h1,h2,Builtin.min2]
  cases hp
 ·rename_i x y t t' d f;obtain rfl:args= #[x,y]:=by cases args;simp_all
  obtain rfl:types= #[t,t']:=by cases types;simp_all
  split at hp
  ·rename_i k m k' n hx hy
   injection hp with hp
   subst hp;have h1:=Dp h hx;have h2:=Dp h hy;refine IQ rfl λw2=>?_;simp[execOp,ho,resolve,invoke,builtin,Builtin.max_,h1,h2,Builtin.max2]
  cases hp
 cases hp
theorem Ut {w0:Base} (h:CO w0 FA UA N w a E blk FS US) (hp:Bi P E o=some s):Ft P w a E blk FS US o s:=by
 have b:=hp;unfold Bi at hp;split at hp
 ·rename_i ho;exact ABH h ho b
 ·rename_i ho;exact vM h ho b
 ·rename_i ho;exact m8 h ho b
 ·rename_i ho;exact ABF h ho b
 ·rename_i ho;exact zQ h ho b
 ·rename_i ho;exact ABE h ho b
 ·rename_i ho;exact qM h ho b
 ·rename_i ho;exact i7 h ho b
 ·rename_i ho;exact iZ h ho b
 ·rename_i ho;exact ABI h ho b
 ·rename_i ho;exact zP h ho b
 ·rename_i ho;exact zO h ho b
 ·rename_i ho;split at hp
  ·rename_i hb;exact qN h ho hb hp
  cases hp
 cases hp
def St.ownAt (E:St) (r:Root) (q:List Nat):Bool:=match E.root r with
 |some cs=>MX cs q
 |none=>false
def pL (E:St) (r:Root) (ver:Nat) (q:List Nat) (j:Nat):Option (TV×St):=if E.ver r=ver then
  match E.place r q j with
  |some (.sl true e sz cells)=>if E.ownAt r q=true then
    match E.root r with
    |some cs=>some (.sl true e sz cells,(E.setRoot r<|DL cs q λa=>a.set j .junk).bump r)
    |none=>none else none
  |some (.sl false e sz cells)=>some (.sl false e sz cells,E)
  |_=>none else none
def DM (E:St):TV->Option (TV×St)
 | .view r v q j=>pL E r v q j
 | .ptr .. =>none
 | .junk=>none
 | .sl o e sz cells=>some (.sl o e sz cells,E)
 |t=>some (t,E)
def rst (E E1:St):TV->TV->TV
 | .view r _ q j,.view r' v' q' j'=>if r'=r/\E.ver r=v'/\q'=q/\j'≠j then .view r' (E1.ver r') q' j' else .view r' v' q' j'
 |_,u=>u
def eB (n:Nat) (E:St) (l:List TV):Option (List TV×St):=match n,l with
 |0,_=>some ([],E)
 |_+1,[]=>some ([],E)
 |n+1,t::ts=>match DM E t with
  |some (x,E1)=>match eB n E1 (ts.map<|rst E E1 t)with
   |some (xs,E2)=>some (x::xs,E2)
   |none=>none
  |none=>none
def Fy (E:St) (l:List TV):Option (List TV×St):=eB l.length E l
theorem bV:Fy E []=some ([],E):=rfl
theorem RA {t:TV} {ts:List TV}:Fy E (t::ts)=match DM E t with
  |some (x,E1)=>match Fy E1 (ts.map (rst E E1 t))with
   |some (xs,E2)=>some (x::xs,E2)
   |none=>none
  |none=>none:=by
 simp only[Fy,A7,eB,Bg]
theorem XK:(E.bump r).ver r=E.ver r+1:=by simp[St.bump,Cg]
theorem XJ {s:Root} (h:s≠r):(E.bump r).ver s=E.ver s:=by simp[St.bump,Cg,h]
theorem Kc {cs:List TV}:(E.setRoot r cs).ver=E.ver:=by cases r<;>rfl
theorem PS {s:Root}:(E.bump r).root s=E.root s:=by cases s<;>rfl
theorem rP:(E.bump r).slots=E.slots:=rfl
theorem bB:(E.bump r).boxes=E.boxes:=rfl
theorem MW {s:Root} {cs:List TV} (h:s≠r):(E.setRoot r cs).root s=E.root s:=by
 cases r<;>cases s<;>simp only[St.setRoot,St.root,Cg]<;>first
  |rfl
  |(rw[Av λe=>h<|by rw[e]])
  |(rw[Av h])
  |(simp_all;done)
theorem OC {cs:List TV}:(E.setRoot r cs).gen=E.gen:=by cases r<;>rfl
theorem bA:(E.bump r).gen=E.gen:=rfl
theorem Ms {cs:List TV} (h:r.mem=true):(E.setRoot r cs).root r=some cs:=by cases r<;>simp_all [St.setRoot,St.root,Cg,Root.mem]
theorem Zb {cs:List TV} (c:r.mem=true->∀cs0,E.root r=some cs0->cs.length=cs0.length) (s:Root):Cr w w a a E ((E.setRoot r cs).bump r) blk blk s:=by
 by_cases h:s=r
 ·subst h;refine⟨.inl (by rw[XK,Kc];omega),.inr ⟨by rw[bA,OC],λj ad h1 h2=>⟨h1,?_⟩⟩⟩;by_cases hm:s.mem=true
  ·unfold St.place at h2
   cases hr:E.root s with
   |none=>simp[hr]at h2
   |some cs0=>
    have:=c hm cs0 hr;simp only[hr,Aa,BN]at h2;simp only[St.place,PS,Ms hm,Aa,BN];have h3:j<cs0.length:=by
     obtain⟨x,hx⟩:=Nc.1 h2;exact(Ag.1 hx).1
    rw[Ab<|by omega];rfl
  cases s<;>first|(simp[pa]at h1;done)|exact absurd rfl hm
 have b:∀q j,((E.setRoot r cs).bump r).place s q j=E.place s q j:=λq j=>by simp only[St.place,PS,MW h]
 refine⟨.inr ⟨by rw[XJ h,Kc],λq j v h1 h2=>⟨h1,by rw[b];exact h2⟩,λq j ad _ h1 h2=>⟨h1,by rw[b];exact h2⟩⟩,.inr ⟨by rw[bA,OC],λj ad h1 h2=>⟨h1,by rw[b];exact h2⟩⟩⟩
theorem UF:∀{ts:List TV} {vs:List Value} {F U:List Nat} (c:Nat) {t:TV},CW w a E blk ts vs F U->ts[c]?=some t->
  ∃v A B C D F1 U1,vs[c]?=some v/\CT w a E blk t v F1 U1/\F=A++F1++B/\U=C++U1++D/\
   ∀t' F1' U1',CT w a E blk t' v F1' U1'->CW w a E blk (ts.set c t') vs (A++F1'++B) (C++U1'++D)
 |[],_,_,_,c,t,_,hc=>by simp at hc
 |t0::ts,vs,F,U,0,t,h,hc=>by
  obtain⟨v,b,F1,F2,U1,U2,rfl,rfl,rfl,h1,h2⟩:=h;simp at hc;subst hc;refine⟨v,[],F2,[],U2,F1,U1,rfl,h1,rfl,rfl,λt' F1' U1' hx=>?_⟩;exact⟨v,b,F1',F2,U1',U2,rfl,rfl,rfl,hx,h2⟩
 |t0::ts,vs,F,U,c+1,t,h,hc=>by
  obtain⟨v,b,F1,F2,U1,U2,rfl,rfl,rfl,h1,h2⟩:=h;simp at hc;obtain⟨u,A,B,C,D,G,V,h3,h4,rfl,rfl,hk⟩:=UF c h2 hc;refine⟨u,F1++A,B,U1++C,D,G,V,by simpa using h3,h4,by simp,by simp,λt' F1' U1' hx=>?_⟩;exact⟨v,b,F1,A++F1'++B,U1,C++U1'++D,rfl,by simp,by simp,h1,hk t' F1' U1' hx⟩
theorem CO.out {w0:Base} {cs':List TV} (h:CO w0 FA UA N w a E blk FS US) (hr:r≠ .hand) {A B F1 U' U1:List Nat} (hF:FS r=A++F1++B) (h6:r.mem=true->∀cs0,E.root r=some cs0->cs'.length=cs0.length) (hU':∀b∈U',b∈US r) (a3:∀b∈U1,b∈US r) (z:∀n,r= .slot n->EE w a E blk ((E.slots n).withCells cs') (a.eval (.tmp n)) (A++B) U') (h7:r.mem=true->∃l T F,w.heap[blk r]?=some (.cells l T (0,0))/\Bv w cs' l.toList F U'/\A++B=blk r::F):
  CO w0 FA UA N w a ((E.setRoot r cs').bump r) blk (Cg (Cg FS r (A++B)) .hand (FS .hand++F1)) (Cg (Cg US r U') .hand (US .hand++U1)):=by
 have h8:∀s,Cr w w a a E ((E.setRoot r cs').bump r) blk blk s:=λs=>Zb h6 s
 have g:=h.nodup r;rw[hF]at g
 have f:∀b,b∈A++B->b∈FS r:=λb hb=>by rw[hF];simp at hb⊢;rcases hb with hb|hb<;>simp[hb]
 have c:∀b,b∈F1->b∈FS r:=λb hb=>by rw[hF];simp[hb]
 have j:∀b,b∈A++B->b∉F1:=by
  intro b hb h9;rw[Ax,BR]at g;obtain⟨hA,a0,a4⟩:=g;rw[BR]at a0
  rcases Al.1 hb with hb|hb
  ·exact a4 b hb b (AI _ h9) rfl
  exact a0.2.2 b h9 b hb rfl
 have h0:(A++B).Nodup:=by
  rw[Ax]at g;exact g.sublist<|List.Sublist.append_left (List.sublist_append_right _ _) _
 have a1:F1.Nodup:=g.sublist<|(List.sublist_append_right A F1).trans<|List.sublist_append_left _ _
 have a2:∀s,s≠Root.hand->Cg (Cg FS r<|A++B) .hand (FS .hand++F1) s=Cg FS r (A++B) s:=λs hs=>Bt hs
 have q:∀s,s≠Root.hand->Cg (Cg US r U') .hand (US .hand++U1) s=Cg US r U' s:=λs hs=>Bt hs
 have h5:∀s,∀b∈Cg (Cg FS r<|A++B) .hand (FS .hand++F1) s,(s= .hand/\(b∈FS .hand\/b∈F1))\/(s=r/\b∈A++B)\/(s≠ .hand/\s≠r/\b∈FS s):=by
  intro s b hb;by_cases hs:s= .hand
  ·subst hs;rw[BK]at hb;exact .inl ⟨rfl,Al.1 hb⟩
  rw[Bt hs]at hb;by_cases d:s=r
  ·subst d;rw[BK]at hb;exact .inr<|.inl ⟨rfl,hb⟩
  rw[Bt d]at hb;exact .inr<|.inr ⟨hs,d,hb⟩
 have u:∀s,∀b∈Cg (Cg US r U') .hand (US .hand++U1) s,∃s',b∈US s':=by
  intro s b hb;by_cases hs:s= .hand
  ·subst hs;rw[BK]at hb
   rcases Al.1 hb with hb|hb
   ·exact⟨_,hb⟩
   exact⟨_,a3 b hb⟩
  rw[Bt hs]at hb;by_cases d:s=r
  ·subst d;rw[BK]at hb;exact⟨_,hU' b hb⟩
  rw[Bt d]at hb;exact⟨_,hb⟩
 have v:∀s,∀b∈Cg (Cg FS r<|A++B) .hand (FS .hand++F1) s,∃s',b∈FS s':=by
  intro s b hb
  rcases h5 s b hb with⟨_,hb|hb⟩|⟨_,hb⟩|⟨_,_,hb⟩
  ·exact⟨_,hb⟩
  ·exact⟨_,c b hb⟩
  ·exact⟨_,f b hb⟩
  exact⟨_,hb⟩
 constructor
 ·intro n;have k:Root.slot n≠Root.hand:=by simp
  rw[a2 _ k,q _ k,rP];by_cases o:r= .slot n
  ·subst o;rw[BK,BK];have:(E.setRoot (.slot n) cs').slots n=(E.slots n).withCells cs':=by simp[St.setRoot,Cg]
   rw[this];exact Ig h8 (z n rfl) (λ_ _=>rfl) λ_ _=>rfl
  rw[Bt λe=>o e.symm,Bt λe=>o e.symm];have:(E.setRoot r cs').slots n=E.slots n:=by
   cases r with
   |slot m=>
    have:n≠m:=λe=>o<|by rw[e]
    simp[St.setRoot,Cg,this]
   |_=>rfl
  rw[this];exact Ig h8 (h.slot n) (λ_ _=>rfl) λ_ _=>rfl
 ·intro s hs;have k:s≠Root.hand:=by rintro rfl;cases hs
  rw[a2 _ k,q _ k,bB];by_cases p:s=r
  ·subst p;rw[BK,BK];obtain⟨l,T,F,h1,h2,h3⟩:=h7 hs;refine .inr ⟨cs',l,T,F,?_,h1,h2,h3⟩;cases s<;>simp_all [St.setRoot,Cg,Root.mem]
  rw[Bt p,Bt p];have:(E.setRoot r cs').boxes s=E.boxes s:=by cases r<;>simp[St.setRoot,Cg,p]
  rw[this];exact h.box s hs
 ·rw[bB];have:(E.setRoot r cs').boxes .hand=E.boxes .hand:=by cases r<;>simp[St.setRoot,Cg]<;>simp at hr
  rw[this];exact h.nohand
 ·intro s;by_cases hs:s= .hand
  ·subst hs;rw[BK,BR];exact⟨h.nodup _,a1,λx hx y hy e=>by subst e;exact h.dis r .hand hr x (c x hy) hx⟩
  rw[Bt hs];by_cases d:s=r
  ·subst d;rw[BK];exact h0
  rw[Bt d];exact h.nodup s
 ·intro s s' i b hb hb'
  rcases h5 s b hb with⟨rfl,hx|hx⟩|⟨rfl,hx⟩|⟨h1,h2,hx⟩<;>rcases h5 s' b hb' with⟨rfl,hy|hy⟩|⟨rfl,hy⟩|⟨h3,h4,hy⟩
  ·exact i rfl
  ·exact i rfl
  ·exact h.dis .hand s' (Fk hr) b hx<|f b hy
  ·exact h.dis .hand s' (Fk h3) b hx hy
  ·exact i rfl
  ·exact i rfl
  ·exact j b hy hx
  ·exact h.dis r s' (Fk h4) b (c b hx) hy
  ·exact h.dis s .hand hr b (f b hx) hy
  ·exact j b hx hy
  ·exact i rfl
  ·exact h.dis s s' (Fk h4) b (f b hx) hy
  ·exact h.dis s .hand h1 b hx hy
  ·exact h.dis s r h2 b hx<|c b hy
  ·exact h.dis s s' h2 b hx<|f b hy
  exact h.dis s s' i b hx hy
 ·intro s s' b hb hb';obtain⟨t,ht⟩:=v s b hb;obtain⟨t',ht'⟩:=u s' b hb';exact h.disU t t' b ht ht'
 ·intro s b hb;obtain⟨t,ht⟩:=v s b hb;exact h.inF t b ht
 ·intro s b hb;obtain⟨t,ht⟩:=u s b hb;exact h.inU t b ht
 ·exact h.disA
 ·exact h.os
 ·exact h.tape
 ·exact h.output
 ·exact h.size
 ·exact h.keep
 ·exact h.len
 ·exact h.nodef
 ·exact h.xblk
 ·rw[Lb,Ew];exact h.ambB
 ·rw[Lb,Ew];exact h.ambI
 ·intro n hn;rw[Rd,Ii]at hn;exact h.frz n hn
 ·exact h.ambF
 rw[Lb,Ew];exact h.pin
theorem CO.handU {w0:Base} {U1:List Nat} (h:CO w0 FA UA N w a E blk FS US) (hU:∀b∈U1,∃r,b∈US r):
  CO w0 FA UA N w a E blk FS (Cg US .hand (US .hand++U1)):=by
 have c:∀s,∀b∈Cg US .hand (US .hand++U1) s,∃s',b∈US s':=by
  intro s b hb;by_cases hs:s= .hand
  ·subst hs;rw[BK]at hb
   rcases Al.1 hb with hb|hb
   ·exact⟨_,hb⟩
   exact hU b hb
  rw[Bt hs]at hb;exact⟨_,hb⟩
 constructor
 ·intro n;rw[Bt<|by simp];exact h.slot n
 ·intro r hr;have d:r≠Root.hand:=by rintro rfl;cases hr
  rw[Bt d];exact h.box r hr
 ·exact h.nohand
 ·exact h.nodup
 ·exact h.dis
 ·intro r s b hb hb';obtain⟨t,ht⟩:=c s b hb';exact h.disU r t b hb ht
 ·exact h.inF
 ·intro r b hb;obtain⟨t,ht⟩:=c r b hb;exact h.inU t b ht
 ·exact h.disA
 ·exact h.os
 ·exact h.tape
 ·exact h.output
 ·exact h.size
 ·exact h.keep
 ·exact h.len
 ·exact h.nodef
 ·exact h.xblk
 ·exact h.ambB
 ·exact h.ambI
 ·exact h.frz
 ·exact h.ambF
 exact h.pin
theorem yA {w0:Base} (h:CO w0 FA UA N w a E blk FS US) {cells cs:List TV} (hp:E.place r q j=some (.sl true e sz cells)) (ho:MX cs q=true) (hr:E.root r=some cs) (hv:pv w a blk r q j=some v):
  ∃F1 U1 G V,C1 w (.sl true e sz cells) v F1 U1/\(∀b∈US r,b∈V\/b∈U1)/\
   CO w0 FA UA N w a ((E.setRoot r (DL cs q λd=>d.set j .junk)).bump r) blk (Cg (Cg FS r G) .hand (FS .hand++F1)) (Cg (Cg US r V) .hand (US .hand++U1)):=by
 have a4:r≠ .hand:=by
  rintro rfl;simp[St.root,h.nohand]at hr
 unfold St.place at hp;rw[hr]at hp;simp only[Aa]at hp;obtain⟨d,hc,hj⟩:=Aj.1 hp
 have s:∀{v:Value},v.oneCell'=true->C1 w .junk v [] []:=λh=>by simp only[C1];exact⟨h,trivial,trivial⟩
 have inner:∀{ts:List TV} {vs:List Value} {F U:List Nat} (c:Nat) (q':List Nat),Bv w ts vs F U->MX ts (c::q')=true->BN ts (c::q')=some d->∀{x:Value},vs[c]?=some x->∀{ad:Addr},Pg w x q'=some ad->w.cell? (ad.add j)=some v->
   ∃A B C D F1 U1,F=A++F1++B/\U=C++U1++D/\C1 w (.sl true e sz cells) v F1 U1/\Bv w (DL ts (c::q') λd=>d.set j .junk) vs (A++B) (C++D):=by
  intro ts vs F U c q' b0 a5 a0 x k ad b1 a1;obtain⟨vc,b4,n,e1,sz1,rvs,A,B,C,D,F1,U1,h1,h2,h3,rfl,rfl,h4,h5⟩:=gO q' c b0 a5 a0;rw[k]at h1
  injection h1 with h1
  subst h1;obtain⟨v',A2,B2,C2,D2,F2,U2,h6,h7,rfl,rfl,h8⟩:=I1 j h3 hj;have y:v'=v:=by
   obtain⟨ad',n',c',b2,hcell'⟩:=NE h2 j v' h6;have:=h4 ad' n' c' b2;rw[b1]at this
   injection this with this
   subst this;rw[a1]at hcell'
   injection hcell' with hcell'
   exact hcell'.symm
  subst y;refine⟨A++(BO vc++A2),B2++B,C++C2,D2++D,F2,U2,by simp,by simp,h7,?_⟩;have h9:=h8 w .junk v' [] [] (s<|V5 h7) (λ_ _=>rfl) λ_ _=>rfl;rw[P2 h6]at h9;have:=h5 w _ rvs _ _ h2 h9 (λ_ _=>rfl) (λ_ _=>rfl) (λd=>d.set j .junk) rfl;simpa using this
 have o:r.mem=true->∃A B C D F1 U1,FS r=A++F1++B/\US r=C++U1++D/\C1 w (.sl true e sz cells) v F1 U1/\
   ∃f T F,w.heap[blk r]?=some (.cells f T (0,0))/\Bv w (DL cs q λd=>d.set j .junk) f.toList F (C++D)/\A++B=blk r::F:=by
  intro hm;have p:E.boxes r=some cs:=by cases r<;>simp_all [St.root,Root.mem]
  have a6:∀c,BL w a blk r c=w.cell? ((⟨blk r,0,none⟩:Addr).add c):=by intro c;cases r<;>simp_all [BL,Root.mem]
  rcases h.box r hm with⟨h1,_⟩|⟨cs',f,T,F,h1,h2,h3,h4⟩
  ·rw[h1]at p;cases p
  rw[h1]at p
  injection p with p
  subst p;have g:∀c u,f.toList[c]?=some u->w.cell? ((⟨blk r,0,none⟩:Addr).add c)=some u:=by
   intro c u hu;have hu':f[c]?=some u:=by simpa using hu
   unfold World.cell?;rw[Hh];simp only[h2];unfold Addr.add;split
   ·rename_i h0;subst h0;simpa using hu'
   simpa using hu'
  cases q with
  |nil=>
   simp only[BN,An]at hc;subst hc;obtain⟨v',A,B,C,D,F1,U1,h5,h6,rfl,hU,h7⟩:=I1 j h3 hj;have y:v'=v:=by
    simp only[pv]at hv;rw[a6,g j v' h5]at hv;injection hv
   subst y;have h8:=h7 w .junk v' [] [] (s<|V5 h6) (λ_ _=>rfl) λ_ _=>rfl;rw[P2 h5]at h8;exact⟨blk r::A,B,C,D,F1,U1,by rw[h4];simp,hU,h6,f,T,A++B,h2,by simpa[DL]using h8,rfl⟩
  |cons c q=>
   simp only[pv]at hv;obtain⟨x,h5,hv⟩:=Aj.1 hv;obtain⟨ad,h6,h7⟩:=Aj.1 hv;rw[a6]at h5;have z:=Du h3;have b3:∃u,f.toList[c]?=some u:=by
    have b5:c<cs'.length:=by
     simp only[BN]at hc;split at hc
     ·rename_i i;exact(Ag.1 i).1
     cases hc
    exact⟨_,Ab<|by omega⟩
   obtain⟨u,hu⟩:=b3;have:u=x:=by
    rw[g c u hu]at h5;injection h5
   subst this;obtain⟨A,B,C,D,F1,U1,rfl,hU,h8,h9⟩:=inner c q h3 ho hc hu h6 h7;exact⟨blk r::A,B,C,D,F1,U1,by rw[h4];simp,hU,h8,f,T,A++B,h2,h9,rfl⟩
 have l:∀n,r= .slot n->∃A B C D F1 U1,FS r=A++F1++B/\US r=C++U1++D/\C1 w (.sl true e sz cells) v F1 U1/\
   EE w a E blk ((E.slots n).withCells<|DL cs q λd=>d.set j .junk) (a.eval<|.tmp n) (A++B) (C++D):=by
  intro n hn;subst hn;have hs:=h.slot n;simp only[St.root,An]at hr;have a7:∀(vs:List Value) (F U:List Nat),CW w a E blk cs vs F U->(∀c:Nat,(a.eval<|.tmp n).cells[c]?=vs[c]?)->
    ∃A B C D F1 U1,F=A++F1++B/\U=C++U1++D/\C1 w (.sl true e sz cells) v F1 U1/\CW w a E blk (DL cs q λd=>d.set j .junk) vs (A++B) (C++D):=by
   intro vs F U hx k
   cases q with
   |nil=>
    simp only[BN,An]at hc;subst hc;obtain⟨v',A,B,C,D,F1,U1,h5,h6,rfl,rfl,h7⟩:=UF j hx hj;have y:v'=v:=by
     simp only[pv,BL]at hv;rw[k,h5]at hv;injection hv
    subst y;have:=h7 .junk [] [] ⟨rfl,rfl⟩;exact⟨A,B,C,D,F1,U1,rfl,rfl,h6,by simpa[DL]using this⟩
   |cons c q=>
    have i:∃o1 e1 s1 cl1,cs[c]?=some (.sl o1 e1 s1 cl1):=by
     simp only[BN]at hc;split at hc
     ·exact⟨_,_,_,_,by assumption⟩
     cases hc
    obtain⟨o1,e1,s1,cl1,i⟩:=i;obtain⟨v',A,B,C,D,F1,U1,h5,h6,rfl,rfl,h7⟩:=UF c hx i;simp only[pv,BL]at hv;rw[k,h5]at hv;simp only[Aa]at hv;obtain⟨ad,h8,h9⟩:=Aj.1 hv;have h10:Bv w [.sl o1 e1 s1 cl1] [v'] F1 U1:=by simp only[Bv];exact⟨v',[],F1,[],U1,[],rfl,by simp,by simp,h6,rfl,rfl,rfl⟩
    have h11:BN [.sl o1 e1 s1 cl1] (0::q)=some d:=by
     simp only[BN,i]at hc;simpa[BN]using hc
    have h12:MX [.sl o1 e1 s1 cl1] (0::q)=true:=by
     simp only[MX,i]at ho;simpa[MX]using ho
    obtain⟨A2,B2,C2,D2,F2,U2,rfl,rfl,h13,h14⟩:=inner 0 q h10 h12 h11 (by rfl) h8 h9;refine⟨A++A2,B2++B,C++C2,D2++D,F2,U2,by simp,by simp,h13,?_⟩;simp only[DL,DJ,Dr]at h14;simp only[Bv]at h14;obtain⟨v2,vs2,G1,G2,V1,V2,hh,hF,hU,h15,rfl,rfl,rfl⟩:=h14
    injection hh with hh _
    subst hh;have:=h7 _ _ _<|G0 h15;simp only[DL,i];simp only[A4]at hF hU;rw[<-hF,<-hU]at this;simpa using this
  cases a2:E.slots n with
  |one t=>
   rw[a2]at hs hr;simp only[SV.cells]at hr;subst hr;simp only[EE]at hs;obtain⟨hx,a8⟩:=hs;have a9:t.isJunk=false:=by
    cases t with
    |junk=>
     cases q with
     |nil=>simp[BN]at hc;subst hc;cases j<;>simp at hj
     |cons c q=>simp[BN]at hc;cases c<;>simp at hc
    |_=>rfl
   obtain⟨A,B,C,D,F1,U1,h1,h2,h3,h4⟩:=a7 [a.eval<|.tmp n] (FS<|.slot n) (US<|.slot n) ⟨_,[],_,[],_,[],rfl,by simp,by simp,hx,rfl,rfl,rfl⟩ (λc=>by rw[a8 a9];simp);refine⟨A,B,C,D,F1,U1,h1,h2,h3,?_⟩;have z:(DL [t] q λd=>d.set j .junk).length=1:=by
    cases q with
    |nil=>simp[DL]
    |cons c q=>
     simp only[DL];split<;>simp
   match hu:DL [t] q λd=>d.set j .junk,z with
   |[t'],_=>
    rw[hu]at h4;obtain⟨v2,vs2,G1,G2,V1,V2,hh,hF,hU,h15,rfl,rfl,rfl⟩:=h4
    injection hh with hh _
    subst hh;simp only[A4]at hF hU;rw[hF,hU];simp only[SV.withCells,EE];exact⟨h15,λ_=>a8 a9⟩
  |agg ts=>
   rw[a2]at hs hr;simp only[SV.cells]at hr;subst hr;simp only[EE]at hs;obtain⟨vs,k,hx⟩:=hs;obtain⟨A,B,C,D,F1,U1,h1,h2,h3,h4⟩:=a7 vs _ _ hx (λc=>by rw[k];simp[Value.cells]);refine⟨A,B,C,D,F1,U1,h1,h2,h3,?_⟩;simp only[SV.withCells,EE];exact⟨vs,k,h4⟩
  |tup ss=>
   rw[a2]at hr;simp only[SV.cells]at hr;subst hr
   cases q with
   |nil=>simp[BN]at hc;subst hc;simp at hj
   |cons c q=>simp[BN]at hc
 have a3:r.mem=true->∀cs0,E.root r=some cs0->(DL cs q λd=>d.set j .junk).length=cs0.length:=by
  intro _ cs0 h0;rw[hr]at h0
  injection h0 with h0
  subst h0
  cases q with
  |nil=>simp[DL]
  |cons c q=>
   simp only[DL];split<;>simp
 have fin:∀A B C D F1 U1,FS r=A++F1++B->US r=C++U1++D->C1 w (.sl true e sz cells) v F1 U1->
   (∀n,r= .slot n->EE w a E blk ((E.slots n).withCells<|DL cs q λd=>d.set j .junk) (a.eval<|.tmp n) (A++B) (C++D))->
   (r.mem=true->∃f T F,w.heap[blk r]?=some (.cells f T (0,0))/\Bv w (DL cs q λd=>d.set j .junk) f.toList F (C++D)/\A++B=blk r::F)->
   ∃F1 U1 G V,C1 w (.sl true e sz cells) v F1 U1/\(∀b∈US r,b∈V\/b∈U1)/\
    CO w0 FA UA N w a ((E.setRoot r<|DL cs q λd=>d.set j .junk).bump r) blk (Cg (Cg FS r G) .hand<|FS .hand++F1) (Cg (Cg US r V) .hand<|US .hand++U1):=by
  intro A B C D F1 U1 h1 h2 h3 h4 h5;exact⟨F1,U1,A++B,C++D,h3,λb hb=>by{rw[h2]at hb;simp at hb⊢;rcases hb with hb|hb|hb<;>simp[hb]},h.out a4 h1 a3 (λb hb=>by rw[h2];simp at hb⊢;rcases hb with hb|hb<;>simp[hb]) (λb hb=>by rw[h2];simp[hb]) h4 h5⟩
 cases hm:r.mem with
 |true=>
  obtain⟨A,B,C,D,F1,U1,h1,h2,h3,h4⟩:=o hm;exact fin A B C D F1 U1 h1 h2 h3 (λn hn=>by subst hn;cases hm) λ_=>h4
 |false=>
  cases r with
  |slot n=>
   obtain⟨A,B,C,D,F1,U1,h1,h2,h3,h4⟩:=l n rfl;exact fin A B C D F1 U1 h1 h2 h3 (λm hm'=>by injection hm' with hm';subst hm';exact h4) λhm'=>by cases hm'
  |hand=>exact absurd rfl a4
  |box n=>cases hm
  |ext n=>cases hm
def Hb (w:World) (a:Act) (E:St) (blk:Root->Nat) (r:Root) (F U:List Nat):Prop:=match r with
 | .slot n=>EE w a E blk (E.slots n) (a.eval<|.tmp n) F U
 | .hand=>True
 |r=>(E.boxes r=none/\F=[]/\U=[])\/∃cs b T F0,E.boxes r=some cs/\w.heap[blk r]?=some (.cells b T (0,0))/\Bv w cs b.toList F0 U/\F=blk r::F0
theorem Cr.trans {w1 w3:World} {a1 a2 a3:Act} {E2 E3:St} {b1 b2 b3:Root->Nat} (h:Cr w1 w2 a1 a2 E1 E2 b1 b2 r) (k:Cr w2 w3 a2 a3 E2 E3 b2 b3 r):Cr w1 w3 a1 a3 E1 E3 b1 b3 r:=by
 constructor
 ·rcases h.views with h|⟨h1,h2,h3⟩<;>rcases k.views with k|⟨k1,k2,k3⟩
  ·exact .inl<|by omega
  ·exact .inl<|by omega
  ·exact .inl<|by omega
  refine .inr ⟨by omega,λq j v hv hs=>?_,λq j ad hn hv hq=>?_⟩
  ·obtain⟨h4,h5⟩:=h2 q j v hv hs;exact k2 q j v h4 h5
  obtain⟨h4,h5⟩:=h3 q j ad hn hv hq;exact k3 q j ad hn h4 h5
 rcases h.addrs with h|⟨h1,h2⟩<;>rcases k.addrs with k|⟨k1,k2⟩
 ·exact .inl<|by omega
 ·exact .inl<|by omega
 ·exact .inl<|by omega
 refine .inr ⟨by omega,λj ad hv hs=>?_⟩;obtain⟨h4,h5⟩:=h2 j ad hv hs;exact k2 j ad h4 h5
theorem Cr.refl {blk:Root->Nat}:Cr w w a a E E blk blk r:=
 ⟨.inr ⟨rfl,λ_ _ _ h k=>⟨h,k⟩,λ_ _ _ _ h k=>⟨h,k⟩⟩,.inr ⟨rfl,λ_ _ h k=>⟨h,k⟩⟩⟩
theorem CO.root {w0:Base} (h:CO w0 FA UA N w a E blk FS US) (r:Root):Hb w a E blk r (FS r) (US r):=by
 cases r with
 |slot n=>exact h.slot n
 |hand=>trivial
 |box n=>exact h.box (.box n) rfl
 |ext n=>exact h.box (.ext n) rfl
theorem RT (hs:∀s,Cr w w' a a' E E' blk blk' s) (h:Hb w a E blk r F U) (f:∀n,r= .slot n->E'.slots n=E.slots n/\a'.eval (.tmp n)=a.eval (.tmp n)) (e:r.mem=true->E'.boxes r=E.boxes r/\blk' r=blk r) (hF:∀b∈F,w'.heap[b]?=w.heap[b]?) (hU:∀b∈U,w'.heap[b]?=w.heap[b]?):Hb w' a' E' blk' r F U:=by
 have d:∀r:Root,r.mem=true->(E'.boxes r=E.boxes r/\blk' r=blk r)->((E.boxes r=none/\F=[]/\U=[])\/∃cs c T F0,E.boxes r=some cs/\w.heap[blk r]?=some (.cells c T (0,0))/\Bv w cs c.toList F0 U/\F=blk r::F0)->
   ((E'.boxes r=none/\F=[]/\U=[])\/∃cs c T F0,E'.boxes r=some cs/\w'.heap[blk' r]?=some (.cells c T (0,0))/\Bv w' cs c.toList F0 U/\F=blk' r::F0):=by
  intro r hm hb h;obtain⟨h1,h2⟩:=hb;rw[h1,h2]
  rcases h with h|⟨cs,c,T,F0,h3,h4,h5,rfl⟩
  ·exact .inl h
  exact .inr ⟨cs,c,T,F0,h3,(hF _<|by simp).trans h4,Ge h5 (λb hb=>hF b<|by simp[hb]) hU,rfl⟩
 cases r with
 |slot n=>
  obtain⟨h1,h2⟩:=f n rfl;simp only[Hb]at h⊢;rw[h1,h2];exact Ig hs h hF hU
 |hand=>trivial
 |box n=>exact d (.box n) rfl (e rfl) h
 |ext n=>exact d (.ext n) rfl (e rfl) h
theorem CO.two {w0:Base} {r1 r2:Root} {L1 L2 V1 V2:List Nat} (h:CO w0 FA UA N w a E blk FS US) (h9:r1≠r2) (a8:(L1++L2).Nodup) (hL:∀b∈L1++L2,(b∈FS r1\/b∈FS r2\/w.heap.size<=b)/\b<w'.heap.size) (hV:∀b∈V1++V2,(∃s,b∈US s)\/((b∈FS r1\/b∈FS r2\/w.heap.size<=b)/\b∉L1++L2/\b<w'.heap.size)) (j:w.heap.size<=w'.heap.size) (a9:w'.os=w.os) (h3:w'.tape=w.tape) (a0:w'.output=w.output) (f:∀b,b<w.heap.size->b∉FS r1->b∉FS r2->w'.heap[b]?=w.heap[b]?) (b0:∀s,Cr w w' a a' E E' blk blk' s) (v:∀n,Root.slot n≠r1->Root.slot n≠r2->E'.slots n=E.slots n/\a'.eval (.tmp n)=a.eval (.tmp n)) (x:∀s,s.mem=true->s≠r1->s≠r2->E'.boxes s=E.boxes s/\blk' s=blk s) (h1:Hb w' a' E' blk' r1 L1 V1) (h2:Hb w' a' E' blk' r2 L2 V2) (h4:E'.boxes .hand=none) (a1:N<=a'.tmps.size) (a2:a'.defers=[]) (hx:∀i,blk' (.ext i)=blk (.ext i):=by first|(intro i;rfl)|(intro i;simp[Cg])) (hfz:∀n,E'.fz=some n->Frz w0 a' n:=by first|exact h.frz|(intro n hn;(try simp only[Rd,Ii]at hn);exact h.frz n hn)|(intro n hn;(try simp only[Rd,Ii]at hn);obtain⟨k1,k2⟩:=aG hn;(try simp only[Rd,Ii]at k1);exact(h.frz n k1).same (Dx k2))) (hamb:E'.amb=E.amb:=by first|rfl|(simp only[Lb,Ew];done)|(simp only[ABx,Lb,Ew];done)):
  CO w0 FA UA N w' a' E' blk' (Cg (Cg FS r1 L1) r2 L2) (Cg (Cg US r1 V1) r2 V2):=by
 have eF1:Cg (Cg FS r1 L1) r2 L2 r1=L1:=by rw[Bt h9,BK]
 have eF2:Cg (Cg FS r1 L1) r2 L2 r2=L2:=BK _ _ _
 have eF:∀s,s≠r1->s≠r2->Cg (Cg FS r1 L1) r2 L2 s=FS s:=λs h1 h2=>by rw[Bt h2,Bt h1]
 have eU1:Cg (Cg US r1 V1) r2 V2 r1=V1:=by rw[Bt h9,BK]
 have eU2:Cg (Cg US r1 V1) r2 V2 r2=V2:=BK _ _ _
 have eU:∀s,s≠r1->s≠r2->Cg (Cg US r1 V1) r2 V2 s=US s:=λs h1 h2=>by rw[Bt h2,Bt h1]
 obtain⟨a3,a4,z⟩:=BR.1 a8
 have a5:∀b∈L1,b∈L1++L2:=λb hb=>AI _ hb
 have a6:∀b∈L2,b∈L1++L2:=λb hb=>AU _ hb
 have g:∀s,s≠r1->s≠r2->∀b∈FS s,b∉L1++L2:=by
  intro s c d b hb h5
  rcases(hL b h5).1 with hx|hx|hx
  ·exact h.dis s r1 c b hb hx
  ·exact h.dis s r2 d b hb hx
  have:=(h.inF s b hb).2;omega
 have m:∀s,∀b∈US s,b∉L1++L2:=by
  intro s b hb h5
  rcases(hL b h5).1 with hx|hx|hx
  ·exact h.disU r1 s b hx hb
  ·exact h.disU r2 s b hx hb
  have:=(h.inU s b hb).2;omega
 have h6:∀s,s≠r1->s≠r2->∀b∈FS s,w'.heap[b]?=w.heap[b]? :=λs c d b hb=>f b (h.inF s b hb).2 (λe=>h.dis s r1 c b hb e) λe=>h.dis s r2 d b hb e
 have y:∀s,∀b∈US s,w'.heap[b]?=w.heap[b]? :=λs b hb=>f b (h.inU s b hb).2 (λe=>h.disU r1 s b e hb) λe=>h.disU r2 s b e hb
 have h0:∀r,Hb w' a' E' blk' r (Cg (Cg FS r1 L1) r2 L2 r) (Cg (Cg US r1 V1) r2 V2 r):=by
  intro r;by_cases k:r=r1
  ·subst k;rw[eF1,eU1];exact h1
  by_cases l:r=r2
  ·subst l;rw[eF2,eU2];exact h2
  rw[eF r k l,eU r k l];exact RT b0 (h.root r) (λn hn=>v n (hn▸k)<|hn▸l) (λhm=>x r hm k l) (h6 r k l)<|y r
 have o:∀s,∀b∈Cg (Cg FS r1 L1) r2 L2 s,b∈L1++L2\/(s≠r1/\s≠r2/\b∈FS s):=by
  intro s b hb;by_cases d:s=r2
  ·subst d;rw[eF2]at hb;exact .inl<|a6 b hb
  by_cases c:s=r1
  ·subst c;rw[eF1]at hb;exact .inl<|a5 b hb
  rw[eF s c d]at hb;exact .inr ⟨c,d,hb⟩
 have p:∀s,∀b∈Cg (Cg US r1 V1) r2 V2 s,(∃t,b∈US t)\/((b∈FS r1\/b∈FS r2\/w.heap.size<=b)/\b∉L1++L2/\b<w'.heap.size):=by
  intro s b hb;by_cases d:s=r2
  ·subst d;rw[eU2]at hb;exact hV b<|AU _ hb
  by_cases c:s=r1
  ·subst c;rw[eU1]at hb;exact hV b<|AI _ hb
  rw[eU s c d]at hb;exact .inl ⟨s,hb⟩
 constructor
 ·intro n;exact h0<|.slot n
 ·intro r hr;have:=h0 r;cases r<;>first|exact this|cases hr
 ·exact h4
 ·intro s;by_cases d:s=r2
  ·subst d;rw[eF2];exact a4
  by_cases c:s=r1
  ·subst c;rw[eF1];exact a3
  rw[eF s c d];exact h.nodup s
 ·intro s s' q b hb hb';by_cases d:s=r2
  ·subst d;rw[eF2]at hb;by_cases hs1':s'=r1
   ·subst hs1';rw[eF1]at hb';exact z b hb' b hb rfl
   rw[eF s' hs1'<|Fk q]at hb';exact g s' hs1' (Fk q) b hb'<|a6 b hb
  by_cases c:s=r1
  ·subst c;rw[eF1]at hb;by_cases hs2':s'=r2
   ·subst hs2';rw[eF2]at hb';exact z b hb b hb' rfl
   rw[eF s' (Fk q) hs2']at hb';exact g s' (Fk q) hs2' b hb'<|a5 b hb
  rw[eF s c d]at hb
  rcases o s' b hb' with hx|⟨_,_,hx⟩
  ·exact g s c d b hb hx
  exact h.dis s s' q b hb hx
 ·intro s s' b hb hb'
  rcases o s b hb with hx|⟨c,d,hx⟩
  ·rcases p s' b hb' with⟨t,hy⟩|⟨_,hy,_⟩
   ·exact m t b hy hx
   exact hy hx
  rcases p s' b hb' with⟨t,hy⟩|⟨hy|hy|hy,_,_⟩
  ·exact h.disU s t b hx hy
  ·exact h.dis s r1 c b hx hy
  ·exact h.dis s r2 d b hx hy
  have:=(h.inF s b hx).2;omega
 ·intro s b hb
  rcases o s b hb with hx|⟨c,d,hx⟩
  ·obtain⟨hy,h7⟩:=hL b hx;refine⟨?_,h7⟩
   rcases hy with hy|hy|hy
   ·exact(h.inF r1 b hy).1
   ·exact(h.inF r2 b hy).1
   exact .inr<|JF h.size hy
  exact⟨(h.inF s b hx).1,AX (h.inF s b hx).2 j⟩
 ·intro s b hb
  rcases p s b hb with⟨t,hy⟩|⟨hy,_,h7⟩
  ·exact⟨(h.inU t b hy).1,AX (h.inU t b hy).2 j⟩
  refine⟨.inr ?_,h7⟩
  rcases hy with hy|hy|hy
  ·exact(h.inF r1 b hy).1
  ·exact(h.inF r2 b hy).1
  exact .inr<|JF h.size hy
 ·exact h.disA
 ·exact a9.trans h.os
 ·exact h3.trans h.tape
 ·exact a0.trans h.output
 ·exact JF h.size j
 ·intro b hb a7 b1
  have u:∀r,b∉FS r:=λr h8=>by
   rcases(h.inF r b h8).1 with hx|hx
   ·exact a7 hx
   omega
  rw[f b (AX hb h.size) (u r1)<|u r2];exact h.keep b hb a7 b1
 ·exact a1
 ·exact a2
 ·exact λi=>(hx i).trans<|h.xblk i
 ·rw[hamb];exact h.ambB
 ·rw[hamb]
  refine E.amb.st w w' h.ambI λb hb=>?_
  rw[<-h.ambB]at hb;obtain⟨b2,b3,_⟩:=h.ambF b hb
  have u:∀r,b∉FS r:=λr h8=>by
   rcases(h.inF r b h8).1 with hx|hx
   ·exact b3 hx
   omega
  exact f b (AX b2 h.size) (u r1)<|u r2
 ·exact hfz
 ·exact h.ambF
 rw[hamb];exact h.pin
theorem Qc {w0:Base} {t x:TV} (h:CO w0 FA UA N w a E blk FS US) (hc:CT w a E blk t v [] U) (hU:∀b∈U,∃r,b∈US r) (ht:DM E t=some (x,E')):
  ∃FS' US' F1 U1,C1 w x v F1 U1/\CO w0 FA UA N w a E' blk FS' US'/\FS' .hand=FS .hand++F1/\US' .hand=US .hand++U1/\(∀s,Cr w w a a E E' blk blk s)/\(∀s b,b∈US s->∃s',b∈US' s'):=by
 have h1:∀(s:Root) (b:Nat) (U1:List Nat),b∈US s->∃s',b∈Cg US .hand (US .hand++U1) s':=by
  intro s b U1 hb;by_cases hs:s= .hand
  ·subst hs;exact⟨.hand,by rw[BK];simp[hb]⟩
  exact⟨s,by rw[Bt hs];exact hb⟩
 have copy:∀{x:TV} {U1:List Nat},C1 w x v [] U1->(∀b∈U1,∃r,b∈US r)->E'=E->
   ∃FS' US' F1 U1,C1 w x v F1 U1/\CO w0 FA UA N w a E' blk FS' US'/\FS' .hand=FS .hand++F1/\US' .hand=US .hand++U1/\(∀s,Cr w w a a E E' blk blk s)/\(∀s b,b∈US s->∃s',b∈US' s'):=by
  rintro x U1 hr h2 rfl;exact⟨FS,_,[],U1,hr,h.handU h2,by simp,by rw[BK],λs=>Cr.refl,λs b hb=>h1 s b U1 hb⟩
 cases t with
 |int k n=>
  simp only[DM,An,Bo]at ht;obtain⟨rfl,rfl⟩:=ht;exact copy hc hU rfl
 |bool b=>
  simp only[DM,An,Bo]at ht;obtain⟨rfl,rfl⟩:=ht;exact copy hc hU rfl
 |str s=>
  simp only[DM,An,Bo]at ht;obtain⟨rfl,rfl⟩:=ht;exact copy hc hU rfl
 |fn f ta cap=>
  simp only[DM,An,Bo]at ht;obtain⟨rfl,rfl⟩:=ht;exact copy hc hU rfl
 |adr _=>
  simp only[DM,An,Bo]at ht;obtain⟨rfl,rfl⟩:=ht;exact copy hc hU rfl
 |hdr _ _ _=>
  simp only[DM,An,Bo]at ht;obtain⟨rfl,rfl⟩:=ht;exact copy hc hU rfl
 |ptr r ver q j=>simp[DM]at ht
 |junk=>simp[DM]at ht
 |sl o e sz g=>
  simp only[DM]at ht;simp only[An,Bo]at ht;obtain⟨rfl,rfl⟩:=ht;exact copy hc hU rfl
 |view r ver q j=>
  obtain⟨_,_,_,h3⟩:=hc;simp only[DM,pL]at ht;split at ht
  ·rename_i m;obtain⟨p,_⟩:=h3 m;split at ht
   ·rename_i e sz g l;split at ht
    ·rename_i u;split at ht
     ·rename_i cs d;simp only[An,Bo]at ht;obtain⟨rfl,rfl⟩:=ht;have h4:MX cs q=true:=by simpa[St.ownAt,d]using u
      have h8:r≠ .hand:=by
       rintro rfl;simp[St.root,h.nohand]at d
      obtain⟨F1,U1,G,V,hr,h5,y⟩:=yA h l h4 d p
      have i:∀s,Cr w w a a E ((E.setRoot r<|DL cs q λh6=>h6.set j .junk).bump r) blk blk s:=λs=>Zb (λ_ cs0 h0=>by
       rw[d]at h0
       injection h0 with h0
       subst h0
       cases q with
       |nil=>simp[DL]
       |cons c q=>
        simp only[DL]
        split<;>simp) s
      refine⟨_,_,F1,U1,hr,y,by rw[BK],by rw[BK],i,λs b hb=>?_⟩;by_cases hs:s= .hand
      ·subst hs;exact⟨.hand,by rw[BK];simp[hb]⟩
      by_cases z:s=r
      ·subst z
       rcases h5 b hb with hx|hx
       ·exact⟨s,by rw[Bt hs,BK];exact hx⟩
       exact⟨.hand,by rw[BK];simp[hx]⟩
      exact⟨s,by rw[Bt hs,Bt z];exact hb⟩
     cases ht
    cases ht
   ·rename_i e sz g l;simp only[An,Bo]at ht;obtain⟨rfl,rfl⟩:=ht;obtain⟨F,U2,hr,_,h7⟩:=Oh h l p;have hF:=Gu hr (by simp);subst hF;exact copy hr (λb hb=>⟨r,h7 b hb⟩) rfl
   cases ht
  cases ht
theorem f8:∀(cs:List TV) (q:List Nat),BN (DL cs q f) q=(BN cs q).map f
 |cs,[]=>rfl
 |cs,c::q=>by
  simp only[DL,BN]
  cases h:cs[c]? with
  |none=>simp[h]
  |some t=>
   cases t with
   |sl o e sz cells=>
    have a:c<cs.length:=by
     rcases DX c cs.length with h1|h1
     ·exact h1
     rw[Hw h1]at h;cases h
    simp only[Cz,BQ,Ay a];exact f8 cells q
   |_=>simp[h]
theorem xK (hf:∀l,(f l).length=l.length) (cs:List TV) (q:List Nat):(DL cs q f).length=cs.length:=by
 cases q with
 |nil=>exact hf cs
 |cons c q=>
  simp only[DL];split
  ·simp
  rfl
theorem vD {ver j':Nat} {x:TV} (h:DM E (.view r ver q j)=some (x,E1)) (hj:j'≠j):E1.place r q j'=E.place r q j':=by
 simp only[DM,pL]at h;split at h
 ·split at h
  ·rename_i e sz cells g;split at h
   ·split at h
    ·rename_i cs a;simp only[An,Bo]at h;obtain⟨rfl,rfl⟩:=h;have c:(DL cs q λb=>b.set j .junk).length=cs.length:=xK (λl=>by simp) cs q;have f:((E.setRoot r<|DL cs q λb=>b.set j .junk).bump r).root r=some (DL cs q λb=>b.set j .junk):=by
      rw[PS];generalize DL cs q (λb=>b.set j .junk)=X at c
      cases r with
      |slot n=>
       simp only[St.root,An]at a;simp only[St.setRoot,St.root,Cg,BQ,An]
       cases d:E.slots n with
       |one t=>
        rw[d]at a;simp only[SV.cells]at a;subst a
        match X,c with
        |[y],_=>rfl
       |agg ts=>rfl
       |tup ss=>
        rw[d]at a;simp only[SV.cells]at a;subst a
        match X,c with
        |[],_=>rfl
      |box n=>exact Ms rfl
      |ext n=>exact Ms rfl
      |hand=>simp[St.setRoot,St.root,Cg]
     simp only[St.place,f,a,Aa,f8]
     cases BN cs q with
     |none=>rfl
     |some b=>simp only[Bx,Aa,Cz,Av<|Fk hj]
    cases h
   cases h
  ·simp only[An,Bo]at h;rw[<-h.2]
  cases h
 cases h
theorem ABt {t x u:TV} (ht:DM E t=some (x,E1)) (hs:∀r,Cr w w a a E E1 blk blk r) (h:CT w a E blk u v F U):CT w a E1 blk (rst E E1 t u) v F U:=by
 have h0:=Ra hs h (λ_ _=>rfl) λ_ _=>rfl
 cases t with
 |view r ver q j=>
  cases u with
  |view r' v' q' j'=>
   simp only[rst];split
   ·rename_i hc;obtain⟨rfl,h1,rfl,h2⟩:=hc;obtain⟨rfl,rfl,h3,h4⟩:=h;obtain⟨h5,h6⟩:=h4 h1;exact⟨rfl,rfl,Au _,λ_=>⟨h5,by rw[vD ht h2];exact h6⟩⟩
   exact h0
  |_=>exact h0
 |_=>exact h0
theorem mS {t x:TV} (ht:DM E t=some (x,E1)) (hs:∀r,Cr w w a a E E1 blk blk r):∀{us:List TV} {vs:List Value} {F U:List Nat},CW w a E blk us vs F U->CW w a E1 blk (us.map (rst E E1 t)) vs F U
 |[],_,_,_,h=>h
 |u::us,vs,F,U,h=>by
  obtain⟨v,b,F1,F2,U1,U2,h1,h2,h3,h4,h5⟩:=h;exact⟨v,b,F1,F2,U1,U2,h1,h2,h3,ABt ht hs h4,mS ht hs h5⟩
theorem Mb {w0:Base}:∀(n:Nat) {ts xs:List TV} {vs:List Value} {U:List Nat} {E E':St} {FS US:Root->List Nat},ts.length=n->CO w0 FA UA N w a E blk FS US->CW w a E blk ts vs [] U->(∀b∈U,∃r,b∈US r)->Fy E ts=some (xs,E')->
  ∃FS' US' F1 U1,Bv w xs vs F1 U1/\CO w0 FA UA N w a E' blk FS' US'/\FS' .hand=FS .hand++F1/\US' .hand=US .hand++U1/\(∀s,Cr w w a a E E' blk blk s)/\(∀s b,b∈US s->∃s',b∈US' s')
 |_,[],xs,vs,U,E,E',FS,US,hn,h,hc,hU,ht=>by
  simp only[bV,An,Bo]at ht;obtain⟨rfl,rfl⟩:=ht;obtain⟨rfl,_,rfl⟩:=hc;exact⟨FS,US,[],[],by simp[Bv],h,by simp,by simp,λs=>Cr.refl,λs b hb=>⟨s,hb⟩⟩
 |0,t::ts,xs,vs,U,E,E',FS,US,hn,h,hc,hU,ht=>by cases hn
 |n+1,t::ts,xs,vs,U,E,E',FS,US,hn,h,hc,hU,ht=>by
  rw[RA]at ht;obtain⟨v,c,F1,F2,U1,U2,rfl,hF,rfl,h1,h2⟩:=hc;have hF':=JH.1 hF.symm;obtain⟨rfl,rfl⟩:=hF';split at ht
  ·rename_i x E1 hx;split at ht
   ·rename_i xs' E2 d;simp only[An,Bo]at ht;obtain⟨rfl,rfl⟩:=ht;obtain⟨FSa,USa,Fa,Ua,a1,a2,a3,a4,a5,a6⟩:=Qc h h1 (λb hb=>hU b<|by simp[hb]) hx
    obtain⟨FSb,USb,Fb,Ub,b1,b2,b3,b4,b5,b6⟩:=Mb n (by simpa using hn) a2 (mS hx a5 h2) (λb hb=>by
     obtain⟨r,hr⟩:=hU b<|by simp[hb]
     exact a6 r b hr) d
    refine⟨FSb,USb,Fa++Fb,Ua++Ub,?_,b2,by rw[b3,a3,Ax],by rw[b4,a4,Ax],λs=>(a5 s).trans<|b5 s,λs b hb=>?_⟩
    ·simp only[Bv];exact⟨v,c,Fa,Fb,Ua,Ub,rfl,rfl,rfl,a1,b1⟩
    obtain⟨s',hs'⟩:=a6 s b hb;exact b6 s' b hs'
   cases ht
  cases ht
theorem Vg {w0:Base} {s:Root} (h:CO w0 FA UA N w a E blk FS US) (k:E'.ver s=E.ver s) (l:E'.gen s=E.gen s) (f:E'.root s=E.root s) (d:∀c u,BL w a blk s c=some u->BL w' a' blk' s c=some u) (e:s.mem=true->blk' s=blk s) (hF:∀b∈FS s,w'.heap[b]?=w.heap[b]?) (hU:∀b∈US s,w'.heap[b]?=w.heap[b]?):Cr w w' a a' E E' blk blk' s:=by
 have g:∀q j,E'.place s q j=E.place s q j:=λq j=>by simp only[St.place,f]
 have m:∀q j ad,pa w a blk s q j=some ad->(E.place s q j).isSome=true->pa w' a' blk' s q j=some ad:=?_;refine⟨.inr ⟨k,λq j v hv hs=>⟨?_,by rw[g];exact hs⟩,λq j ad _ hv hs=>⟨m q j ad hv hs,by rw[g];exact hs⟩⟩,.inr ⟨l,λj ad hv hs=>⟨m [] j ad hv hs,by rw[g];exact hs⟩⟩⟩
 ·cases q with
  |nil=>exact d j v hv
  |cons c q=>
   unfold St.place at hs
   cases hr:E.root s with
   |none=>simp[hr,Ll]at hs
   |some cs=>
    rw[hr]at hs;simp only[Aa]at hs
    cases hc:BN cs (c::q)with
    |none=>simp[hc,Ll]at hs
    |some row=>
     rw[hc]at hs;simp only[Aa]at hs;obtain⟨rvs,F1,U1,h1,h2,h3,i,h4,h5⟩:=Qr h hr hc
     cases hj:row[j]? with
     |none=>simp[hj,Ll]at hs
     |some t=>
      have hl:=Du h1;have o:=(Ag.1 hj).1;obtain⟨ad,hk⟩:=h5 j _ (Ab<|by omega);obtain⟨k1,k2⟩:=hk w (λ_ _=>rfl) λ_ _=>rfl;obtain⟨k3,k4⟩:=hk w' hF hU;simp only[pv,h4,Aa,k1,k2]at hv;simp only[pv,d c i h4,Aa,k3,k4];exact hv
 intro q j ad hv hs
 cases q with
 |nil=>
  simp only[pa]at hv⊢
  cases s with
  |slot n=>cases hv
  |box n=>simp only[e rfl];exact hv
  |ext n=>simp only[e rfl];exact hv
  |hand=>cases hv
 |cons c q=>
  unfold St.place at hs
  cases hr:E.root s with
  |none=>simp[hr]at hs
  |some cs=>
   rw[hr]at hs;simp only[Aa]at hs
   cases hc:BN cs (c::q)with
   |none=>simp[hc]at hs
   |some row=>
    rw[hc]at hs;simp only[Aa]at hs;obtain⟨rvs,F1,U1,h1,h2,h3,i,h4,h5⟩:=Qr h hr hc
    cases hj:row[j]? with
    |none=>simp[hj]at hs
    |some t=>
     have hl:=Du h1;have o:=(Ag.1 hj).1;obtain⟨ad',hk⟩:=h5 j _ (Ab<|by omega);obtain⟨k1,k2⟩:=hk w (λ_ _=>rfl) λ_ _=>rfl;obtain⟨k3,k4⟩:=hk w' hF hU;simp only[pa,h4,Aa,k1]at hv;simp only[pa,d c i h4,Aa,k3];exact hv
theorem RU {s:Root} (d:∀n,s= .slot n->a'.eval (.tmp n)=a.eval (.tmp n)) (b:s.mem=true->blk' s=blk s/\w'.heap[blk s]?=w.heap[blk s]?) (hh:s≠ .hand) (c:Nat) (u:Value):
  BL w a blk s c=some u->BL w' a' blk' s c=some u:=by
 cases s with
 |slot n=>simp only[BL,d n rfl];exact id
 |box n=>
  obtain⟨h1,h2⟩:=b rfl;simp only[BL,h1];intro h;rw[<-h];exact World.cell?_of_block (by rw[Hh];exact h2)
 |ext n=>
  obtain⟨h1,h2⟩:=b rfl;simp only[BL,h1];intro h;rw[<-h];exact World.cell?_of_block (by rw[Hh];exact h2)
 |hand=>exact absurd rfl hh
theorem Gl {s:Root} {blk blk':Root->Nat} (b:E'.ver s=E.ver s) (c:E'.gen s=E.gen s) (hr:E.root s=none):Cr w w' a a' E E' blk blk' s:=by
 refine⟨.inr ⟨b,λq j v hv hs=>?_,λq j ad _ hv hs=>?_⟩,.inr ⟨c,λj ad hv hs=>?_⟩⟩
 ·simp[St.place,hr,Ll]at hs
 ·simp[St.place,hr]at hs
 simp[St.place,hr]at hs
theorem Ej {w0:Base} {s:Root} (h:CO w0 FA UA N w a E blk FS US) (c:E'.ver s=E.ver s) (d:E'.gen s=E.gen s) (f:E'.root s=E.root s) (i:∀n,s= .slot n->a'.eval (.tmp n)=a.eval (.tmp n)) (g:s.mem=true->blk' s=blk s) (hF:∀b∈FS s,w'.heap[b]?=w.heap[b]?) (hU:∀b∈US s,w'.heap[b]?=w.heap[b]?):Cr w w' a a' E E' blk blk' s:=by
 by_cases hh:s= .hand
 ·subst hh;exact Gl c d<|by simp[St.root,h.nohand]
 by_cases hm:s.mem=true
 ·cases hb:E.boxes s with
  |none=>
   have hr:E.root s=none:=by cases s<;>simp_all [St.root,Root.mem]
   exact Gl c d hr
  |some cs=>
   refine Vg h c d f (RU i (λ_=>⟨g hm,?_⟩) hh) g hF hU
   rcases h.box s hm with⟨h1,_⟩|⟨cs',j,T,F,_,_,_,h4⟩
   ·rw[h1]at hb;cases hb
   exact hF _ (by rw[h4];exact CZ)
 exact Vg h c d f (RU i (λe=>absurd e hm) hh) (λe=>absurd e hm) hF hU
def St.newBox (E:St) (d:Nat) (xs:List TV):St:=let E1:St:={E with boxes:=Cg E.boxes (.box d)<|some xs,ver:=Cg E.ver (.box d)<|E.ver (.box d)+1,gen:=Cg E.gen (.box d) (E.gen (.box d)+1)}
 E1.put (some d) (.one<|.ptr (.box d) (E1.gen<|.box d) [] 0)
theorem CO.newBox {w0:Base} {xs:List TV} {T:TypeId} (h:CO w0 FA UA N w a E blk FS US) (hd:d<N) (k:xs≠ []) (hr:Bv w xs vs (FS .hand) (US .hand)):
  ∃blk' FS' US',CO w0 FA UA N (w.alloc (.cells vs.toArray T)) (a.put (some d) (.pointer (some ⟨w.heap.size,0,none⟩))) (E.newBox d xs) blk' FS' US'/\FS' .hand=[]/\US' .hand=[]:=by
 let E1:St:={E with boxes:=Cg E.boxes (.box d)<|some xs,ver:=Cg E.ver (.box d)<|E.ver (.box d)+1,gen:=Cg E.gen (.box d) (E.gen (.box d)+1)}
 let blk1:=Cg blk (.box d) w.heap.size
 let w1:=w.alloc<|.cells vs.toArray T
 have p:w1.heap.size=w.heap.size+1:=by simp[w1]
 have g:w1.heap[w.heap.size]?=some (.cells vs.toArray T (0,0)):=by
  show(w.heap.push _)[w.heap.size]?=_;simp
 have c:∀b,b<w.heap.size->w1.heap[b]?=w.heap[b]? :=λb hb=>Below.heap_alloc _ _ _ hb
 have l:Root.box d≠Root.hand:=by simp
 have m:∀s,Cr w w1 a a E E1 blk blk1 s:=by
  intro s;by_cases hs:s= .box d
  ·subst hs;exact⟨.inl (by simp[E1,Cg]),.inl<|by simp[E1,Cg]⟩
  have hv:E1.ver s=E.ver s:=by simp[E1,Cg,hs]
  have hg:E1.gen s=E.gen s:=by simp[E1,Cg,hs]
  refine Ej h hv hg ?_ (λ_ _=>rfl) (λ_=>by simp[blk1,Cg,hs]) (λb hb=>c b (h.inF s b hb).2) λb hb=>c b (h.inU s b hb).2;cases s<;>simp_all [E1,St.root,Cg]
 have f:∀b∈FS .hand,b<w.heap.size:=λb hb=>(h.inF .hand b hb).2
 have i:∀b∈US .hand,b<w.heap.size:=λb hb=>(h.inU .hand b hb).2
 have h1:=h.two (w':=w1) (a':=a) (E':=E1) (blk':=blk1) (r1:= .box d) (r2:= .hand) (L1:=w.heap.size::FS .hand) (L2:=[]) (V1:=US .hand) (V2:=[]) l
  (by
   simp only[A4,Di]
   exact⟨λe=>FE _<|f _ e,h.nodup _⟩)
  (by
   intro b hb;simp only[A4,CC]at hb
   rcases hb with rfl|hb
   ·exact⟨.inr<|.inr<|Au _,by omega⟩
   exact⟨.inr<|.inl hb,by have:=f b hb;omega⟩)
  (by
   intro b hb;simp only[A4]at hb
   exact .inl ⟨_,hb⟩)
  (by omega) rfl rfl rfl (λb hb _ _=>c b hb) m
  (λn _ _=>⟨rfl,rfl⟩)
  (λs _ hs _=>⟨by simp[E1,Cg,hs],by simp[blk1,Cg,hs]⟩)
  (by
   refine .inr ⟨xs,vs.toArray,T,FS .hand,by simp[E1,Cg],by simp[blk1,Cg,g],?_,by simp[blk1,Cg]⟩
   simpa using Ge hr (λb hb=>c b<|f b hb) λb hb=>c b<|i b hb)
  trivial (by simp[E1,Cg,h.nohand]) h.len h.nodef
 have o:EE w1 a E1 blk1 (.one<|.ptr (.box d) (E1.gen<|.box d) [] 0) (.pointer<|some ⟨w.heap.size,0,none⟩) [] []:=by
  have j:E1.stamp (.box d) []=E1.gen (.box d):=rfl;rw[<-j];refine V9 ?_ ?_
  ·cases xs with
   |nil=>exact absurd rfl k
   |cons x xs=>simp[St.place,St.root,E1,Cg,BN]
  simp[pa,blk1,Cg,Addr.add]
 have h2:=h1.put (d:=d) hd o bP.none;refine⟨blk1,_,_,h2,?_,?_⟩
 ·rw[Bt (by simp),BK]
 rw[Bt (by simp),BK]
end Go.TI
