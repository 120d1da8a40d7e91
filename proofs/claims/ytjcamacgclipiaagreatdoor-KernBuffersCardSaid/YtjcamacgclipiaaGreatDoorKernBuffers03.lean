/- Part of the proof of: The law KernBuffers returns true for every input, and leaves its arguments as they were. -/
import Derived.Test.YtjcamacgclipiaaGreatDoorKernBuffers02
set_option linter.all false
set_option maxRecDepth 20000
set_option maxHeartbeats 4000000
namespace Go.Proofs.YtjcamacgclipiaaGreatDoor
open Go.Proofs.Tryz
open Go.IntKind (i64 u64)
open _root_.Bool (and_eq_true)
open _root_.Nat (eq_of_beq_eq_true)
section
open Go
namespace Mb
structure ZT (A X:Prop):Prop where
 go:X->A
structure StL (P:Program) (X:Cx) (q:List Nat) (ops:Array Oper) (l:List Oper) (ρ:Env) (h:Hp) (L:Bx) (K:fH):Prop where
 go:EvL P X ops l ρ h L K
structure StC (P:Program) (X:Cx) (q:List Nat) (c:Code) (ρ:Env) (h:Hp) (L:Bx) (K:fH):Prop where
 go:Ev P X c ρ h L K
def nth {α:Type}:List α->Nat->Option α
 | [],_=>none
 | a::_,0=>some a
 | _::l,i + 1=>nth l i
theorem nth_eq {α:Type}:∀ (l:List α) (i:Nat),nth l i = l[i]?
 | [],_=>rfl
 | _::_,0=>rfl
 | _::l,i + 1=>by simpa [nth] using nth_eq l i
def ibin (k:IntKind) (m n:Int):BinOp->Option Value
 | .add=>some (.int k (k.wrap (m + n)))
 | .sub=>some (.int k (k.wrap (m - n)))
 | .mul=>some (.int k (k.wrap (m * n)))
 | .and=>some (.int k (iand k m n))
 | .or=>some (.int k (ior k m n))
 | .xor=>some (.int k (ixor k m n))
 | .andNot=>some (.int k (iandnot k m n))
 | .eql=>some (.bool (m == n))
 | .neq=>some (.bool (m != n))
 | .lss=>some (.bool (decide (m < n)))
 | .leq=>some (.bool (decide (m <= n)))
 | .gtr=>some (.bool (decide (m > n)))
 | .geq=>some (.bool (decide (m >= n)))
 | _=>none
def vbin (b:BinOp):Option Value->Option Value->Option Value
 | some (.int k m),some (.int k' n)=>if k = k' then ibin k m n b else none
 | _,_=>none
def vnot:Option Value->Option Value
 | some (.bool t)=>some (.bool (!t))
 | _=>none
def vext (i:Nat):Option Value->Option Value
 | some (.tuple vs)=>nth vs.toList i
 | _=>none
def mem:Nat->List Nat->Bool
 | _,[]=>false
 | n,m::l=>bif Nat.beq n m then true else mem n l
def pv1 (q:List Nat) (ρ:Env):Op->Option Value
 | .move x=>ev ρ x
 | .assign x=>ev ρ x
 | .extract x i=>vext i (ev ρ x)
 | .binOp b _ x y _=>bif mem 77777 q then none else vbin b (ev ρ x) (ev ρ y)
 | .unOp .not _ x=>vnot (ev ρ x)
 | _=>none
theorem pv1_ok {P:Program} {X:Cx} {ρ:Env} {dst:Option Tmp} {op:Op} {ty:TypeId} {pos:String} {af:Array Edge} {g:Option (Nat × Bool)} {v:Value} {q:List Nat} (H:pv1 q ρ op = some v) :
  bM P X ρ ⟨dst,op,ty,pos,af,g⟩ v:=by
 unfold pv1 at H;split at H
 ·exact aV H
 ·exact mB H
 ·rename_i x i;unfold vext at H;split at H
  ·rename_i vs hx;rw [nth_eq] at H;exact sR hx (by simpa using H)
  ·cases H
 ·rename_i b U1 x y U;simp only [cond_eq_ite] at H;split at H
  ·cases H
  unfold vbin at H;split at H
  ·rename_i k m k' n hx hy;split at H
   ·rename_i e;subst e;unfold ibin at H;split at H <;> cases H
    ·exact kI hx hy
    ·exact rK hx hy
    ·exact v_mul hx hy
    ·exact v_iand hx hy
    ·exact v_ior hx hy
    ·exact v_ixor hx hy
    ·exact v_iandnot hx hy
    ·exact v_eq hx hy
    ·exact v_ne hx hy
    ·exact xc hx hy
    ·exact v_le hx hy
    ·exact v_gt hx hy
    ·exact v_ge hx hy
   ·cases H
  ·cases H
 ·rename_i U1 x;unfold vnot at H;split at H
  ·rename_i t hx;cases H;exact v_not hx
  ·cases H
 ·cases H
def pvo (n:Nat) (q:List Nat) (ρ:Env):Oper->Option (Nat × Value)
 | ⟨some d,op,_,_,_,none⟩=>match pv1 q ρ op with
  | some v=>bif Nat.blt d n then some (d,v) else none
  | none=>none
 | _=>none
def goL (P:Program) (X:Cx) (q:List Nat) (ops:Array Oper) (h:Hp) (L:Bx) (K:fH):List Oper->Env->Prop
 | [],ρ=>K .normal ρ h L
 | o::l,ρ=>match pvo X.n q ρ o with
  | some (d,v)=>goL P X q ops h L K l ((d,v)::ρ)
  | none=>StL P X q ops (o::l) ρ h L K
theorem goL_ok {P:Program} {X:Cx} {q:List Nat} {ops:Array Oper} {h:Hp} {L:Bx} {K:fH}:∀ {l:List Oper} {ρ:Env},goL P X q ops h L K l ρ->EvL P X ops l ρ h L K
 | [],_,H=>du H
 | o::l,ρ,H=>by
  unfold goL at H;split at H
  ·rename_i d v e;unfold pvo at e;split at e
   ·rename_i d' op ty pos af;split at e
    ·rename_i u hu;simp only [cond_eq_ite] at e;split at e
     ·rename_i hd;cases e;exact evl_w (pv1_ok hu) hd (goL_ok H)
     ·cases e
    ·cases e
   ·cases e
  ·exact H.go
def lead:Code->Nat
 | .region id _ _=>id
 | .seq x _=>lead x
 | .block _ x=>lead x
 | .loop x=>lead x + 1000
 | .cond _ x y=>bif Nat.ble 99999 (lead x) then lead y + 3000 else lead x + 2000
 | _=>99999
def seqG (Y:Env->Hp->Bx->Prop) (K:fH):fH
 | .normal,ρ,h,L=>Y ρ h L
 | e,ρ,h,L=>K e ρ h L
def goC (P:Program) (X:Cx) (q:List Nat):Code->Env->Hp->Bx->fH->Prop
 | .skip,ρ,h,L,K=>K .normal ρ h L
 | .ret,ρ,h,L,K=>K .ret ρ h L
 | .exit id,ρ,h,L,K=>K (.exit id) ρ h L
 | .seq x y,ρ,h,L,K=>bif mem (lead y) q then StC P X q (.seq x y) ρ h L K else goC P X q x ρ h L (seqG (fun ρ h L=>goC P X q y ρ h L K) K)
 | .block id x,ρ,h,L,K=>goC P X q x ρ h L (blkK id K)
 | .region id ops d,ρ,h,L,K=>bif d then StC P X q (.region id ops true) ρ h L K else goL P X q ops h L K ops.toList ρ
 | c,ρ,h,L,K=>StC P X q c ρ h L K
theorem goC_ok {P:Program} {X:Cx} {q:List Nat}:∀ {c:Code} {ρ:Env} {h:Hp} {L:Bx} {K:fH},goC P X q c ρ h L K->Ev P X c ρ h L K:=by
 intro c
 induction c with
 | skip=>exact fun H=>fY H
 | ret=>exact fun H=>vC H
 | exit id=>exact fun H=>oP H
 | seq x y ihx ihy =>
  intro ρ h L K H;simp only [goC,cond_eq_ite] at H;split at H
  ·exact H.go
  ·refine dy (ev_mono (ihx H) ?_);intro e ρ h L hh;cases e with
   | normal=>exact ihy hh
   | _=>exact hh
 | block id x ih=>exact fun H=>eD (ih H)
 | region id ops d =>
  intro ρ h L K H;cases d with
  | true=>exact H.go
  | false =>
   have e:ops = ops.toList.toArray:=by simp
   rw [e];refine cU ?_;rw [← e];exact goL_ok H
 | _=>exact fun H=>H.go
class ScC (P:Program) (S:TypeId):Prop where ok:Sc P S
class AgC (P:Program) (S:TypeId) (n:outParam Nat):Prop where ok:Ag P S n
class InC (P:Program) (S:TypeId) (n:outParam Nat):Prop where ok:∃ i,P.info? S = some i/\i.size = n
class FlC (P:Program) (S i:Nat) (off:outParam Nat):Prop where ok:Fld P S i off
class ArC (P:Program) (S:TypeId) (n E m:outParam Nat):Prop where ok:Arr P S n E m
class SlC (P:Program) (S:TypeId) (E m:outParam Nat):Prop where ok:Slc P S E m
class EnC (P:Program) (f:FuncId):Prop where ok:iw P f
class ZeC (P:Program) (S:TypeId) (v:outParam Value):Prop where ok:∃ i,P.info? S = some i/\i.zero = some v
class UnC (P:Program) (S:TypeId) (D:outParam TypeDesc):Prop where ok:P.underlying S = some D
class PuC (P:Program) (f:FuncId) (F:outParam (List Value->Option Value)):Prop where
 ok:∀ vs v h,F vs = some v->Ct P f vs.toArray h fun u h'=>u = v/\h' = h
class EqC {α:outParam Type} (P:Program) (S:TypeId) (C:outParam (α->List Value)) (D:outParam (List Value->Option α)) (f:outParam (α->α->Bool)):Prop where
 ok:∀ x y,P.eqGuardType P.depth S = false/\EqR P 10000 S (.agg (C x).toArray) (.agg (C y).toArray) (f x y)
 de:∀ l x,D l = some x->l = C x
class BuC (P:Program) (S:TypeId) (is:List Nat) (F:outParam (List Value->Option Value)):Prop where
 ok:∀ vs v,F vs = some v->∀ w,(Instr.build S (is.zip vs).toArray).run P w = .ok v w
class GtC {α:outParam Type} (P:Program) (S:TypeId) (n:outParam Nat) (C:outParam (α->List Value)) (D:outParam (List Value->Option α)) (f:outParam (α->Int->Value)):Prop where
 ok:∀ x i,0 <= i/\i < (n:Int)->(C x)[0 + i.toNat * 1]? = some (f x i)
 de:∀ l x,D l = some x->l = C x
section
variable {P:Program} {S E m n i off f:Nat}
theorem rh {D:TypeDesc} (h:P.underlying S = some D) (a:isAggD D = false:=by exact rfl) (b:(P.info? S).map (·.size) = some 1:=by kernel_rfl):ScC P S:=⟨⟨⟨D,h,a⟩,rH b⟩⟩
theorem ag_i {D:TypeDesc} (h:P.underlying S = some D) (a:isAggD D = true:=by exact rfl) (b:(P.info? S).map (·.size) = some n:=by kernel_rfl):AgC P S n:=⟨⟨⟨D,h,a⟩,rH b⟩⟩
theorem tP (b:(P.info? S).map (·.size) = some n:=by kernel_rfl):InC P S n:=⟨rH b⟩
theorem cz (m:Nat) {fs:Array Field} {f:Field} (h1:P.underlying S = some (.struct fs)) (h2:fs[i]? = some f:=by exact rfl) (h3:f.offset = off:=by exact rfl) (h4:(P.info? f.type).map (·.size) = some m:=by kernel_rfl) (h5:m ≠ 0:=by decide):FlC P S i off:=⟨fld_of h1 h2 h3 h4 h5⟩
theorem ar_i (h:P.underlying S = some (.array n E)) (b:(P.info? E).map (·.size) = some m:=by kernel_rfl):ArC P S n E m:=⟨⟨h,rH b⟩⟩
theorem sl_i (h:P.underlying S = some (.slice E)) (b:(P.info? E).map (·.size) = some m:=by kernel_rfl):SlC P S E m:=⟨⟨h,rH b⟩⟩
theorem aN {fn:Func} (h:P.funcs[f]? = some fn) (a:(fn.name == "runtime.NumGoroutine") = false:=by decide) (b:fn.body.isNone = false:=by exact rfl):EnC P f:=⟨⟨fn,h,a,b⟩⟩
theorem ze_i {v:Value} (b:(P.info? S).bind (·.zero) = some v:=by kernel_rfl):ZeC P S v:=⟨zero_of b⟩
theorem ly {is:List Nat} {F:List Value->Option Value} (h:∀ vs v,F vs = some v->∀ w,(Instr.build S (is.zip vs).toArray).run P w = .ok v w):BuC P S is F:=⟨h⟩
end
section
variable {P:Program} {X:Cx} {q:List Nat} {ops:Array Oper} {l:List Oper} {ρ:Env} {h:Hp} {L:Bx} {K:fH} {A G:Prop} {d:Nat} {dd:Option Nat} {op:Op} {ty:TypeId} {pos:String} {af:Array Edge} {g:Option (Nat × Bool)} {N:Env->Hp->Bx->Prop}
theorem t_br {c:Bool} {A B:Hp->Prop} (ht:c = true->ZT G (A h)) (hf:c = false->ZT G (B h)):ZT G (br c A B h) :=
 ⟨fun H=>by
  cases c
  ·exact (hf rfl).go (H.2 rfl)
  ·exact (ht rfl).go (H.1 rfl)⟩
theorem t_brt {A B:Hp->Prop} (H:ZT G (A h)):ZT G (br true A B h):=⟨fun a=>H.go (a.1 rfl)⟩
theorem t_brf {A B:Hp->Prop} (H:ZT G (B h)):ZT G (br false A B h):=⟨fun a=>H.go (a.2 rfl)⟩
theorem t_nn {p:Ptr} {S:Nat × Nat->Hp->Prop} (next:∀ q,p = some q->ZT G (S q h)):ZT G (nn p S h):=⟨fun ⟨q,hq,H⟩=>(next q hq).go H⟩
theorem t_ix {s:Sl} {i:Int} {S:Nat × Nat->Hp->Prop} (next:∀ q,s.a = some q->(0 <= i/\i < s.len)->ZT G (S q h)):ZT G (ix s i S h):=⟨fun ⟨q,hq,hb,H⟩=>(next q hq hb).go H⟩
theorem t_gd {p:Prop} {A:Hp->Prop} (next:p->ZT G (A h)):ZT G (gd p A h):=⟨fun ⟨hp,H⟩=>(next hp).go H⟩
theorem t_no:ZT G (nope h):=⟨fun H=>H.elim⟩
theorem t_op (H:ZT (eG P X ⟨dd,op,ty,pos,af,none⟩ ρ h L (fun ρ h L=>goL P X q ops h L K l ρ)) A):ZT (StL P X q ops (⟨dd,op,ty,pos,af,none⟩::l) ρ h L K) A :=
 ⟨fun a=>⟨jA ⟨fun x w Q k i=>pM (fun _ _ ⟨_,_,_,n,r⟩=>⟨_,_,_,goL_ok n,r⟩) ((H.go a).go x w Q k i)⟩⟩⟩
theorem t_on {j s:Nat} {want:Bool} {v:Value} (hj:(ops[j]?).bind (·.dst) = some s) (hs:get ρ s = some v) (hsn:Nat.blt s X.n = true) (hv:v = .bool want)
  (H:ZT (eG P X ⟨dd,op,ty,pos,af,some (j,want)⟩ ρ h L (fun ρ h L=>goL P X q ops h L K l ρ)) A):ZT (StL P X q ops (⟨dd,op,ty,pos,af,some (j,want)⟩::l) ρ h L K) A :=
 ⟨fun a=>⟨evl_on hj hs hsn hv ⟨fun x w Q k i=>pM (fun _ _ ⟨_,_,_,n,r⟩=>⟨_,_,_,goL_ok n,r⟩) ((H.go a).go x w Q k i)⟩⟩⟩
theorem t_off {j s:Nat} {want:Bool} {v:Value} (hj:(ops[j]?).bind (·.dst) = some s) (hs:get ρ s = some v) (hsn:Nat.blt s X.n = true) (hv:(asB v == some want) = false) (hd:Nat.blt d X.n = true)
  (next:ZT (goL P X q ops h L K l ((d,undef)::ρ)) A):ZT (StL P X q ops (⟨some d,op,ty,pos,af,some (j,want)⟩::l) ρ h L K) A :=
 ⟨fun a=>⟨evl_off hj hs hsn hv hd (goL_ok (next.go a))⟩⟩
theorem t_guard {j s:Nat} {want c:Bool} {v u:Value} (hj:(ops[j]?).bind (·.dst) = some s) (hs:get ρ s = some u) (hsn:Nat.blt s X.n = true) (hg:(asB u == some want) = c)
  (hv:c = true->Val P X ρ h L ⟨some d,op,ty,pos,af,some (j,want)⟩ v) (hd:Nat.blt d X.n = true)
  (next:ZT (goL P X q ops h L K l ((d,gv c v)::ρ)) A):ZT (StL P X q ops (⟨some d,op,ty,pos,af,some (j,want)⟩::l) ρ h L K) A :=
 ⟨fun a=>⟨evl_guard hj hs hsn hg hv hd (goL_ok (next.go a))⟩⟩
theorem t_guardc {f:FuncId} {F:List Value->Option Value} [p:PuC P f F] {xs:List Operand} {ts:Array TypeId} {vs:List Value} {v u:Value} {j s:Nat} {want c:Bool}
  (hj:(ops[j]?).bind (·.dst) = some s) (hs:get ρ s = some u) (hsn:Nat.blt s X.n = true) (hg:(asB u == some want) = c) (he:iw P f)
  (hx:c = true->evs ρ xs = some vs) (hF:F vs = some v) (hd:Nat.blt d X.n = true)
  (next:ZT (goL P X q ops h L K l ((d,gv c v)::ρ)) A):ZT (StL P X q ops (⟨some d,.call ⟨.value (.func f),xs.toArray,ts⟩,ty,pos,af,some (j,want)⟩::l) ρ h L K) A :=
 ⟨fun a=>⟨evl_guardc hj hs hsn hg (fun _=>p.ok _ _ h hF) he hx hd (goL_ok (next.go a))⟩⟩
theorem t_val {v:Value} (hv:Val P X ρ h L ⟨some d,op,ty,pos,af,g⟩ v) (hd:Nat.blt d X.n = true) (next:ZT (N ((d,v)::ρ) h L) A):ZT (eG P X ⟨some d,op,ty,pos,af,g⟩ ρ h L N) A :=
 ⟨fun a=>wI hv hd (next.go a)⟩
theorem t_ld {τ:Type} {p:Nat × Nat} {enc:τ->List Value} {val:τ->Value} {S:τ->Hp->Prop} {x:Operand} {U:TypeId} (hT:Sc P U) (hx:ev ρ x = some (.pointer (some ⟨p.1,p.2,none⟩)))
  (he:∀ y,enc y = [val y]) (hd:Nat.blt d X.n = true) (next:∀ y,ZT (N ((d,val y)::ρ) h L) (S y h)):ZT (eG P X ⟨some d,.load U x,ty,pos,af,g⟩ ρ h L N) (ld p enc S h) :=
 ⟨fun H=>to_ld H hT hx he hd fun y=>(next y).go⟩
theorem t_lds {τ:Type} {p:Nat × Nat} {enc:τ->List Value} {S:τ->Hp->Prop} {x:Operand} {U n:TypeId} (hT:Ag P U n) (hx:ev ρ x = some (.pointer (some ⟨p.1,p.2,none⟩)))
  (he:∀ y,(enc y).length = n) (hd:Nat.blt d X.n = true) (next:∀ y,ZT (N ((d,.agg (enc y).toArray)::ρ) h L) (S y h)):ZT (eG P X ⟨some d,.load U x,ty,pos,af,g⟩ ρ h L N) (ld p enc S h) :=
 ⟨fun H=>to_lds H hT hx he hd fun y=>(next y).go⟩
theorem t_cl {τ:Type} {f:FuncId} {xs:List Operand} {ts:Array TypeId} {vs:List Value} {enc:τ->Value} {S:τ->Hp->Prop} (he:iw P f) (hx:evs ρ xs = some vs) (hd:Nat.blt d X.n = true)
  (next:∀ r h',ZT (N ((d,enc r)::ρ) h' L) (S r h')):ZT (eG P X ⟨some d,.call ⟨.value (.func f),xs.toArray,ts⟩,ty,pos,af,g⟩ ρ h L N) (cl P f vs enc S h) :=
 ⟨fun H=>to_cl H he hx hd fun r h'=>(next r h').go⟩
theorem t_cl0 {τ:Type} {f:FuncId} {xs:List Operand} {ts:Array TypeId} {vs:List Value} {enc:τ->Value} {S:τ->Hp->Prop} (he:iw P f) (hx:evs ρ xs = some vs)
  (next:∀ r h',ZT (N ρ h' L) (S r h')):ZT (eG P X ⟨none,.call ⟨.value (.func f),xs.toArray,ts⟩,ty,pos,af,g⟩ ρ h L N) (cl P f vs enc S h) :=
 ⟨fun H=>to_cl0 H he hx fun r h'=>(next r h').go⟩
theorem t_clv {τ:Type} {t:Nat} {c:Value} {xs:List Operand} {ts:Array TypeId} {vs:List Value} {enc:τ->Value} {S:τ->Hp->Prop} (hc:ev ρ (.tmp t) = some c) (hx:evs ρ xs = some vs) (hd:Nat.blt d X.n = true)
  (next:∀ r h',ZT (N ((d,enc r)::ρ) h' L) (S r h')):ZT (eG P X ⟨some d,.call ⟨.value (.tmp t),xs.toArray,ts⟩,ty,pos,af,g⟩ ρ h L N) (clv P c vs enc S h) :=
 ⟨fun H=>to_clv H hc hx hd fun r h'=>(next r h').go⟩
theorem t_clp {f:FuncId} {F:List Value->Option Value} [H:PuC P f F] {xs:List Operand} {ts:Array TypeId} {vs:List Value} {v:Value} (he:iw P f) (hx:evs ρ xs = some vs) (hF:F vs = some v) (hd:Nat.blt d X.n = true)
  (next:ZT (N ((d,v)::ρ) h L) A):ZT (eG P X ⟨some d,.call ⟨.value (.func f),xs.toArray,ts⟩,ty,pos,af,g⟩ ρ h L N) A :=
 ⟨fun a=>to_clp (H.ok _ _ h hF) he hx hd (next.go a)⟩
theorem t_st {x y:Operand} {U b off n:Nat} {vs:List Value} {v:Value} {S:Hp->Prop} (hT:∃ i,P.info? U = some i/\i.size = n) (hx:ev ρ x = some (.pointer (some ⟨b,off,none⟩))) (hy:ev ρ y = some v)
  (hvs:v.cells.toList = vs) (hn:vs.length = n) (ho:ce vs = true) (next:∀ h',ZT (N ρ h' L) (S h')):ZT (eG P X ⟨none,.store U x y,ty,pos,af,g⟩ ρ h L N) (st (b,off) vs S h) :=
 ⟨fun H=>to_st hT hx hy hvs hn ho H fun h'=>(next h').go⟩
theorem t_box {x:Operand} {U:Nat} {v:Value} {l:List Value} {S:Nat->Hp->Prop} (hx:ev ρ x = some v) (hl:v.cells = l.toArray) (hd:Nat.blt d X.n = true)
  (next:∀ b h',ZT (N ((d,.pointer (some ⟨b,0,none⟩))::ρ) h' L) (S b h')):ZT (eG P X ⟨some d,.box U x,ty,pos,af,g⟩ ρ h L N) (nw U l S h) :=
 ⟨fun H=>to_box hx hl hd H fun b h'=>(next b h').go⟩
theorem t_alloc {U:Nat} {v:Value} {l:List Value} {S:Nat->Hp->Prop} (hz:∃ i,P.info? U = some i/\i.zero = some v) (hl:v.cells = l.toArray) (hd:Nat.blt d X.n = true)
  (next:∀ b h',ZT (N ((d,.pointer (some ⟨b,0,none⟩))::ρ) h' L) (S b h')):ZT (eG P X ⟨some d,.alloc U,ty,pos,af,g⟩ ρ h L N) (nw U l S h) :=
 ⟨fun H=>to_alloc hz hl hd H fun b h'=>(next b h').go⟩
theorem t_boxB {x:Operand} {U:Nat} {v:Value} {l:List Value} (hx:ev ρ x = some v) (hl:v.cells = l.toArray) (hd:Nat.blt d X.n = true)
  (next:∀ b,ZT (N ((d,.pointer (some ⟨b,0,none⟩))::ρ) h (bx b U l::L)) A):ZT (eG P X ⟨some d,.box U x,ty,pos,af,g⟩ ρ h L N) A :=
 ⟨fun a=>to_boxB hx hl hd fun b=>(next b).go a⟩
theorem t_allocB {U:Nat} {v:Value} {l:List Value} (hz:∃ i,P.info? U = some i/\i.zero = some v) (hl:v.cells = l.toArray) (hd:Nat.blt d X.n = true)
  (next:∀ b,ZT (N ((d,.pointer (some ⟨b,0,none⟩))::ρ) h (bx b U l::L)) A):ZT (eG P X ⟨some d,.alloc U,ty,pos,af,g⟩ ρ h L N) A :=
 ⟨fun a=>to_allocB hz hl hd fun b=>(next b).go a⟩
theorem nb0 {b:Nat × Obj}:(b::L)[0]? = some b:=rfl
theorem nbS {b c:Nat × Obj} {k:Nat} (H:L[k]? = some b):(c::L)[k + 1]? = some b:=H
def wrE:List Value->Nat->List Value->Option (List Value)
 | l,0,[]=>some l
 | _::l,0,v::vs=>match wrE l 0 vs with
  | some r=>some (v::r)
  | none=>none
 | x::l,i + 1,vs=>match wrE l i vs with
  | some r=>some (x::r)
  | none=>none
 | [],_,_=>none
theorem wrE_spec:∀ (l:List Value) (i:Nat) (vs r:List Value),wrE l i vs = some r->i + vs.length <= l.length/\r = l.take i++vs++l.drop (i + vs.length)
 | l,0,[],r,e=>by simp [wrE] at e; simp [e]
 | x::l,0,v::vs,r,e=>by
  simp only [wrE] at e;split at e
  ·rename_i s hs;cases e;obtain ⟨h1,h2⟩:=wrE_spec l 0 vs s hs;subst h2;simp at h1 ⊢;exact h1
  ·cases e
 | x::l,i + 1,vs,r,e=>by
  simp only [wrE] at e;split at e
  ·rename_i s hs;cases e;obtain ⟨h1,h2⟩:=wrE_spec l i vs s hs;subst h2;refine ⟨by simp; omega,?_⟩;rw [show i + 1 + vs.length = (i + vs.length) + 1 from by omega];simp
  ·cases e
 | [],0,v::vs,r,e=>by simp [wrE] at e
 | [],i + 1,vs,r,e=>by simp [wrE] at e
def setE:Bx->Nat->List Value->Option Bx
 | (b,.cells _ U fr)::L,0,l=>some ((b,.cells l.toArray U fr)::L)
 | x::L,k + 1,l=>match setE L k l with
  | some r=>some (x::r)
  | none=>none
 | _,_,_=>none
theorem setE_spec {b U:Nat} {l0 l:List Value}:∀ {L:Bx} {k:Nat} {L':Bx},L[k]? = some (bx b U l0)->setE L k l = some L'->L.set k (bx b U l) = L'
 | y::L,0,L',hk,e=>by
  simp at hk;subst hk;simp only [setE,Option.some.injEq] at e;exact e
 | y::L,k + 1,L',hk,e=>by
  simp only [setE] at e;split at e
  ·rename_i r hr;cases e;rw [List.set_cons_succ,setE_spec (by simpa using hk) hr]
  ·cases e
 | [],_,_,hk,_=>by simp at hk
theorem t_stB {x y:Operand} {U U' k b off n:Nat} {l vs l':List Value} {v:Value} {L':Bx} (hT:∃ i,P.info? U = some i/\i.size = n) (hx:ev ρ x = some (.pointer (some ⟨b,off,none⟩))) (hk:L[k]? = some (bx b U' l)) (hy:ev ρ y = some v)
  (hvs:v.cells.toList = vs) (hn:vs.length = n) (ho:ce vs = true) (hl:wrE l off vs = some l') (hL:setE L k l' = some L') (next:ZT (N ρ h L') A):ZT (eG P X ⟨none,.store U x y,ty,pos,af,g⟩ ρ h L N) A :=
 ⟨fun a=>by
  obtain ⟨h1,h2⟩:=wrE_spec _ _ _ _ hl;refine to_stB hT hx hy hvs hn ho hk ?_ (wr_app vs l off h1) ?_
  ·rw [← hn]; simpa [Nat.ble_eq] using h1
  ·rw [← h2,setE_spec hk hL];exact next.go a⟩
theorem t_hpv {τ:Type} {m:Sem Value} {enc:τ->Value} {S:τ->Hp->Prop} (ht:Tx X ρ ⟨some d,op,ty,pos,af,g⟩ m) (hd:Nat.blt d X.n = true)
  (next:∀ r h',ZT (N ((d,enc r)::ρ) h' L) (S r h')):ZT (eG P X ⟨some d,op,ty,pos,af,g⟩ ρ h L N) (hpv P m enc S h) :=
 ⟨fun H=>to_hpv H ht hd fun r h'=>(next r h').go⟩
theorem t_hpv0 {τ:Type} {m:Sem Value} {enc:τ->Value} {S:τ->Hp->Prop} (ht:Tx X ρ ⟨none,op,ty,pos,af,g⟩ m)
  (next:∀ r h',ZT (N ρ h' L) (S r h')):ZT (eG P X ⟨none,op,ty,pos,af,g⟩ ρ h L N) (hpv P m enc S h) :=
 ⟨fun H=>to_hpv0 H ht fun r h'=>(next r h').go⟩
theorem t_hpu {m:Sem Unit} {S:Hp->Prop} (ht:Tu X ρ ⟨none,op,ty,pos,af,g⟩ m)
  (next:∀ h',ZT (N ρ h' L) (S h')):ZT (eG P X ⟨none,op,ty,pos,af,g⟩ ρ h L N) (hpu P m S h) :=
 ⟨fun H=>to_hpu H ht fun h'=>(next h').go⟩
theorem t_cln {τ:Type} {m:Sem Next} {enc:τ->Value} {S:τ->Hp->Prop} (ht:Tn X ρ ⟨some d,op,ty,pos,af,g⟩ m) (hd:Nat.blt d X.n = true)
  (next:∀ r h',ZT (N ((d,enc r)::ρ) h' L) (S r h')):ZT (eG P X ⟨some d,op,ty,pos,af,g⟩ ρ h L N) (cln P m enc S h) :=
 ⟨fun H=>to_cln H ht hd fun r h'=>(next r h').go⟩
theorem t_yes {o:Operand} {x y:Code} {c:Bool} (hc:ev ρ o = some (.bool c)) (e:c = true) (H:ZT (goC P X q x ρ h L K) A):ZT (StC P X q (.cond o x y) ρ h L K) A:=⟨fun a=>⟨ev_yes hc e (goC_ok (H.go a))⟩⟩
theorem t_nay {o:Operand} {x y:Code} {c:Bool} (hc:ev ρ o = some (.bool c)) (e:c = false) (H:ZT (goC P X q y ρ h L K) A):ZT (StC P X q (.cond o x y) ρ h L K) A:=⟨fun a=>⟨ev_no hc e (goC_ok (H.go a))⟩⟩
structure StR (P:Program) (X:Cx) (fn:Func) (Q:Value->Hp->Prop) (ρ:Env) (h:Hp) (L:Bx):Prop where
 go:∃ v g,Q v g/\(∀ b o,g b = some o->h b = some o)/\Res P X fn ρ h L v
def retG (P:Program) (X:Cx) (fn:Func) (Q:Value->Hp->Prop):fH
 | .normal,ρ,h,L=>StR P X fn Q ρ h L
 | .ret,ρ,h,L=>StR P X fn Q ρ h L
 | _,_,_,_=>False
theorem t_ret {τ:Type} {fn:Func} {enc:τ->Value} {S:τ->Hp->Prop} {r:τ} (hr:Res P X fn ρ h L (enc r)):ZT (StR P X fn (fun v h'=>∃ r,v = enc r/\S r h') ρ h L) (S r h) :=
 ⟨fun H=>⟨⟨_,h,⟨r,rfl,H⟩,fun _ _ e=>e,hr⟩⟩⟩
theorem t_in {τ:Type} {f:FuncId} {fn:Func} {c:Code} {n:Nat} {vs:List Value} {enc:τ->Value} {S:τ->Hp->Prop} (q:List Nat) (hf:P.funcs[f]? = some fn) (hb:fn.body = some c) (hn:fn.ntmps = n)
  (hl:Nat.ble vs.length n = true) (H:∀ w0,ZT (goC P ⟨n,w0,h⟩ q c (args0 0 vs) h [] (retG P ⟨n,w0,h⟩ fn (fun v h'=>∃ r,v = enc r/\S r h'))) A) (a:A):cl P f vs enc S h :=
 ct_intro vs hf hb hn hl fun w0=>ev_mono (goC_ok ((H w0).go a)) fun e ρ h L hh=>by
  cases e <;> first | exact hh.go | exact hh.elim
def zpick:List Nat->Env->Option Env
 | [],_=>some []
 | t::ts,ρ=>match get ρ t,zpick ts ρ with
  | some v,some r=>some ((t,v)::r)
  | _,_=>none
theorem vH:∀ {ts:List Nat} {ρ σ:Env},zpick ts ρ = some σ->∀ x ∈ σ,get ρ x.1 = some x.2
 | [],ρ,σ,e,x,hx=>by simp [zpick] at e; subst e; cases hx
 | t::ts,ρ,σ,e,x,hx=>by
  simp only [zpick] at e;split at e
  ·rename_i v r h1 h2;cases e;cases hx with
   | head=>exact h1
   | tail _ hx=>exact vH h2 x hx
  ·cases e
theorem le_of {σ ρ:Env} (H:∀ x ∈ σ,get ρ x.1 = some x.2):Le σ ρ:=by
 induction σ with
 | nil=>exact Le.nil _
 | cons x σ ih=>exact Le.cons (H x (List.mem_cons_self ..)) (ih fun y hy=>H y (List.mem_cons_of_mem _ hy))
structure StP {σ:Type} (Rec:σ->Hp->Prop) (f:σ->Env->Env) (fk keep:List Nat) (τ:Env) (g:σ->Bx->Bx) (L0:Bx) (ρ:Env) (h:Hp) (L:Bx):Prop where
 go:∃ s k,Rec s k/\(∀ b o,k b = some o->h b = some o)/\Le (f s τ) ρ/\(g s L0).Sublist L
def lpG {σ:Type} (Rec:σ->Hp->Prop) (f:σ->Env->Env) (fk keep:List Nat) (τ:Env) (g:σ->Bx->Bx) (L0:Bx) (K:fH):fH
 | .normal,ρ,h,L=>StP Rec f fk keep τ g L0 ρ h L
 | e,ρ,h,L=>K e ρ h L
theorem t_lp {σ:Type} {Rec:σ->Hp->Prop} {f:σ->Env->Env} {fk keep:List Nat} {τ:Env} {g:σ->Bx->Bx} {L0:Bx} {s:σ} (h1:zpick fk ρ = some (f s [])) (h2:zpick keep ρ = some τ) (hf:f s τ = f s []++τ) (hL:(g s L0).Sublist L) :
  ZT (StP Rec f fk keep τ g L0 ρ h L) (Rec s h) :=
 ⟨fun H=>⟨⟨s,h,H,fun _ _ e=>e,le_of fun x hx=>by
  rw [hf] at hx;rcases List.mem_append.1 hx with hx | hx
  ·exact vH h1 x hx
  ·exact vH h2 x hx,hL⟩⟩⟩
structure LH {σ:Type} (id n:Nat) (f:σ->Env->Env) (fk keep:List Nat) (g:σ->Bx->Bx):Prop where
theorem t_loop {σ:Type} {step:(σ->Hp->Prop)->σ->Hp->Prop} {body:Code} {s:σ} {f:σ->Env->Env} {fk keep:List Nat} {τ:Env} {g:σ->Bx->Bx} (_:LH (lead body) L.length f fk keep g)
  (h1:zpick fk ρ = some (f s [])) (h2:zpick keep ρ = some τ) (hf:f s τ = f s []++τ) (hL:(g s L).Sublist L)
  (round:∀ Rec s h,ZT (goC P X q body (f s τ) h (g s L) (lpG Rec f fk keep τ g L K)) (step Rec s h)):ZT (StC P X q (.loop body) ρ h L K) (Lp step s h) :=
 ⟨fun H=>⟨qx (fun s=>f s τ) (fun s=>g s L) H (le_of fun x hx=>by
   rw [hf] at hx;rcases List.mem_append.1 hx with hx | hx
   ·exact vH h1 x hx
   ·exact vH h2 x hx) hL fun Rec s h a=>ev_mono (goC_ok ((round Rec s h).go a)) fun e ρ h L hh=>by
    cases e <;> first | exact hh.go | exact hh⟩⟩
def ct {σ:Type} (J:σ->Hp->Prop) (A:Hp->Prop):Hp->Prop:=A
theorem t_cut {σ:Type} {J:σ->Hp->Prop} {B:Hp->Prop} {x y:Code} {f:σ->Env->Env} {fk keep:List Nat} {τ:Env} {g:σ->Bx->Bx} (_:LH (lead y + 100000) L.length f fk keep g)
  (h2:zpick keep ρ = some τ)
  (body:ZT (goC P X q x ρ h L (lpG J f fk keep τ g L K)) (B h))
  (rest:∀ s h,ZT (goC P X q y (f s τ) h (g s L) K) (J s h)):ZT (StC P X q (.seq x y) ρ h L K) (ct J B h) :=
 ⟨fun H=>⟨ev_cut J (fun s=>f s τ) (fun s=>g s L) (ev_mono (goC_ok (body.go H)) fun e ρ h L hh=>by
   cases e <;> first | exact hh.go | exact hh) fun s h a=>goC_ok ((rest s h).go a)⟩⟩
def setB:Bx->Nat->List Value->Bx
 | (b,.cells _ U fr)::L,0,l=>(b,.cells l.toArray U fr)::L
 | x::L,k + 1,l=>x::setB L k l
 | L,_,_=>L
def lst (n:Nat):List Nat->Array Bool
 | []=>Array.replicate n false
 | i::r=>(lst n r).setIfInBounds i true
inductive Od where
 | e
 | b (i j:Nat) (l:List Nat) (x:Od) (m:List Nat) (y:Od)
 | t (i j k:Nat) (l:List Nat) (x:Od) (m:List Nat) (y:Od) (n:List Nat) (z:Od)
def odn:Od->Nat
 | .e=>0
 | .b _ _ l x _ _=>l.length + odn x + 1
 | .t _ _ _ l x _ _ _ _=>l.length + odn x + 1
def okL (P:Program) (ops:Array Oper) (f:List Nat->Bool):List Nat->List Nat->Bool
 | [],done=>f done
 | c::r,done=>(match c % 4 with
   | 0=>chk anyK ops (lst ops.size done) (c / 4)
   | 1=>chk (growK P) ops (lst ops.size done) (c / 4)
   | _=>decide (Region.ready .any ops (lst ops.size done) = [c / 4])) && okL P ops f r (c / 4::done)
def okO (P:Program) (ops:Array Oper):Od->List Nat->Bool
 | .e,done=>(Region.ready .any ops (lst ops.size done)).isEmpty
 | .b i j l x m y,done=>decide (Region.ready .any ops (lst ops.size done) = [i,j]) && (decide (l.length + odn x = m.length + odn y) && (okL P ops (okO P ops x) l (i::done) && okL P ops (okO P ops y) m (j::done)))
 | .t i j k l x m y n z,done=>decide (Region.ready .any ops (lst ops.size done) = [i,j,k]) && (decide (l.length + odn x = m.length + odn y) && (decide (l.length + odn x = n.length + odn z) && (okL P ops (okO P ops x) l (i::done) && (okL P ops (okO P ops y) m (j::done) && okL P ops (okO P ops z) n (k::done)))))
structure StA (P:Program) (X:Cx) (q:List Nat) (ops:Array Oper) (E:Bx) (done order:List Nat) (od:Od) (ρ:Env) (h:Hp) (L:Bx) (K:fH):Prop where
 go:NoP K->okL P ops (okO P ops od) order done = true->EvA P X ops E (order.length + odn od) (lst ops.size done) ρ h L K
def pvA (n:Nat) (q:List Nat) (ρ:Env):Option Oper->Option (Nat × Value)
 | some o=>pvo n q ρ o
 | none=>none
def finA (P:Program) (X:Cx) (q:List Nat) (ops:Array Oper) (E:Bx) (h:Hp) (L:Bx) (K:fH) (od:Od) (done:List Nat) (ρ:Env):Prop :=
 match od with
 | .e=>K .normal ρ h L
 | od=>StA P X q ops E done [] od ρ h L K
def goA (P:Program) (X:Cx) (q:List Nat) (ops:Array Oper) (E:Bx) (h:Hp) (L:Bx) (K:fH) (od:Od):List Nat->List Nat->Env->Prop
 | [],done,ρ=>finA P X q ops E h L K od done ρ
 | c::r,done,ρ=>match (bif Nat.beq (c % 4) 0 then pvA X.n q ρ (nth ops.toList (c / 4)) else none) with
  | some (d,v)=>goA P X q ops E h L K od r (c / 4::done) ((d,v)::ρ)
  | none=>StA P X q ops E done (c::r) od ρ h L K
theorem okO_0 {f:List Nat->Bool} {done r:List Nat} {c:Nat} (hc:c % 4 = 0) (H:okL P ops f (c::r) done = true):chk anyK ops (lst ops.size done) (c / 4) = true/\okL P ops f r (c / 4::done) = true:=by
 simpa [okL,hc] using H
theorem okO_1 {f:List Nat->Bool} {done r:List Nat} {c:Nat} (hc:c % 4 = 1) (H:okL P ops f (c::r) done = true):chk (growK P) ops (lst ops.size done) (c / 4) = true/\okL P ops f r (c / 4::done) = true:=by
 simpa [okL,hc] using H
theorem okO_2 {f:List Nat->Bool} {done r:List Nat} {c:Nat} (hc:c % 4 = 2) (H:okL P ops f (c::r) done = true):Region.ready .any ops (lst ops.size done) = [c / 4]/\okL P ops f r (c / 4::done) = true:=by
 simpa [okL,hc] using H
theorem js {i:Nat} {o:Oper} (H:nth ops.toList i = some o):ops[i]? = some o:=by rw [nth_eq] at H; simpa using H
theorem ik (l:List Nat) (c n:Nat):(c::l).length + n = l.length + n + 1:=by simp; omega
theorem iT {E:Bx} {od:Od}:∀ {order done:List Nat} {ρ:Env},goA P X q ops E h L K od order done ρ->NoP K->okL P ops (okO P ops od) order done = true->EvA P X ops E (order.length + odn od) (lst ops.size done) ρ h L K
 | [],done,ρ,H,hK,ok=>by
  cases od with
  | e=>exact mU ok H
  | _=>exact StA.go H hK ok
 | c::r,done,ρ,H,hK,ok=>by
  unfold goA at H;split at H
  ·rename_i d v e;simp only [cond_eq_ite] at e;split at e
   ·rename_i hc;unfold pvA at e;split at e
    ·rename_i o ho;unfold pvo at e;split at e
     ·rename_i d' op ty pos af;split at e
      ·rename_i u hu;simp only [cond_eq_ite] at e;split at e
       ·rename_i hd;cases e;obtain ⟨o1,o2⟩:=okO_0 (eq_of_beq_eq_true hc) ok;rw [ik];exact eva_pure hK (js ho) o1 hd (ve (pv1_ok hu)) (iT H hK o2)
       ·cases e
      ·cases e
     ·cases e
    ·cases e
   ·cases e
  ·exact H.go hK ok
def flt:List Nat->Bx->Bx
 | 0::f,_::L=>flt f L
 | _::f,x::L=>x::flt f L
 | _,L=>L
theorem flt_sub:∀ (f:List Nat) (L:Bx),(flt f L).Sublist L
 | [],L=>List.Sublist.refl _
 | _::_,[]=>by unfold flt; split <;> simp_all
 | 0::f,x::L=>(flt_sub f L).cons x
 | (_ + 1)::f,x::L=>(flt_sub f L).cons_cons x
structure OH (id:Nat) (order:List Nat) (od:Od) (es:List Nat):Prop where
class MxC (P:Program):Prop where ok:P.follows .mixedOrders = true
theorem t_draw {id:Nat} {l:List Oper} {order es:List Nat} {od:Od} (_:OH id order od es) (m:MxC P) (hn:l.length = order.length + odn od) (ok:okL P l.toArray (okO P l.toArray od) order [] = true) (hK:NoP K)
  (next:ZT (goA P X q l.toArray (flt es L) h L K od order [] ρ) A):ZT (StC P X q (.region id l.toArray true) ρ h L K) A :=
 ⟨fun a=>⟨oQ (flt es L) m.ok hn (flt_sub es L) (by
  have:=iT (next.go a) hK ok;simpa [lst,hn] using this)⟩⟩
section
variable {E:Bx} {done r:List Nat} {c:Nat} {od:Od}
theorem a_val {v:Value} (hc:Nat.beq (c % 4) 0 = true) (hi:nth ops.toList (c / 4) = some ⟨some d,op,ty,pos,af,none⟩) (hv:il P X ρ E ⟨some d,op,ty,pos,af,none⟩ v) (hd:Nat.blt d X.n = true)
  (next:ZT (goA P X q ops E h L K od r (c / 4::done) ((d,v)::ρ)) A):ZT (StA P X q ops E done (c::r) od ρ h L K) A :=
 ⟨fun a=>⟨fun hK ok=>have o:=okO_0 (eq_of_beq_eq_true hc) ok; ik r c _ ▸ eva_pure hK (js hi) o.1 hd hv (iT (next.go a) hK o.2)⟩⟩
theorem a_off {j s:Nat} {want:Bool} {v:Value} (hc:Nat.beq (c % 4) 0 = true) (hi:nth ops.toList (c / 4) = some ⟨some d,op,ty,pos,af,some (j,want)⟩) (hj:(ops[j]?).bind (·.dst) = some s) (hs:get ρ s = some v) (hsn:Nat.blt s X.n = true)
  (hv:(asB v == some want) = false) (hd:Nat.blt d X.n = true) (next:ZT (goA P X q ops E h L K od r (c / 4::done) ((d,undef)::ρ)) A):ZT (StA P X q ops E done (c::r) od ρ h L K) A :=
 ⟨fun a=>⟨fun hK ok=>have o:=okO_0 (eq_of_beq_eq_true hc) ok; ik r c _ ▸ eva_off hK (js hi) o.1 hd hj hs hsn hv (iT (next.go a) hK o.2)⟩⟩
theorem a_on {j s:Nat} {want:Bool} {v u:Value} (hc:Nat.beq (c % 4) 0 = true) (hi:nth ops.toList (c / 4) = some ⟨some d,op,ty,pos,af,some (j,want)⟩) (hj:(ops[j]?).bind (·.dst) = some s) (hs:get ρ s = some u) (hsn:Nat.blt s X.n = true)
  (hu:u = .bool want) (hv:il P X ρ E ⟨some d,op,ty,pos,af,some (j,want)⟩ v) (hd:Nat.blt d X.n = true) (next:ZT (goA P X q ops E h L K od r (c / 4::done) ((d,v)::ρ)) A):ZT (StA P X q ops E done (c::r) od ρ h L K) A :=
 ⟨fun a=>⟨fun hK ok=>have o:=okO_0 (eq_of_beq_eq_true hc) ok; ik r c _ ▸ eva_on hK (js hi) o.1 hd hj hs hsn hu hv (iT (next.go a) hK o.2)⟩⟩
theorem a_valC {v:Value} (hc:Nat.beq (c % 4) 1 = true) (hi:nth ops.toList (c / 4) = some ⟨some d,op,ty,pos,af,none⟩) (hv:gR P X ρ h L ⟨some d,op,ty,pos,af,none⟩ v) (hd:Nat.blt d X.n = true)
  (next:ZT (goA P X q ops E h L K od r (c / 4::done) ((d,v)::ρ)) A):ZT (StA P X q ops E done (c::r) od ρ h L K) A :=
 ⟨fun a=>⟨fun hK ok=>have o:=okO_1 (eq_of_beq_eq_true hc) ok; ik r c _ ▸ eva_load hK (js hi) o.1 hd hv (iT (next.go a) hK o.2)⟩⟩
theorem a_valCg {j s:Nat} {want:Bool} {v u:Value} (hc:Nat.beq (c % 4) 1 = true) (hi:nth ops.toList (c / 4) = some ⟨some d,op,ty,pos,af,some (j,want)⟩) (hj:(ops[j]?).bind (·.dst) = some s) (hs:get ρ s = some u) (hsn:Nat.blt s X.n = true)
  (hu:u = .bool want) (hv:gR P X ρ h L ⟨some d,op,ty,pos,af,some (j,want)⟩ v) (hd:Nat.blt d X.n = true) (next:ZT (goA P X q ops E h L K od r (c / 4::done) ((d,v)::ρ)) A):ZT (StA P X q ops E done (c::r) od ρ h L K) A :=
 ⟨fun a=>⟨fun hK ok=>have o:=okO_1 (eq_of_beq_eq_true hc) ok; ik r c _ ▸ eva_loadg hK (js hi) o.1 hd hj hs hsn hu hv (iT (next.go a) hK o.2)⟩⟩
theorem a_ld {τ:Type} {p:Nat × Nat} {enc:τ->List Value} {val:τ->Value} {S:τ->Hp->Prop} {x:Operand} {U:TypeId} (hc:Nat.beq (c % 4) 1 = true) (hi:nth ops.toList (c / 4) = some ⟨some d,.load U x,ty,pos,af,none⟩) (hT:Sc P U)
  (hx:ev ρ x = some (.pointer (some ⟨p.1,p.2,none⟩))) (he:∀ y,enc y = [val y]) (hd:Nat.blt d X.n = true) (next:∀ y,ZT (goA P X q ops E h L K od r (c / 4::done) ((d,val y)::ρ)) (S y h)):ZT (StA P X q ops E done (c::r) od ρ h L K) (ld p enc S h) :=
 ⟨fun H=>⟨fun hK ok=>have o:=okO_1 (eq_of_beq_eq_true hc) ok; ik r c _ ▸ nq hK H (js hi) o.1 hT hx he hd fun y s=>iT ((next y).go s) hK o.2⟩⟩
theorem a_lds {τ:Type} {p:Nat × Nat} {enc:τ->List Value} {S:τ->Hp->Prop} {x:Operand} {U n:TypeId} (hc:Nat.beq (c % 4) 1 = true) (hi:nth ops.toList (c / 4) = some ⟨some d,.load U x,ty,pos,af,none⟩) (hT:Ag P U n)
  (hx:ev ρ x = some (.pointer (some ⟨p.1,p.2,none⟩))) (he:∀ y,(enc y).length = n) (hd:Nat.blt d X.n = true) (next:∀ y,ZT (goA P X q ops E h L K od r (c / 4::done) ((d,.agg (enc y).toArray)::ρ)) (S y h)):ZT (StA P X q ops E done (c::r) od ρ h L K) (ld p enc S h) :=
 ⟨fun H=>⟨fun hK ok=>have o:=okO_1 (eq_of_beq_eq_true hc) ok; ik r c _ ▸ eva_lds hK H (js hi) o.1 hT hx he hd fun y s=>iT ((next y).go s) hK o.2⟩⟩
theorem a_ldg {τ:Type} {p:Nat × Nat} {enc:τ->List Value} {val:τ->Value} {S:τ->Hp->Prop} {x:Operand} {U:TypeId} {j s:Nat} {want:Bool} {u:Value} (hc:Nat.beq (c % 4) 1 = true) (hi:nth ops.toList (c / 4) = some ⟨some d,.load U x,ty,pos,af,some (j,want)⟩)
  (hj:(ops[j]?).bind (·.dst) = some s) (hs:get ρ s = some u) (hsn:Nat.blt s X.n = true) (hu:u = .bool want) (hT:Sc P U)
  (hx:ev ρ x = some (.pointer (some ⟨p.1,p.2,none⟩))) (he:∀ y,enc y = [val y]) (hd:Nat.blt d X.n = true) (next:∀ y,ZT (goA P X q ops E h L K od r (c / 4::done) ((d,val y)::ρ)) (S y h)):ZT (StA P X q ops E done (c::r) od ρ h L K) (ld p enc S h) :=
 ⟨fun H=>⟨fun hK ok=>have o:=okO_1 (eq_of_beq_eq_true hc) ok; ik r c _ ▸ eva_ldg hK H (js hi) o.1 hj hs hsn hu hT hx he hd fun y s=>iT ((next y).go s) hK o.2⟩⟩
theorem qc {o:Oper} {N N':Env->Hp->Bx->Prop} (H:eG P X o ρ h L N) (k:∀ ρ h L,N ρ h L->N' ρ h L):eG P X o ρ h L N' :=
 ⟨fun x w Q kn i=>pM (fun _ _ ⟨_,_,_,n,r⟩=>⟨_,_,_,k _ _ _ n,r⟩) (H.go x w Q kn i)⟩
theorem a_op (hc:Nat.beq (c % 4) 2 = true) (hi:nth ops.toList (c / 4) = some ⟨dd,op,ty,pos,af,none⟩)
  (H:ZT (eG P X ⟨dd,op,ty,pos,af,none⟩ ρ h L (fun ρ h L=>E.Sublist L/\goA P X q ops E h L K od r (c / 4::done) ρ)) A):ZT (StA P X q ops E done (c::r) od ρ h L K) A :=
 ⟨fun a=>⟨fun hK ok=>have o:=okO_2 (eq_of_beq_eq_true hc) ok; ik r c _ ▸ eva_1 o.1 (way_op (js hi) rfl (qc (H.go a) fun _ _ _ n=>⟨n.1,iT n.2 hK o.2⟩))⟩⟩
theorem a_opg {j s:Nat} {want:Bool} {u:Value} (hc:Nat.beq (c % 4) 2 = true) (hi:nth ops.toList (c / 4) = some ⟨dd,op,ty,pos,af,some (j,want)⟩) (hj:(ops[j]?).bind (·.dst) = some s) (hs:get ρ s = some u) (hsn:Nat.blt s X.n = true) (hu:u = .bool want)
  (H:ZT (eG P X ⟨dd,op,ty,pos,af,some (j,want)⟩ ρ h L (fun ρ h L=>E.Sublist L/\goA P X q ops E h L K od r (c / 4::done) ρ)) A):ZT (StA P X q ops E done (c::r) od ρ h L K) A :=
 ⟨fun a=>⟨fun hK ok=>have o:=okO_2 (eq_of_beq_eq_true hc) ok; ik r c _ ▸ eva_1 o.1 (way_on (js hi) hj hs hsn hu (qc (H.go a) fun _ _ _ n=>⟨n.1,iT n.2 hK o.2⟩))⟩⟩
theorem chk_mono {gk:Oper->Bool} {listed:Array Bool} {i:Nat} (H:chk gk ops listed i = true):chk anyK ops listed i = true:=by
 unfold chk chkF at *
 simp only [and_eq_true,List.all_eq_true] at *
 obtain ⟨⟨⟨h1,h2⟩,h3⟩,h4⟩:=H;refine ⟨⟨⟨h1,h2⟩,fun j hj=>?_⟩,h4⟩;have:=h3 j hj
 revert this
 cases ops[j]? <;> cases ops[i]? <;> simp only [Bool.or_eq_true,and_eq_true,anyK,and_true] <;> first | exact id | (rintro (h | h); exact .inl h; exact .inr h.1)
theorem a_off1 {j s:Nat} {want:Bool} {v:Value} (hc:Nat.beq (c % 4) 1 = true) (hi:nth ops.toList (c / 4) = some ⟨some d,op,ty,pos,af,some (j,want)⟩) (hj:(ops[j]?).bind (·.dst) = some s) (hs:get ρ s = some v) (hsn:Nat.blt s X.n = true)
  (hv:(asB v == some want) = false) (hd:Nat.blt d X.n = true) (next:ZT (goA P X q ops E h L K od r (c / 4::done) ((d,undef)::ρ)) A):ZT (StA P X q ops E done (c::r) od ρ h L K) A :=
 ⟨fun a=>⟨fun hK ok=>have o:=okO_1 (eq_of_beq_eq_true hc) ok; ik r c _ ▸ eva_off hK (js hi) (chk_mono o.1) hd hj hs hsn hv (iT (next.go a) hK o.2)⟩⟩
theorem way_off {n i j s:Nat} {listed:Array Bool} {want:Bool} {u:Value} (hi:ops[i]? = some ⟨dd,op,ty,pos,af,some (j,want)⟩)
  (hj:(ops[j]?).bind (·.dst) = some s) (hs:get ρ s = some u) (hsn:Nat.blt s X.n = true) (hu:(asB u == some want) = false)
  (H:∀ a,Kn a X.n ρ->∃ ρ',Kn (a.put dd undef) X.n ρ'/\EvA P X ops E n (listed.setIfInBounds i true) ρ' h L K):Way P X ops E n listed ρ h L K i:=by
 intro a w k inv hE;unfold wpOp;rw [hi];have hw:=lB (d:=dd) (op:=op) (ty:=ty) (pos:=pos) (af:=af) (want:=want) k hj hs hsn;rw [hu] at hw;simp only [hw,Bool.false_eq_true,if_false];obtain ⟨ρ',k',n'⟩:=H a k;exact ⟨hE,n' _ w k' inv hE⟩
theorem a_off2 {j s:Nat} {want:Bool} {v:Value} (hc:Nat.beq (c % 4) 2 = true) (hi:nth ops.toList (c / 4) = some ⟨some d,op,ty,pos,af,some (j,want)⟩) (hj:(ops[j]?).bind (·.dst) = some s) (hs:get ρ s = some v) (hsn:Nat.blt s X.n = true)
  (hv:(asB v == some want) = false) (hd:Nat.blt d X.n = true) (next:ZT (goA P X q ops E h L K od r (c / 4::done) ((d,undef)::ρ)) A):ZT (StA P X q ops E done (c::r) od ρ h L K) A :=
 ⟨fun a=>⟨fun hK ok=>have o:=okO_2 (eq_of_beq_eq_true hc) ok; ik r c _ ▸ eva_1 o.1 (way_off (js hi) hj hs hsn hv fun _ kn=>⟨_,kn.put hd undef,iT (next.go a) hK o.2⟩)⟩⟩
theorem a_off3 {j s:Nat} {want:Bool} {v:Value} (hc:Nat.beq (c % 4) 2 = true) (hi:nth ops.toList (c / 4) = some ⟨none,op,ty,pos,af,some (j,want)⟩) (hj:(ops[j]?).bind (·.dst) = some s) (hs:get ρ s = some v) (hsn:Nat.blt s X.n = true)
  (hv:(asB v == some want) = false) (next:ZT (goA P X q ops E h L K od r (c / 4::done) ρ) A):ZT (StA P X q ops E done (c::r) od ρ h L K) A :=
 ⟨fun a=>⟨fun hK ok=>have o:=okO_2 (eq_of_beq_eq_true hc) ok; ik r c _ ▸ eva_1 o.1 (way_off (js hi) hj hs hsn hv fun _ kn=>⟨_,kn.none undef,iT (next.go a) hK o.2⟩)⟩⟩
theorem a_b {i j:Nat} {l m:List Nat} {x y:Od} {d1 d2:Option Nat} {op1 op2:Op} {ty1 ty2:TypeId} {ps1 ps2:String} {af1 af2:Array Edge} (hi:nth ops.toList i = some ⟨d1,op1,ty1,ps1,af1,none⟩) (hj:nth ops.toList j = some ⟨d2,op2,ty2,ps2,af2,none⟩) {B:Prop}
  (H:ZT (eG P X ⟨d1,op1,ty1,ps1,af1,none⟩ ρ h L (fun ρ h L=>E.Sublist L/\goA P X q ops E h L K x l (i::done) ρ)) A)
  (H':ZT (eG P X ⟨d2,op2,ty2,ps2,af2,none⟩ ρ h L (fun ρ h L=>E.Sublist L/\goA P X q ops E h L K y m (j::done) ρ)) B):ZT (StA P X q ops E done [] (.b i j l x m y) ρ h L K) (A/\B) :=
 ⟨fun a=>⟨fun hK ok=>by
  simp only [okL,okO,and_eq_true,decide_eq_true_eq] at ok;obtain ⟨o1,o2,o3,o4⟩:=ok;have:=eva_2 o1 (way_op (js hi) rfl (qc (H.go a.1) fun _ _ _ n=>⟨n.1,iT n.2 hK o3⟩)) (way_op (js hj) rfl (qc (H'.go a.2) fun _ _ _ n=>⟨n.1,o2 ▸ iT n.2 hK o4⟩));simpa [odn] using this⟩⟩
theorem a_tt {i j k:Nat} {l m n:List Nat} {x y z:Od} {d1 d2 d3:Option Nat} {op1 op2 op3:Op} {ty1 ty2 ty3:TypeId} {ps1 ps2 ps3:String} {af1 af2 af3:Array Edge} (hi:nth ops.toList i = some ⟨d1,op1,ty1,ps1,af1,none⟩) (hj:nth ops.toList j = some ⟨d2,op2,ty2,ps2,af2,none⟩) (hk:nth ops.toList k = some ⟨d3,op3,ty3,ps3,af3,none⟩) {B C:Prop}
  (H:ZT (eG P X ⟨d1,op1,ty1,ps1,af1,none⟩ ρ h L (fun ρ h L=>E.Sublist L/\goA P X q ops E h L K x l (i::done) ρ)) A)
  (H':ZT (eG P X ⟨d2,op2,ty2,ps2,af2,none⟩ ρ h L (fun ρ h L=>E.Sublist L/\goA P X q ops E h L K y m (j::done) ρ)) B)
  (H'':ZT (eG P X ⟨d3,op3,ty3,ps3,af3,none⟩ ρ h L (fun ρ h L=>E.Sublist L/\goA P X q ops E h L K z n (k::done) ρ)) C):ZT (StA P X q ops E done [] (.t i j k l x m y n z) ρ h L K) (A/\B/\C) :=
 ⟨fun a=>⟨fun hK ok=>by
  simp only [okL,okO,and_eq_true,decide_eq_true_eq] at ok;obtain ⟨o1,o2,o2',o3,o4,o5⟩:=ok;have:=eva_3 o1 (way_op (js hi) rfl (qc (H.go a.1) fun _ _ _ n=>⟨n.1,iT n.2 hK o3⟩)) (way_op (js hj) rfl (qc (H'.go a.2.1) fun _ _ _ n=>⟨n.1,o2 ▸ iT n.2 hK o4⟩)) (way_op (js hk) rfl (qc (H''.go a.2.2) fun _ _ _ n=>⟨n.1,o2' ▸ iT n.2 hK o5⟩));simpa [odn] using this⟩⟩
theorem t_dup {B:Prop} (H:ZT G (B/\B)):ZT G B:=⟨fun a=>H.go ⟨a,a⟩⟩
theorem t_dup3 {B:Prop} (H:ZT G (B/\B/\B)):ZT G B:=⟨fun a=>H.go ⟨a,a,a⟩⟩
theorem t_both {A B:Hp->Prop} (H:ZT G (A h/\B h)):ZT G (dL A B h):=H
theorem t_both3 {A B C:Hp->Prop} (H:ZT G (A h/\B h/\C h)):ZT G (dL A (dL B C) h):=H
theorem t_and {B C:Prop} (hB:B) (H:ZT C A):ZT (B/\C) A:=⟨fun a=>⟨hB,H.go a⟩⟩
end
end
def fsts:List (Nat × Operand)->Option (List Nat)
 | []=>some []
 | (i,_)::l=>match fsts l with
  | some r=>some (i::r)
  | none=>none
theorem fsts_eq:∀ {l:List (Nat × Operand)} {r:List Nat},fsts l = some r->l.map (·.1) = r
 | [],r,e=>by simp [fsts] at e; simp [e]
 | (i,x)::l,r,e=>by
  simp only [fsts] at e;split at e
  ·rename_i s hs;cases e;simp [fsts_eq hs]
  ·cases e
section
variable {P:Program} {X:Cx} {ρ:Env} {h:Hp} {L E:Bx} {dst:Option Tmp} {ty:TypeId} {pos:String} {af:Array Edge} {g:Option (Nat × Bool)}
theorem x_eq {o:Oper} {m m':Sem Value} (ht:Tx X ρ o m') (e:m = m'):Tx X ρ o m:=e ▸ ht
theorem v_lenZ {x:Operand} {U E:Nat} {p:Option Addr} {n c:Nat} {ts:Array TypeId} (hts:nth ts.toList 0 = some U) (hT:P.underlying U = some (.slice E)) (hx:ev ρ x = some (.slice p n c)) :
  bM P X ρ ⟨dst,.call ⟨.builtin .len,#[x],ts⟩,ty,pos,af,g⟩ (.int .i64 n):=v_len (by rw [nth_eq] at hts; simpa using hts) hT hx
theorem v_capZ {x:Operand} {U E:Nat} {p:Option Addr} {n c:Nat} {ts:Array TypeId} (hts:nth ts.toList 0 = some U) (hT:P.underlying U = some (.slice E)) (hx:ev ρ x = some (.slice p n c)) :
  bM P X ρ ⟨dst,.call ⟨.builtin .cap,#[x],ts⟩,ty,pos,af,g⟩ (.int .i64 c):=v_cap (by rw [nth_eq] at hts; simpa using hts) hT hx
theorem v_lenSZ {x:Operand} {U:Nat} {s:ByteArray} {ts:Array TypeId} (hts:nth ts.toList 0 = some U) (hT:P.underlying U = some .string) (hx:ev ρ x = some (.string s)) :
  bM P X ρ ⟨dst,.call ⟨.builtin .len,#[x],ts⟩,ty,pos,af,g⟩ (.int .i64 s.size):=v_lenS (by rw [nth_eq] at hts; simpa using hts) hT hx
theorem v_buC {S:TypeId} {ps:List (Nat × Operand)} {is:List Nat} {vs:List Value} {v:Value} {F:List Value->Option Value} (hi:fsts ps = some is) (hx:evs ρ (ps.map (·.2)) = some vs) (C:BuC P S is F) (hF:F vs = some v) :
  bM P X ρ ⟨dst,.build S ps.toArray,ty,pos,af,g⟩ v:=v_build hx (by rw [fsts_eq hi]; exact C.ok vs v hF)
theorem v_eqC {α:Type} {S U:TypeId} {x y:Operand} {xs ys:List Value} {u v:α} {C:α->List Value} {D:List Value->Option α} {f:α->α->Bool} (hx:ev ρ x = some (.agg xs.toArray)) (hy:ev ρ y = some (.agg ys.toArray)) (c:EqC P S C D f) (hu:D xs = some u) (hv:D ys = some v) :
  bM P X ρ ⟨dst,.binOp .eql S x y U,ty,pos,af,g⟩ (.bool (f u v)):=by
 rw [c.de _ _ hu] at hx;rw [c.de _ _ hv] at hy;exact v_eqA (c.ok u v).1 (c.ok u v).2 hx hy
theorem v_neC {α:Type} {S U:TypeId} {x y:Operand} {xs ys:List Value} {u v:α} {C:α->List Value} {D:List Value->Option α} {f:α->α->Bool} (hx:ev ρ x = some (.agg xs.toArray)) (hy:ev ρ y = some (.agg ys.toArray)) (c:EqC P S C D f) (hu:D xs = some u) (hv:D ys = some v) :
  bM P X ρ ⟨dst,.binOp .neq S x y U,ty,pos,af,g⟩ (.bool (!(f u v))):=by
 rw [c.de _ _ hu] at hx;rw [c.de _ _ hv] at hy;exact v_neA (c.ok u v).1 (c.ok u v).2 hx hy
def subE:List Value->Nat->Nat->Option (List Value)
 | _,0,0=>some []
 | x::l,0,n + 1=>match subE l 0 n with
  | some r=>some (x::r)
  | none=>none
 | _::l,i + 1,n=>subE l i n
 | _,_,_=>none
theorem sS:∀ (l:List Value) (i n:Nat) (m:List Value),subE l i n = some m->(l.drop i).take n = m/\m.length = n
 | l,0,0,m,e=>by simp [subE] at e; subst e; simp
 | x::l,0,n + 1,m,e=>by
  simp only [subE] at e;split at e
  ·rename_i r hr;cases e;obtain ⟨h1,h2⟩:=sS l 0 n r hr;simp at h1 ⊢;exact ⟨h1,h2⟩
  ·cases e
 | x::l,i + 1,n,m,e=>by
  have:=sS l i n m (by simpa [subE] using e);simpa using this
 | [],0,n + 1,m,e=>by simp [subE] at e
 | [],i + 1,n,m,e=>by simp [subE] at e
theorem v_ldBw {x:Operand} {U U' k b n:Nat} {l:List Value} (hT:Ag P U n) (hx:ev ρ x = some (.pointer (some ⟨b,0,none⟩))) (hk:L[k]? = some (bx b U' l)) (hn:l.length = n) :
  gR P X ρ h L ⟨dst,.load U x,ty,pos,af,g⟩ (.agg l.toArray):=v_ldBs hT hx hk (by subst hn; simp) hn
theorem v_ldBp {x:Operand} {U U' k b off n:Nat} {l m:List Value} (hT:Ag P U n) (hx:ev ρ x = some (.pointer (some ⟨b,off,none⟩))) (hk:L[k]? = some (bx b U' l)) (hm:subE l off n = some m) :
  gR P X ρ h L ⟨dst,.load U x,ty,pos,af,g⟩ (.agg m.toArray):=v_ldBs hT hx hk (sS _ _ _ _ hm).1 (sS _ _ _ _ hm).2
theorem v_ldEw {x:Operand} {U U' k b n:Nat} {l:List Value} (hT:Ag P U n) (hx:ev ρ x = some (.pointer (some ⟨b,0,none⟩))) (hk:E[k]? = some (bx b U' l)) (hn:l.length = n) :
  il P X ρ E ⟨dst,.load U x,ty,pos,af,g⟩ (.agg l.toArray):=v_ldEs hT hx hk (by subst hn; simp) hn
theorem v_ldEp {x:Operand} {U U' k b off n:Nat} {l m:List Value} (hT:Ag P U n) (hx:ev ρ x = some (.pointer (some ⟨b,off,none⟩))) (hk:E[k]? = some (bx b U' l)) (hm:subE l off n = some m) :
  il P X ρ E ⟨dst,.load U x,ty,pos,af,g⟩ (.agg m.toArray):=v_ldEs hT hx hk (sS _ _ _ _ hm).1 (sS _ _ _ _ hm).2
theorem v_ldBd {α:Type} {x:Operand} {U U' k b:Nat} {i:Int} {n:Nat} {l:List Value} {u:α} {C:α->List Value} {D:List Value->Option α} {f:α->Int->Value} (hT:Sc P U) (hx:ev ρ x = some (.pointer (some ⟨b,0 + i.toNat * 1,none⟩))) (hk:L[k]? = some (bx b U' l)) (c:GtC P U' n C D f) (hb:0 <= i/\i < n) (hu:D l = some u) :
  gR P X ρ h L ⟨dst,.load U x,ty,pos,af,g⟩ (f u i):=v_ldB hT hx hk (by rw [c.de _ _ hu]; exact c.ok u i hb)
theorem v_ldEd {α:Type} {x:Operand} {U U' k b:Nat} {i:Int} {n:Nat} {l:List Value} {u:α} {C:α->List Value} {D:List Value->Option α} {f:α->Int->Value} (hT:Sc P U) (hx:ev ρ x = some (.pointer (some ⟨b,0 + i.toNat * 1,none⟩))) (hk:E[k]? = some (bx b U' l)) (c:GtC P U' n C D f) (hb:0 <= i/\i < n) (hu:D l = some u) :
  il P X ρ E ⟨dst,.load U x,ty,pos,af,g⟩ (f u i):=v_ldE hT hx hk (by rw [c.de _ _ hu]; exact c.ok u i hb)
end
theorem iV {P:Program} {τ:Type} {f:FuncId} {vs:List Value} {enc:τ->Value} {K:τ->Hp->Prop} {h:Hp} (H:cl P f vs enc K h):Ct P f vs.toArray h fun v h'=>∃ r,v = enc r/\K r h':=H
theorem o_l {a b:Bool} (h:a = true):(a || b) = true:=by simp [h]
theorem o_r {a b:Bool} (h:b = true):(a || b) = true:=by simp [h]
theorem a_l {a b:Bool} (h:a = false):(a && b) = false:=by simp [h]
theorem a_r {a b:Bool} (h:b = false):(a && b) = false:=by simp [h]
theorem o_f {a b:Bool} (h:a = false) (k:b = false):(a || b) = false:=by simp [h,k]
theorem a_t {a b:Bool} (h:a = true) (k:b = true):(a && b) = true:=by simp [h,k]
theorem n_t {a:Bool} (h:a = false):(!a) = true:=by simp [h]
theorem n_f {a:Bool} (h:a = true):(!a) = false:=by simp [h]
theorem zk1 {c v:Bool} (H:c = v:=by first
  | assumption
  | (apply b_l; assumption)
  | (apply b_r; assumption)
  | (apply b_ol; assumption)
  | (apply b_or; assumption)):c = v:=H
theorem zkn {c v:Bool} (H:c = v:=by first
  | exact zk1
  | (apply b_not; exact zk1)
  | (apply b_not2; exact zk1)
  | (apply b_l; exact zk1)
  | (apply b_r; exact zk1)
  | (apply b_ol; exact zk1)
  | (apply b_or; exact zk1)):c = v:=H
theorem zk2 {c v:Bool} (H:c = v:=by first
  | exact zkn
  | (apply o_l; exact zkn)
  | (apply o_r; exact zkn)
  | (apply a_l; exact zkn)
  | (apply a_r; exact zkn)
  | (apply n_t; exact zkn)
  | (apply n_f; exact zkn)
  | (apply o_f; exact zkn; exact zkn)
  | (apply a_t; exact zkn; exact zkn)):c = v:=H
theorem zkz {c v:Bool} (H:c = v:=by first
  | exact zk2
  | (apply o_l; exact zk2)
  | (apply o_r; exact zk2)
  | (apply a_l; exact zk2)
  | (apply a_r; exact zk2)
  | (apply o_f; exact zk2; exact zk2)
  | (apply a_t; exact zk2; exact zk2)):c = v:=H
theorem zkr {c v:Bool} (H:c = v:=by first
  | exact rfl
  | exact zkn):c = v:=H
theorem zog {ρ:Env} {x:Operand} {t:Bool} {v:Value} (H:ev ρ x = some (gv t v):=by first
  | exact rfl
  | (apply kH; exact rfl; apply gv_and; exact zkn)):ev ρ x = some (gv t v):=H
theorem zoo {ρ:Env} {x:Operand} {v:Value} (H:ev ρ x = some v:=by first
  | exact rfl
  | (apply iQ; exact rfl; exact zkn)):ev ρ x = some v:=H
theorem zom {ρ:Env} {x:Operand} {v:Value} (H:ev ρ x = some v:=by first
  | (apply iQ; exact rfl; exact zkn)
  | exact rfl):ev ρ x = some v:=H
theorem zes {ρ:Env} {xs:List Operand} {vs:List Value} (H:evs ρ xs = some vs:=by repeat first | exact evs_nil | (apply evs_cons; exact zom)):evs ρ xs = some vs:=H
theorem zoa {ρ:Env} {x:Operand} {v:Value} (H:ev ρ x = some v:=by first
  | exact rfl
  | exact kH rfl (pv_some (by assumption))
  | exact kH rfl (cN (by assumption))
  | exact iQ rfl zkn
  | exact kH (iQ rfl zkn) (pv_some (by assumption))
  | exact kH (iQ rfl zkn) (cN (by assumption))):ev ρ x = some v:=H
theorem zea {ρ:Env} {xs:List Operand} {vs:List Value} (H:evs ρ xs = some vs:=by first | exact rfl | repeat first | exact evs_nil | (apply evs_cons; exact zoa)):evs ρ xs = some vs:=H
theorem zad {ρ:Env} {x:Operand} {b o:Nat} (H:ev ρ x = some (.pointer (some ⟨b,o,none⟩)):=by first
  | exact rfl
  | exact kH rfl (pv_some (by assumption))
  | exact iQ rfl zkn
  | exact kH (iQ rfl zkn) (pv_some (by assumption))):ev ρ x = some (.pointer (some ⟨b,o,none⟩)):=H
theorem zsli {ρ:Env} {x:Operand} {b o n c:Nat} (H:ev ρ x = some (.slice (some ⟨b,o,none⟩) n c):=by first
  | exact kH rfl (cN (by assumption))
  | exact kH (iQ rfl zkn) (cN (by assumption))):ev ρ x = some (.slice (some ⟨b,o,none⟩) n c):=H
theorem zda {p:Prop} (H:p:=by first
  | assumption
  | decide):p:=H
theorem znb {L:Bx} {k:Nat} {x:Nat × Obj} (H:L[k]? = some x:=by first
  | exact nb0
  | exact nbS nb0
  | exact nbS (nbS nb0)
  | exact nbS (nbS (nbS nb0))
  | exact nbS (nbS (nbS (nbS nb0)))
  | exact nbS (nbS (nbS (nbS (nbS nb0))))
  | exact nbS (nbS (nbS (nbS (nbS (nbS nb0)))))):L[k]? = some x:=H
theorem zvw {P:Program} {X:Cx} {ρ:Env} {o:Oper} {v:Value} (H:bM P X ρ o v:=by first
  | (apply gG; exact FlC.ok; exact zad)
  | (apply aV; exact zom)
  | (apply v_nil; exact zad)
  | (apply nR; exact rfl; exact zkr; exact zoo)
  | (apply nQ; exact rfl; exact zkr; exact zoo)
  | (apply v_or; exact zoo; exact zog)
  | (apply v_and; exact zoo; exact zog)
  | (apply v_eq; exact zoo; exact zoo)
  | (apply xc; exact zoo; exact zoo)
  | (apply v_ge; exact zoo; exact zoo)
  | (apply v_gt; exact zoo; exact zoo)
  | (apply v_le; exact zoo; exact zoo)
  | (apply v_ne; exact zoo; exact zoo)
  | (apply kI; exact zoo; exact zoo)
  | (apply rK; exact zoo; exact zoo)
  | (apply v_mul; exact zoo; exact zoo)
  | (apply v_not; exact zoo)
  | (apply v_buC; exact rfl; exact rfl; exact inferInstance; exact rfl)
  | (apply v_ixArr; exact ArC.ok; exact zad; exact zoo; exact zda)
  | (apply fd; exact SlC.ok; exact zsli; exact zoo; assumption)
  | (apply v_lenZ; exact rfl; exact UnC.ok; exact zoo)
  | (apply xd; exact ⟨_,UnC.ok⟩; exact UnC.ok; exact zoo)
  | (apply v_peqT; exact UnC.ok; exact zoo)
  | (apply v_peq; exact UnC.ok; exact zad)
  | (apply v_pneT; exact UnC.ok; exact zoo)
  | (apply v_pne; exact UnC.ok; exact zad)
  | (apply v_rem; exact zoo; exact zoo; exact zda)
  | (apply v_quo; exact zoo; exact zoo; exact zda)
  | (apply v_shr; exact zoo; exact zoo; exact zda)
  | (apply v_shl; exact zoo; exact zoo; exact zda)
  | (apply v_iand; exact zoo; exact zoo)
  | (apply v_ior; exact zoo; exact zoo)
  | (apply v_iandnot; exact zoo; exact zoo)
  | (apply v_ixor; exact zoo; exact zoo)
  | (apply v_ixStr; exact UnC.ok; exact zoo; exact zoo; assumption)
  | (apply v_eqC; exact zoo; exact zoo; exact inferInstance; exact rfl; exact rfl)
  | (apply v_neC; exact zoo; exact zoo; exact inferInstance; exact rfl; exact rfl)
  | (apply v_func; exact rfl; exact rfl)
  | (apply v_neg; exact zoo)
  | (apply v_seqT; exact UnC.ok; exact zoo)
  | (apply v_sneT; exact UnC.ok; exact zoo)
  | (apply v_capZ; exact rfl; exact UnC.ok; exact zoo)
  | (apply v_lenSZ; exact rfl; exact UnC.ok; exact zoo)
  | (apply v_maxT; exact zoo; exact zoo)
  | (apply v_minT; exact zoo; exact zoo)
  | (apply v_bne; exact UnC.ok; exact zoo; exact zoo)
  | (apply v_beq; exact UnC.ok; exact zoo; exact zoo)
  | (apply v_and2; exact zoo; exact zoo)
  | (apply v_or2; exact zoo; exact zoo)
  | (apply mB; exact zom)
  | (apply sR; exact zoo; exact rfl)):bM P X ρ o v:=H
theorem zvc {P:Program} {X:Cx} {ρ:Env} {h:Hp} {L:Bx} {o:Oper} {v:Value} (H:gR P X ρ h L o v:=by first
  | (apply v_ldB; exact ScC.ok; exact zad; exact znb; exact rfl)
  | (apply v_ldBd; exact ScC.ok; exact zad; exact znb; exact inferInstance; assumption; exact rfl)
  | (apply v_ldBw; exact AgC.ok; exact zad; exact znb; exact rfl)
  | (apply v_ldBp; exact AgC.ok; exact zad; exact znb; exact rfl)):gR P X ρ h L o v:=H
theorem zvE {P:Program} {X:Cx} {ρ:Env} {E:Bx} {o:Oper} {v:Value} (H:il P X ρ E o v:=by first
  | (apply ve; exact zvw)
  | (apply v_ldE; exact ScC.ok; exact zad; exact znb; exact rfl)
  | (apply v_ldEd; exact ScC.ok; exact zad; exact znb; exact inferInstance; assumption; exact rfl)
  | (apply v_ldEw; exact AgC.ok; exact zad; exact znb; exact rfl)
  | (apply v_ldEp; exact AgC.ok; exact zad; exact znb; exact rfl)):il P X ρ E o v:=H
theorem zvv {P:Program} {X:Cx} {ρ:Env} {h:Hp} {L:Bx} {o:Oper} {v:Value} (H:Val P X ρ h L o v:=by first
  | (apply cv; exact zvc)
  | (apply wv; exact zvw)):Val P X ρ h L o v:=H
theorem ztx {X:Cx} {ρ:Env} {o:Oper} {m:Sem Value} (H:Tx X ρ o m:=by first
  | (apply x_append; exact zoa; exact zoa)
  | (apply x_makeSlice; exact zoa; exact zoa)
  | (apply x_slice; exact zoa; exact rfl; exact rfl; exact rfl; exact rfl)
  | (apply x_copy; exact zoa; exact zoa)
  | (apply x_clear; exact zoa)
  | (apply x_lenM; exact zoa)
  | (apply x_makeMap0)
  | (apply x_lookup; exact zoa; exact zoa)
  | (apply x_index; exact zoa; exact zoa)
  | (apply x_fieldV; exact zoa)
  | (apply x_makeInterface; exact zoa)
  | (apply x_typeAssert; exact zoa)
  | (apply x_convert; exact zoa)
  | (apply x_binOp; exact zoa; exact zoa)
  | (apply x_load; exact zoa)
  | (apply x_alloc)
  | (apply x_box; exact zoa)
  | (apply x_eq; apply x_buildSlice; exact rfl; exact rfl)
  | (apply x_eq; apply x_build; exact rfl; exact rfl)):Tx X ρ o m:=H
theorem zsb {L L':Bx} (H:L.Sublist L':=by repeat first | apply List.Sublist.slnil | apply List.Sublist.refl | apply List.Sublist.cons_cons | apply List.Sublist.cons):L.Sublist L':=H
theorem zrv {P:Program} {X:Cx} {ρ:Env} {h:Hp} {L:Bx} {r:ResultVar} {v:Value} (H:RV P X ρ h L r v:=by first
  | (apply rv_t; exact rfl)
  | (apply rv_c; exact rfl; exact ScC.ok; exact znb; exact rfl)
  | (apply rv_cs'; exact rfl; exact AgC.ok; exact znb; exact rfl)):RV P X ρ h L r v:=H
theorem zrs {P:Program} {X:Cx} {ρ:Env} {h:Hp} {L:Bx} {fn:Func} {v:Value} (H:Res P X fn ρ h L v:=by first
  | (apply res_1; exact rfl; exact zrv)
  | (apply res_0; exact rfl)
  | (apply res_2; exact rfl; exact zrv; exact zrv)):Res P X fn ρ h L v:=H
theorem zgq {u:Value} {w c:Bool} (H:(asB u == some w) = c:=by first
  | apply lz
  | apply asB_f
  | apply asB_gt
  | apply ql):(asB u == some w) = c:=H
theorem zgon {v:Value} {w:Bool} (H:v = .bool w:=by first
  | exact rfl
  | exact congrArg Value.bool zkn
  | exact (gv_t zkn _).trans (congrArg Value.bool zkr)):v = .bool w:=H
theorem zgoff {v:Value} {w:Bool} (H:(asB v == some w) = false:=by first
  | exact rfl
  | (apply uL; exact zkn)
  | (apply off_f; exact zkn)
  | (apply off_g; exact zkn)
  | (apply off_gt; exact zkn; apply uL; exact zkn)
  | (apply off_gt; exact zkn; apply off_f; exact zkn)):(asB v == some w) = false:=H
theorem J {P:Program} {A:Prop} {h:Hp} {τ:Type} {f:FuncId} {fn:Func} {c:Code} {n:Nat} {vs:List Value} {enc:τ->Value} {S:τ->Hp->Prop} (q:List Nat) (hf:P.funcs[f]? = some fn) (a:A) (hb:fn.body = some c:=by exact rfl) (hn:fn.ntmps = n:=by exact rfl)
  (hl:Nat.ble vs.length n = true:=by exact rfl) (H:∀ w0,ZT (goC P ⟨n,w0,h⟩ q c (args0 0 vs) h [] (retG P ⟨n,w0,h⟩ fn (fun v h'=>∃ r,v = enc r/\S r h'))) A:=by
 intro w0
 repeat'
  conv=>arg 1; whnf
  first
  | (apply t_op)
  | (apply t_ld; exact ScC.ok; exact zad; exact (fun _=>rfl); exact rfl; intro _)
  | (apply t_cl; exact EnC.ok; exact zea; exact rfl; intro _ _)
  | (apply t_val; exact zvv; exact rfl)
  | (apply t_stB; exact InC.ok; exact zad; exact znb; exact rfl; exact rfl; exact rfl; exact rfl; exact rfl; exact rfl)
  | (apply t_hpv; exact ztx; exact rfl; intro _ _)
  | (apply t_clp; exact EnC.ok; exact rfl; exact rfl; exact rfl)
  | (apply t_st; exact InC.ok; exact zad; exact rfl; exact rfl; exact rfl; exact rfl; intro _)
  | (apply t_lds; exact AgC.ok; exact zad; exact (fun _=>rfl); exact rfl; intro _)
  | (apply t_box; exact rfl; exact rfl; exact rfl; intro _ _)
  | (apply t_alloc; exact ZeC.ok; exact rfl; exact rfl; intro _ _)
  | (apply t_boxB; exact rfl; exact rfl; exact rfl; intro _)
  | (apply t_allocB; exact ZeC.ok; exact rfl; exact rfl; intro _)
  | (apply t_cl0; exact EnC.ok; exact zea; intro _ _)
  | (apply t_clv; exact rfl; exact zea; exact rfl; intro _ _)
  | (apply t_hpv0; exact ztx; intro _ _)
  | (apply t_cln; exact (x_invoke zoa zea); exact rfl; intro _ _)
  | (apply t_cln; exact (x_callF zea); exact rfl; intro _ _)
  | (apply t_hpu; exact (u_store zoa zoa); intro _)
  | (apply t_hpu; exact (qE zoa zoa zoa); intro _)
  | (apply t_off; exact rfl; exact rfl; exact rfl; exact zgoff; exact rfl)
  | (apply t_on; exact rfl; exact rfl; exact rfl; exact zgon)
  | (apply t_guard; exact rfl; exact rfl; exact rfl; exact zgq; exact (fun _=>zvv); exact rfl)
  | (apply t_guardc; exact rfl; exact rfl; exact rfl; exact zgq; exact EnC.ok; exact (fun _=>zes); exact rfl; exact rfl)
  | (apply t_yes; exact rfl; exact rfl)
  | (apply t_nay; exact rfl; exact rfl)
  | (apply t_ret; exact zrs)
  | (apply t_lp; exact rfl; exact rfl; exact rfl; exact zsb)
  | (apply t_loop; assumption; exact rfl; exact rfl; exact rfl; exact zsb; intro _ _ _)
  | (apply t_cut; assumption; exact rfl; rotate_left; intro _ _; rotate_left)
  | (apply t_draw; assumption; infer_instance; exact rfl; kernel_rfl; exact (fun _ _ _ _=>id))
  | (apply t_and; exact zsb)
  | (apply a_val; exact rfl; exact rfl; exact zvE; exact rfl)
  | (apply a_off; exact rfl; exact rfl; exact rfl; exact rfl; exact rfl; exact zgoff; exact rfl)
  | (apply a_off1; exact rfl; exact rfl; exact rfl; exact rfl; exact rfl; exact zgoff; exact rfl)
  | (apply a_off2; exact rfl; exact rfl; exact rfl; exact rfl; exact rfl; exact zgoff; exact rfl)
  | (apply a_off3; exact rfl; exact rfl; exact rfl; exact rfl; exact rfl; exact zgoff)
  | (apply a_on; exact rfl; exact rfl; exact rfl; exact rfl; exact rfl; exact zgon; exact zvE; exact rfl)
  | (apply a_ld; exact rfl; exact rfl; exact ScC.ok; exact zad; exact (fun _=>rfl); exact rfl; intro _)
  | (apply a_lds; exact rfl; exact rfl; exact AgC.ok; exact zad; exact (fun _=>rfl); exact rfl; intro _)
  | (apply a_ldg; exact rfl; exact rfl; exact rfl; exact rfl; exact rfl; exact zgon; exact ScC.ok; exact zad; exact (fun _=>rfl); exact rfl; intro _)
  | (apply a_valC; exact rfl; exact rfl; exact zvc; exact rfl)
  | (apply a_valCg; exact rfl; exact rfl; exact rfl; exact rfl; exact rfl; exact zgon; exact zvc; exact rfl)
  | (apply a_op; exact rfl; exact rfl)
  | (apply a_opg; exact rfl; exact rfl; exact rfl; exact rfl; exact rfl; exact zgon)
  | (apply t_both3; apply a_tt; exact rfl; exact rfl; exact rfl)
  | (apply t_both; apply a_b; exact rfl; exact rfl)
  | (apply t_dup; apply a_b; exact rfl; exact rfl)
  | (apply t_dup3; apply a_tt; exact rfl; exact rfl; exact rfl)
  | (apply t_nn; intro _ _)
  | (apply t_ix; intro _ _ _)
  | (apply t_gd; intro _)
  | (apply t_no)
  | apply t_brt
  | apply t_brf
  | (apply t_br <;> intro k <;> try rw [k])
  | (apply t_yes; exact rfl; exact zkz)
  | (apply t_nay; exact rfl; exact zkz)):cl P f vs enc S h:=t_in q hf hb hn hl H a
end Mb
end
end Go.Proofs.YtjcamacgclipiaaGreatDoor
