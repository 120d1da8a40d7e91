/- Part of the proof of: The law KernBuffers returns true for every input, and leaves its arguments as they were. -/
import Derived.Test.YtjcamacgclipiaaGreatDoorKernBuffers00
set_option linter.all false
set_option maxRecDepth 20000
set_option maxHeartbeats 4000000
namespace Go.Proofs.YtjcamacgclipiaaGreatDoor
open Go.Proofs.Tryz
open Go.IntKind (i64 u64)
open _root_.Bool (and_eq_true)
open _root_.List (all_eq_true map_cons map_nil map_toArray range)
open _root_.Option (map_some)
section
open Go
namespace Mb
def bC {α:Type} (P:Program):Sem α->Prop
 | .pure _=>True
 | .load _ _ k=>∀ v,bC P (k v)
 | .store ..=>False
 | .new _ k=>∀ r,bC P (k r)
 | .shape _ k=>∀ s,bC P (k s)
 | .freeze ..=>False
 | .frozen _ k=>∀ b,bC P (k b)
 | .getObj _ k=>∀ o,bC P (k o)
 | .setObj ..=>False
 | .choose _ k=>∀ n,bC P (k n)
 | .sys ..=>False
 | .program k=>bC P (k P)
 | .mark _ k=>bC P k
 | .halt _=>True
theorem bC.bind {α β:Type} {P:Program} {f:α->Sem β} (hf:∀ a,bC P (f a)):∀ {m:Sem α},bC P m->bC P (m.bind f):=by
 intro m
 induction m with
 | pure a=>intro _; exact hf a
 | load md a k ih=>intro h v; exact ih v (h v)
 | store md a v k ih=>intro h; exact h.elim
 | new o k ih=>intro h r; exact ih r (h r)
 | shape r k ih=>intro h s; exact ih s (h s)
 | freeze a n k ih=>intro h; exact h.elim
 | frozen a k ih=>intro h b; exact ih b (h b)
 | getObj r k ih=>intro h o; exact ih o (h o)
 | setObj r o k ih=>intro h; exact h.elim
 | choose q k ih=>intro h n; exact ih n (h n)
 | sys c k ih=>intro h; exact h.elim
 | program k ih=>intro h; exact ih P h
 | mark m k ih=>intro h; exact ih h
 | halt x=>intro _; exact True.intro
theorem bC.bind' {α β:Type} {P:Program} {f:α->Sem β} {m:Sem α} (hm:bC P m) (hf:∀ a,bC P (f a)):bC P (m >>= f):=bC.bind hf hm
theorem bC.ext {α:Type} {P:Program}:∀ {m:Sem α} {w w':World} {x:α},bC P m->m.run P w = .ok x w'->Ext w w':=by
 intro m
 induction m with
 | pure a=>intro w w' x _ h; cases h; exact fun _ _ e=>e
 | load md a k ih =>
  intro w w' x hn h;simp only [Sem.run] at h;split at h
  ·exact ih _ (hn _) h
  ·split at h
   ·exact ih _ (hn _) h
   ·cases h
 | store md a v k ih=>intro w w' x hn; exact hn.elim
 | new o k ih =>
  intro w w' x hn h b p e;refine ih _ (hn _) h b p ?_;show (w.heap.push o)[b]? = some p;have:=(Array.getElem?_eq_some_iff.1 e).1;rw [Array.getElem?_push,if_neg (by omega)]; exact e
 | shape r k ih=>intro w w' x hn h; exact ih _ (hn _) h
 | freeze a n k ih=>intro w w' x hn; exact hn.elim
 | frozen a k ih=>intro w w' x hn h; exact ih _ (hn _) h
 | getObj r k ih =>
  intro w w' x hn h;simp only [Sem.run] at h;split at h
  ·cases h
  ·exact ih _ (hn _) h
  ·cases h
 | setObj r o k ih=>intro w w' x hn; exact hn.elim
 | choose q k ih =>
  intro w w' x hn h;simp only [Sem.run] at h;split at h
  ·exact ih _ (hn _) h
  ·exact ih (q.cut (w.tape w.drawn q)) (hn _) (w:={ w with drawn:=w.drawn + 1 }) h
 | sys c k ih=>intro w w' x hn; exact hn.elim
 | program k ih=>intro w w' x hn h; exact ih P hn h
 | mark m k ih=>intro w w' x hn h; exact ih hn h
 | halt y=>intro w w' x _ h; cases h
def Grows (P:Program) (o:Oper):Prop:=∀ ρ:Operand->Value,bC P (execOp ρ o)/\∀ w n w',(execOp ρ o).run P w = .ok n w'->∃ v,n = .value v
theorem gT {P:Program} {m:Sem Value} (hn:bC P m) {s:Sem Next} (e:s = (do pure (Next.value (← m)))):bC P s/\∀ w n w',s.run P w = .ok n w'->∃ v,n = .value v:=by
 subst e;refine ⟨bC.bind' hn fun _=>True.intro,fun w n w' h=>?_⟩;simp only [bind_pure_comp,Sem.run_map] at h;cases hr:m.run P w with
 | ok v w1 =>
  rw [hr] at h;simp only [Result.andThen_ok] at h;cases h;exact ⟨v,rfl⟩
 | halt x w1=>rw [hr] at h; cases h
theorem Grows.run {P:Program} {o:Oper} (hg:Grows P o) {ρ:Operand->Value} {w w':World} {n:Next} (h:(execOp ρ o).run P w = .ok n w'):Ext w w'/\∃ v,n = .value v :=
 ⟨(hg ρ).1.ext h,(hg ρ).2 _ _ _ h⟩
section
variable {P:Program} {ops:Array Oper} {Q:Exit->Act->World->Prop}
def unl (listed:Array Bool) (k:Nat):Bool:=!listed.getD k true
def wC (P:Program) (ops:Array Oper) (Q:Exit->Act->World->Prop) (C:World->Prop):Nat->Array Bool->Act->World->Prop
 | 0,listed,a,w=>Region.ready .any ops listed = []/\Q .normal a w
 | fuel + 1,listed,a,w =>
  (Region.ready .any ops listed = []->Q .normal a w) /\
  ∀ i ∈ Region.ready .any ops listed,wpOp P ops Q i (fun a w=>C w/\wC P ops Q C fuel (listed.setIfInBounds i true) a w) a w
theorem wC_any {C:World->Prop}:∀ (fuel:Nat) (listed:Array Bool) (a:Act) (w:World),wC P ops Q C fuel listed a w->wpAny P .any ops Q fuel listed a w
 | 0,_,_,_,h=>h
 | fuel + 1,_,_,_,h=>⟨h.1,fun i hi=>wpOp_mono (fun a w hh=>wC_any fuel _ a w hh.2) (h.2 i hi)⟩
def Yc (P:Program) (ops:Array Oper) (C:World->Prop) (o:Oper) (v:Value) (a:Act):Prop :=
 (Region.wanted o (yielded ops a.tmps) = true/\∀ w,C w->(execOp a.eval o).run P w = .ok (.value v) w) \/
 (Region.wanted o (yielded ops a.tmps) = false/\v = undef)
theorem Yc.of_same {C:World->Prop} {o:Oper} {v:Value} {a a':Act} (hy:Yc P ops C o v a) (he:execOp a'.eval o = execOp a.eval o)
  (hw:Region.wanted o (yielded ops a'.tmps) = Region.wanted o (yielded ops a.tmps)):Yc P ops C o v a':=by
 unfold Yc at *
 rw [he,hw];exact hy
theorem Yc.wpOp {C:World->Prop} {i:Nat} {o:Oper} {v:Value} {a:Act} (hi:ops[i]? = some o) (hy:Yc P ops C o v a)
  {K:Act->World->Prop} {w:World} (hC:C w) (h:K (a.put o.dst v) w):wpOp P ops Q i K a w:=by
 unfold Go.wpOp;simp only [hi];rcases hy with ⟨hw,hv⟩ | ⟨hw,rfl⟩
 ·simp only [hw,if_true,Oper.wp,hv w hC,Oper.upon]; exact .inl h
 ·simp only [hw,Bool.false_eq_true,if_false]; exact h
theorem wpOp_putC {C D:World->Prop} {j:Nat} {oi oj:Oper} {v:Value} (hj:ops[j]? = some oj) (hap:oi.apart ops oj = true)
  (hsi:∀ cs b,oi.op ≠ .select cs b) (hsj:∀ cs b,oj.op ≠ .select cs b)
  (hQ:∀ c a w,Q (.panic c) (a.put oi.dst v) w->Q (.panic c) a w)
  (hC:(∀ w,D w->C w)\/(Grows P oj/\∀ w w',Ext w w'->C w->C w')) {K:Act->World->Prop} {a:Act} {w:World} (hw0:C w) (hd0:D w)
  (hy:Yc P ops C oi v a) (h:wpOp P ops Q j (fun a' w'=>D w'/\K a' w') (a.put oi.dst v) w) :
  wpOp P ops Q j (fun a' w'=>D w'/\C w'/\Yc P ops C oi v a'/\K (a'.put oi.dst v) w') a w:=by
 obtain ⟨h1,h2,h3⟩:=Oper.apart_spec hap;have keep:∀ (a:Act),Yc P ops C oi v a->∀ u,Yc P ops C oi v (a.put oj.dst u):=fun a hy u =>
  hy.of_same (execOp_put oi hsi a oj.dst u h3) (wanted_put oi a oj.dst u h3)
 have keepD:∀ d,Yc P ops C oi v { a with defers:=d::a.defers }:=fun d=>hy.of_same rfl rfl;unfold wpOp at *
 simp only [hj] at *
 rw [wanted_put oj a oi.dst v h1] at h;split
 ·rename_i hw;simp only [hw,if_true] at h;rcases h with h | ⟨hasks,hlets⟩
  case inr=>exact .inr ⟨by unfold Oper.asks at *; rw [execOp_put oj hsj a oi.dst v h1] at hasks; exact hasks,hlets⟩
  refine .inl ?_;unfold Oper.wp at *
  rw [execOp_put oj hsj a oi.dst v h1] at h;generalize hr:(execOp a.eval oj).run P w = r at *
  cases r with
  | ok n w' =>
   have hCn:(∀ w,D w->C w)\/(C w'/\∃ u,n = .value u):=by
    rcases hC with hC | ⟨hg,hC⟩
    ·exact .inl hC
    ·obtain ⟨he,hu⟩:=hg.run hr;exact .inr ⟨hC _ _ he hw0,hu⟩
   cases n <;> simp only [Oper.upon] at h ⊢
   case value u=>exact ⟨h.1,(hCn.elim (fun g=>g _ h.1) fun g=>g.1),keep a hy u,by rw [← Act.put_comm a v u h2]; exact h.2⟩
   case skip=>exact ⟨h.1,(hCn.elim (fun g=>g _ h.1) fun g=>g.1),keep a hy _,by rw [← Act.put_comm a v undef h2]; exact h.2⟩
   case defer d =>
    refine ⟨h.1,(hCn.elim (fun g=>g _ h.1) fun g=>g.1),keep _ (keepD d) _,?_⟩;rw [← Act.put_comm _ v undef h2,← Act.put_defers];exact h.2
   case enter f args =>
    have hall:∀ w,D w->C w:=by
     rcases hCn with h | ⟨_,u,hu⟩
     ·exact h
     ·cases hu
    refine Calls.mono h fun e w'' he=>?_;cases e with
    | returned u=>exact ⟨he.1,hall _ he.1,keep a hy u,by rw [← Act.put_comm a v u h2]; exact he.2⟩
    | panicked c=>exact hQ _ _ _ he
    | outgrown=>exact he
   case row row args =>
    have hall:∀ w,D w->C w:=by
     rcases hCn with h | ⟨_,u,hu⟩
     ·exact h
     ·cases hu
    exact Rows.mono h fun u w'' he=>⟨he.1,hall _ he.1,keep a hy u,by rw [← Act.put_comm a v u h2]; exact he.2⟩
  | halt x w' =>
   cases x <;> simp only [Oper.upon] at h ⊢
   case panic u=>exact hQ _ _ _ h
 ·rename_i hw;simp only [hw] at h;exact ⟨h.1,hw0,keep a hy _,by rw [← Act.put_comm a v undef h2]; exact h.2⟩
theorem unl_set {listed:Array Bool} {j k:Nat} (h:j ≠ k):unl (listed.setIfInBounds j true) k = unl listed k:=by
 unfold unl; rw [getD_set_ne true h]
theorem sZ {C D:World->Prop} {i:Nat} {oi:Oper} {v:Value} {S:List Nat} (hi:ops[i]? = some oi) (hsel:∀ (j:Nat) (o:Oper) cs b,ops[j]? = some o->o.op ≠ .select cs b)
  (hQ:∀ c a w,Q (.panic c) (a.put oi.dst v) w->Q (.panic c) a w) :
  ∀ (fuel:Nat) (listed:Array Bool) (a:Act) (w:World),
   (∀ k ∈ S,unl listed k = true/\∃ o,ops[k]? = some o/\∃ e ∈ o.after,Region.binds .any e = true/\(e.on = i\/e.on ∈ S)) ->
   (∀ j oj,ops[j]? = some oj->j ≠ i->unl listed j = true->j ∉ S->oi.apart ops oj = true/\((∀ w,D w->C w)\/(Grows P oj/\∀ w w',Ext w w'->C w->C w'))) ->
   i ∈ Region.ready .any ops listed->Yc P ops C oi v a->C w->D w ->
   wC P ops Q D fuel (listed.setIfInBounds i true) (a.put oi.dst v) w->wC P ops Q D (fuel + 1) listed a w:=by
 intro fuel
 induction fuel with
 | zero =>
  intro listed a w _ _ hr hy hC hD H;refine ⟨fun h=>(by rw [h] at hr; cases hr),fun j hj=>?_⟩;by_cases hji:j = i
  ·subst hji; exact hy.wpOp hi hC ⟨hD,H⟩
  ·have:=ready_mono hj hji;rw [H.1] at this;cases this
 | succ fuel ih =>
  intro listed a w hS hfree hr hy hC hD H;refine ⟨fun h=>(by rw [h] at hr; cases hr),fun j hj=>?_⟩;by_cases hji:j = i
  ·subst hji; exact hy.wpOp hi hC ⟨hD,H⟩
  ·have h1:=H.2 j (ready_mono hj hji);obtain ⟨hjun,oj,hoj,hall⟩:=mem_ready.1 hj;have hiun:=(mem_ready.1 hr).1;have notl:∀ k,unl listed k = true->listed.getD k false = true->False:=fun k h0 h2=>by
    unfold unl at h0;rcases Nat.lt_or_ge k listed.size with h' | h'
    ·simp [h'] at h0 h2; rw [h0] at h2; cases h2
    ·simp [Array.getElem?_eq_none h'] at h2
   have hjS:j ∉ S:=fun hm=>by
    obtain ⟨_,o,ho,e,he,hb,hon⟩:=hS j hm;rw [hoj] at ho;cases ho;have hl:=hall e he hb;rcases hon with h | h
    ·rw [h] at hl; exact notl i (by unfold unl; rw [hiun]; rfl) hl
    ·exact notl _ (hS _ h).1 hl
   have hf:=hfree j oj hoj hji (by unfold unl; rw [hjun]; rfl) hjS;have h2:=wpOp_putC hoj hf.1 (fun cs b=>hsel i oi cs b hi) (fun cs b=>hsel j oj cs b hoj) hQ hf.2 hC hD hy h1;refine wpOp_mono (fun a' w' h3=>⟨h3.1,ih (listed.setIfInBounds j true) a' w' ?_ ?_ (ready_mono hr (Ne.symm hji)) h3.2.2.1 h3.2.1 h3.1 ?_⟩) h2
   ·intro k hk;obtain ⟨hu,r⟩:=hS k hk;refine ⟨?_,r⟩;rw [unl_set (fun e=>hjS (by rw [e]; exact hk))]; exact hu
   ·intro k ok hk hki hun hno;refine hfree k ok hk hki ?_ hno;by_cases hjk:j = k
    ·subst hjk; unfold unl; rw [hjun]; rfl
    ·rw [unl_set hjk] at hun; exact hun
   ·rw [Array.setIfInBounds_comm _ _ hji];exact h3.2.2.2
end
def stuckS (ops:Array Oper) (listed:Array Bool) (i:Nat):List Nat :=
 (range ops.size).foldl (fun S j=>if unl listed j && j != i && ((ops[j]?).map fun o=>o.after.any fun e=>Region.binds .any e && (e.on == i || S.contains e.on)).getD false then j::S else S) []
def chkS (ops:Array Oper) (listed:Array Bool) (i:Nat) (S:List Nat):Bool :=
 S.all fun k=>unl listed k && ((ops[k]?).map fun o=>o.after.any fun e=>Region.binds .any e && (e.on == i || S.contains e.on)).getD false
def chkF (gk:Oper->Bool) (ops:Array Oper) (listed:Array Bool) (i:Nat) (S:List Nat):Bool :=
 (range ops.size).all fun j=>j == i || !unl listed j || S.contains j || (match ops[j]?,ops[i]? with | some oj,some oi=>oi.apart ops oj && gk oj | _,_=>false)
def chk (gk:Oper->Bool) (ops:Array Oper) (listed:Array Bool) (i:Nat):Bool :=
 (Region.ready .any ops listed).contains i && chkS ops listed i (stuckS ops listed i) && chkF gk ops listed i (stuckS ops listed i) && (ops.toList.all fun o=>match o.op with | .select ..=>false | _=>true)
theorem chk_spec {gk:Oper->Bool} {ops:Array Oper} {listed:Array Bool} {i:Nat} {oi:Oper} (hi:ops[i]? = some oi) (h:chk gk ops listed i = true) :
  i ∈ Region.ready .any ops listed /\
  (∀ k ∈ stuckS ops listed i,unl listed k = true/\∃ o,ops[k]? = some o/\∃ e ∈ o.after,Region.binds .any e = true/\(e.on = i\/e.on ∈ stuckS ops listed i)) /\
  (∀ j oj,ops[j]? = some oj->j ≠ i->unl listed j = true->j ∉ stuckS ops listed i->oi.apart ops oj = true/\gk oj = true) /\
  (∀ (j:Nat) (o:Oper) cs b,ops[j]? = some o->o.op ≠ .select cs b):=by
 unfold chk at h;simp only [and_eq_true] at h;obtain ⟨⟨⟨h1,h2⟩,h3⟩,h4⟩:=h;refine ⟨by simpa using h1,?_,?_,?_⟩
 ·intro k hk;unfold chkS at h2;rw [all_eq_true] at h2;have:=h2 k hk;simp only [and_eq_true] at this;refine ⟨this.1,?_⟩;cases ho:ops[k]? with
  | none=>rw [ho] at this; simp at this
  | some o =>
   rw [ho] at this;simp only [map_some,Option.getD_some] at this;have h5:=this.2;rw [← Array.any_toList,List.any_eq_true] at h5;obtain ⟨e,he,hb⟩:=h5;rw [Array.mem_toList_iff] at he;simp only [and_eq_true,Bool.or_eq_true,beq_iff_eq,List.contains_iff_mem] at hb;exact ⟨o,rfl,e,he,hb.1,hb.2⟩
 ·intro j oj hj hji hun hno;unfold chkF at h3;rw [all_eq_true] at h3;have hlt:=(Array.getElem?_eq_some_iff.1 hj).1;have:=h3 j (List.mem_range.2 hlt);rw [hj,hi] at this;simp only [Bool.or_eq_true,beq_iff_eq,Bool.not_eq_true',and_eq_true,List.contains_iff_mem] at this;rcases this with ((h | h) | h) | h
  ·exact absurd h hji
  ·rw [hun] at h; cases h
  ·exact absurd h hno
  ·exact h
 ·intro j o cs b hj e;rw [all_eq_true] at h4;have:=h4 o (by rw [Array.mem_toList_iff]; exact Array.mem_of_getElem? hj);rw [e] at this;cases this
end Mb
end
section
open Go
namespace Mb
section
variable {P:Program}
theorem lG {α:Type} (a:α):bC P (pure a:Sem α):=True.intro
theorem ns_stuck {α:Type} (s:String):bC P (stuck s:Sem α):=True.intro
theorem ns_unsupported {α:Type} (u:Unsupported):bC P (unsupported u:Sem α):=True.intro
theorem ns_load (a:Addr) (m:Mode):bC P (load a m):=fun _=>True.intro
theorem ns_newObj (o:Obj):bC P (newObj o):=fun _=>True.intro
theorem ns_shape (r:Nat):bC P (shape r):=fun _=>True.intro
theorem ns_getObj (r:Nat):bC P (getObj r):=fun _=>True.intro
theorem ns_choose (q:Question):bC P (choose q):=fun _=>True.intro
theorem tC:bC P program:=True.intro
theorem ns_mark (m:Mark):bC P (mark m):=True.intro
theorem ns_map {α β:Type} {f:α->β} {m:Sem α} (h:bC P m):bC P (f <$> m):=bC.bind (f:=fun a=>Sem.pure (f a)) (fun _=>True.intro) h
theorem gi (t:TypeId):bC P (underlying t):=by
 unfold underlying; refine bC.bind' tC fun p=>?_; split <;> trivial
theorem uM (t:TypeId):bC P (typeInfo t):=by
 unfold typeInfo; refine bC.bind' tC fun p=>?_; split <;> trivial
theorem sT (t:TypeId):bC P (sizeOf t):=by
 unfold sizeOf; exact bC.bind' (uM t) fun _=>lG _
theorem xO (t:TypeId):bC P (zeroValue t):=by
 unfold zeroValue; refine bC.bind' (uM t) fun p=>?_; split <;> trivial
theorem ns_isAgg (t:TypeId):bC P (isAgg t):=by
 unfold isAgg; refine bC.bind' (gi t) fun p=>?_; split <;> trivial
theorem ns_loadFrom (a:Addr):∀ (n i:Nat) (acc:Array Value),bC P (loadCellsFrom a i n acc)
 | 0,_,_=>True.intro
 | n + 1,i,acc=>by unfold loadCellsFrom; exact bC.bind' (ns_load _ _) fun v=>ns_loadFrom a n _ _
theorem ns_loadVar (t:TypeId) (a:Addr):bC P (loadVar t a):=by
 unfold loadVar;refine bC.bind' (ns_isAgg t) fun b=>?_;split
 ·exact bC.bind' (sT t) fun n=>bC.bind' (ns_loadFrom a _ _ _) fun _=>lG _
 ·exact ns_load _ _
theorem sU (t:TypeId) (c:Array Value):bC P (newRow t c):=bC.bind' (ns_newObj _) fun _=>lG _
theorem ns_part (t:TypeId) (cs:Array Value) (o:Nat):bC P (part t cs o):=by
 unfold part;refine bC.bind' (ns_isAgg t) fun b=>?_;split
 ·exact bC.bind' (sT t) fun n=>lG _
 ·split <;> trivial
theorem ns_elemOf (t:TypeId):bC P (elemOf t):=by
 unfold elemOf; refine bC.bind' (gi t) fun p=>?_; split <;> trivial
theorem mM {α:Type} (e:RuntimeError):bC P (runtimePanic e:Sem α):=by
 unfold runtimePanic;refine bC.bind' tC fun p=>?_;split <;> first
  | exact True.intro
  | exact bC.bind' (bC.bind' (ns_elemOf _) fun _=>sU _ _) fun _=>True.intro
  | (refine bC.bind' (ns_elemOf _) fun _=>bC.bind' (sU _ _) fun _=>True.intro)
theorem ns_boundsPanic {α:Type} (k:IntKind) (x y:Int) (c:BoundsCode):bC P (boundsPanic k x y c:Sem α):=by
 unfold boundsPanic;split
 ·exact bC.bind' (ns_map (ns_choose _)) fun _=>mM _
 ·exact bC.bind' (lG _) fun _=>mM _
theorem ns_asIntOf (v:Value):bC P (asIntOf v):=by unfold asIntOf; split <;> trivial
theorem ns_asInt (v:Value):bC P (asInt v):=bC.bind' (ns_asIntOf v) fun _=>lG _
theorem ns_asBool (v:Value):bC P (asBool v):=by unfold asBool; split <;> trivial
theorem ns_sureAddr (v:Value):bC P (Instr.sureAddr v):=by unfold Instr.sureAddr; split <;> trivial
theorem ns_viewAt (r:Nat):bC P (viewAt r):=by
 unfold viewAt;refine bC.bind' (ns_shape r) fun s=>?_;split
 ·trivial
 ·refine bC.bind' (ns_getObj r) fun o=>?_;split <;> trivial
theorem ns_noView (a:Addr):bC P (noView a):=by
 unfold noView;refine bC.bind' (ns_viewAt _) fun s=>?_;split <;> trivial
theorem ns_byteOf (a:Addr):bC P (byteOf a):=by
 unfold byteOf;split
 ·trivial
 ·refine bC.bind' tC fun p=>bC.bind' (ns_noView _) fun _=>bC.bind' (ns_shape _) fun s=>?_;split
  ·simp only [];split
   ·trivial
   ·split <;> trivial
  ·trivial
theorem ns_partAt (a:Addr) (c b:Nat):bC P (partAt a c b):=by
 unfold partAt;refine bC.bind' (ns_byteOf _) fun p=>?_;exact bC.bind' (ns_byteOf _) fun q=>lG _
theorem ns_fieldPlace (a:Addr) (f:Field):bC P (fieldPlace a f):=by
 unfold fieldPlace;refine bC.bind' (sT _) fun n=>?_;split
 ·exact ns_partAt _ _ _
 ·trivial
theorem oy:∀ (l:List FieldStep) (t:TypeId) (x:Option Value),bC P (followBlind l t x)
 | [],_,_=>True.intro
 | s::rest,t,x=>by
  unfold followBlind;refine bC.bind' (gi _) fun u=>?_;split
  ·split
   ·split
    ·trivial
    ·exact oy rest _ _
    ·trivial
    ·trivial
    ·exact bC.bind' (ns_part _ _ _) fun _=>oy rest _ _
    ·trivial
    ·exact oy rest _ _
   ·trivial
  ·trivial
theorem ns_nilAhead:∀ (n:Nat) (t:TypeId) (v:Value) (s:String),bC P (nilAhead n t v s)
 | 0,_,_,_=>True.intro
 | n + 1,t,v,s=>by
  unfold nilAhead;refine bC.bind' (uM _) fun i=>?_;split
  ·refine bC.bind' (oy _ _ _) fun r=>?_;split
   ·trivial
   ·split
    ·exact ns_nilAhead n _ _ _
    ·trivial
    ·trivial
    ·trivial
    ·trivial
    ·refine bC.bind' (gi _) fun u=>?_;split <;> trivial
  ·trivial
def growK (P:Program) (o:Oper):Bool :=
 match o.op with
 | .move _ | .assign _ | .pick .. | .load .. | .alloc _ | .box .. | .fieldAddr .. | .indexAddr .. | .extract .. | .makeFunc .. | .nilCheck _ | .makeSlice .. | .buildSlice ..=>true
 | _=>false
theorem grows_of {o:Oper} (h:growK P o = true):Grows P o:=by
 obtain ⟨dst,op,ty,pos,af,g⟩:=o;intro ρ;cases op <;> first | (simp [growK] at h; done) | skip
 case move x=>exact gT (m:=pure (ρ x)) True.intro rfl
 case assign x=>exact gT (m:=pure (ρ x)) True.intro rfl
 case pick c a b =>
  refine gT (m:=(do pure (if ← asBool (ρ c) then ρ a else ρ b))) (bC.bind' (ns_asBool _) fun _=>True.intro) ?_;simp [execOp]
 case load t a=>exact gT (m:=Instr.loadAt t (ρ a)) (bC.bind' (ns_sureAddr _) fun _=>ns_loadVar _ _) rfl
 case alloc e =>
  refine gT (m:=Instr.alloc e true (.tuple #[])) ?_ rfl;unfold Instr.alloc;refine bC.bind' (xO _) fun z=>?_;exact bC.bind' (sU _ _) fun _=>lG _
 case box e x=>exact gT (m:=Instr.box e (ρ x)) (bC.bind' (sU _ _) fun _=>lG _) rfl
 case fieldAddr s x f =>
  refine gT (m:=Instr.fieldAt s (ρ x) f) ?_ rfl;unfold Instr.fieldAt;refine bC.bind' (gi _) fun u=>?_;split
  ·split
   ·exact bC.bind' (ns_sureAddr _) fun a=>bC.bind' (ns_fieldPlace _ _) fun _=>lG _
   ·trivial
  ·trivial
 case indexAddr t x i =>
  refine gT (m:=Instr.indexAt t (ρ x) (ρ i)) ?_ rfl;unfold Instr.indexAt
  repeat' (first | exact True.intro | exact ns_asIntOf _ | exact gi _ | exact ns_sureAddr _ | exact sT _ | exact ns_boundsPanic _ _ _ _ | exact lG _ | exact ns_stuck _ | (refine bC.bind' ?_ fun _=>?_) | split | dsimp only)
 case extract t i =>
  refine gT (m:=Instr.extract (ρ t) i) ?_ rfl;unfold Instr.extract;split
  ·split <;> trivial
  ·trivial
 case makeFunc fn fi ca=>exact gT (m:=Instr.makeFunc fn (fi.map ρ) (ca.map ρ)) True.intro rfl
 case nilCheck x =>
  have pan:bC P (runtimePanic .nilDeref:Sem Next)/\∀ w n w',(runtimePanic .nilDeref:Sem Next).run P w = .ok n w'->∃ v,n = .value v :=
   ⟨mM _,fun w n w' h=>by simp [runtimePanic] at h⟩
  have pr:∀ u:Value,bC P (pure (Next.value u):Sem Next)/\∀ w n w',(pure (Next.value u):Sem Next).run P w = .ok n w'->∃ v,n = .value v :=
   fun u=>⟨True.intro,fun w n w' h=>by simp at h; exact ⟨u,h.1.symm⟩⟩
  simp only [execOp];split
  ·exact pan
  ·exact pan
  ·exact pan
  ·split
   ·exact pan
   ·refine ⟨?_,fun w n w' h=>?_⟩
    ·refine bC.bind' tC fun p=>bC.bind' (ns_nilAhead _ _ _ _) fun r=>?_;split
     ·exact bC.bind' (ns_unsupported _) fun _=>True.intro
     ·exact True.intro
    ·simp only [Sem.run_bind,run_program,Result.andThen_ok] at h;generalize Sem.run P (nilAhead _ _ _ _) w = r at h;cases r with
     | halt x w1=>cases h
     | ok b w1 =>
      simp only [Result.andThen_ok] at h;split at h
      ·simp at h
      ·simp at h; exact ⟨_,h.1.symm⟩
   ·exact pr _
  ·exact pr _
 case makeSlice t l c =>
  refine gT (m:=Instr.makeSlice t (ρ l) (ρ c)) ?_ rfl;unfold Instr.makeSlice
  repeat' (first | exact True.intro | exact ns_asInt _ | exact gi _ | exact uM _ | exact sT _ | exact mM _ | exact ns_choose _ | exact lG _ | exact ns_stuck _ | exact ns_mark _ | exact xO _ | exact sU _ _ | (refine bC.bind' ?_ fun _=>?_) | split | dsimp only | unfold askRoom)
 case buildSlice t n ps =>
  obtain ⟨qs,hq⟩:∃ qs,execOp ρ ⟨dst,.buildSlice t n ps,ty,pos,af,g⟩ = (do pure (Next.value (← Instr.buildSlice t n qs))):=⟨_,rfl⟩
  refine gT (m:=Instr.buildSlice t n qs) ?_ hq;unfold Instr.buildSlice
  repeat' (first | exact True.intro | exact gi _ | exact ns_unsupported _ | exact sT _ | exact lG _ | exact ns_stuck _ | exact xO _ | exact sU _ _ | (refine bC.bind' ?_ fun _=>?_) | split | dsimp only)
end
section
variable {P:Program} {X:Cx} {ops:Array Oper} {E:Bx} {ρ:Env} {h:Hp} {L:Bx} {K:fH}
def kept (E:Bx) (w:World):Prop:=∀ x,x ∈ E->w.heap[x.1]? = some x.2
theorem kept_of {w:World} (i:Inv X w h L) (s:E.Sublist L):kept E w:=fun x hx=>i.box x (s.subset hx)
def EvA (P:Program) (X:Cx) (ops:Array Oper) (E:Bx) (n:Nat) (listed:Array Bool) (ρ:Env) (h:Hp) (L:Bx) (K:fH):Prop :=
 ∀ a w,Kn a X.n ρ->Inv X w h L->kept E w->wC P ops (lift X K) (kept E) n listed a w
theorem oQ {id n:Nat} {l:List Oper} (E:Bx) (hm:P.follows .mixedOrders = true) (hn:l.length = n) (hE:E.Sublist L) (H:EvA P X l.toArray E n (Array.replicate n false) ρ h L K):Ev P X (.region id l.toArray true) ρ h L K:=by
 intro a w k i;refine wp_region_any hm ?_;have i':=i.drawn (w.drawn + 1);have:=wC_any _ _ _ _ (H a { w with drawn:=w.drawn + 1 } k i' (kept_of i' hE));simpa [hn] using this
theorem mU {n:Nat} {listed:Array Bool} (hr:(Region.ready .any ops listed).isEmpty = true) (hk:K .normal ρ h L):EvA P X ops E n listed ρ h L K:=by
 intro a w k i _;have hr':Region.ready .any ops listed = []:=by simpa using hr
 cases n with
 | zero=>exact ⟨hr',ρ,h,L,hk,k,i⟩
 | succ n=>exact ⟨fun _=>⟨ρ,h,L,hk,k,i⟩,fun j hj=>by rw [hr'] at hj; cases hj⟩
def NoP (K:fH):Prop:=∀ c ρ h L,¬ K (.panic c) ρ h L
theorem lift_np (hK:NoP K) (c:List PanicEntry) (a:Act) (w:World):¬ lift X K (.panic c) a w:=fun ⟨_,_,_,hh,_⟩=>hK _ _ _ _ hh
def anyK (_:Oper):Bool:=true
def il (P:Program) (X:Cx) (ρ:Env) (E:Bx) (o:Oper) (v:Value):Prop:=∀ a w,Kn a X.n ρ->kept E w->(execOp a.eval o).run P w = .ok (.value v) w
theorem ve {o:Oper} {v:Value} (H:bM P X ρ o v):il P X ρ E o v:=fun a w k _=>H a w k
theorem v_ldE {dst:Option Tmp} {ty:TypeId} {pos:String} {af:Array Edge} {g:Option (Nat × Bool)} {x:Operand} {T T' k b off:Nat} {l:List Value} {v:Value} (hT:Sc P T) (hx:ev ρ x = some (.pointer (some ⟨b,off,none⟩))) (hk:E[k]? = some (bx b T' l)) (hv:l[off]? = some v) :
  il P X ρ E ⟨dst,.load T x,ty,pos,af,g⟩ v:=by
 intro a w kn i;have hw:=i _ (List.mem_of_getElem? hk);have:=oq (P:=P) (w:=w) hT ((yq hw off).trans hv);simp [execOp,kn.ev hx,Instr.loadAt,Instr.sureAddr,this]
theorem v_ldEs {dst:Option Tmp} {ty:TypeId} {pos:String} {af:Array Edge} {g:Option (Nat × Bool)} {x:Operand} {T T' k b off n:Nat} {l m:List Value} (hT:Ag P T n) (hx:ev ρ x = some (.pointer (some ⟨b,off,none⟩))) (hk:E[k]? = some (bx b T' l)) (hm:(l.drop off).take n = m) (hn:m.length = n) :
  il P X ρ E ⟨dst,.load T x,ty,pos,af,g⟩ (.agg m.toArray):=by
 intro a w kn i;have hw:=i _ (List.mem_of_getElem? hk);subst hn;have:=ou (P:=P) (w:=w) (b:=b) (off:=off) hT (by
  intro j v hj;rw [yq hw];rw [← hm,List.getElem?_take] at hj;split at hj
  ·rw [List.getElem?_drop] at hj; exact hj
  ·cases hj)
 simp [execOp,kn.ev hx,Instr.loadAt,Instr.sureAddr,this]
theorem eva_pure {n i d:Nat} {listed:Array Bool} {op:Op} {ty:TypeId} {pos:String} {af:Array Edge} {v:Value} (hK:NoP K)
  (hi:ops[i]? = some ⟨some d,op,ty,pos,af,none⟩) (hc:chk anyK ops listed i = true) (hd:Nat.blt d X.n = true) (hv:il P X ρ E ⟨some d,op,ty,pos,af,none⟩ v)
  (next:EvA P X ops E n (listed.setIfInBounds i true) ((d,v)::ρ) h L K):EvA P X ops E (n + 1) listed ρ h L K:=by
 intro a w k inv hE;obtain ⟨h1,h2,h3,h4⟩:=chk_spec hi hc;exact sZ (C:=kept E) hi h4 (fun c a w hq=>absurd hq (lift_np hK c _ _)) n listed a w h2 (fun j oj e1 e2 e3 e4=>⟨(h3 j oj e1 e2 e3 e4).1,.inl fun _ h=>h⟩) h1
  (.inl ⟨qD rfl a ops,fun w hw=>hv a w k hw⟩) hE hE (next _ w (k.put hd v) inv hE)
theorem eva_load {n i d:Nat} {listed:Array Bool} {op:Op} {ty:TypeId} {pos:String} {af:Array Edge} {v:Value} (hK:NoP K)
  (hi:ops[i]? = some ⟨some d,op,ty,pos,af,none⟩) (hc:chk (growK P) ops listed i = true) (hd:Nat.blt d X.n = true) (hv:gR P X ρ h L ⟨some d,op,ty,pos,af,none⟩ v)
  (next:EvA P X ops E n (listed.setIfInBounds i true) ((d,v)::ρ) h L K):EvA P X ops E (n + 1) listed ρ h L K:=by
 intro a w k inv hE;obtain ⟨h1,h2,h3,h4⟩:=chk_spec hi hc;refine sZ (C:=Ext w) hi h4 (fun c a w hq=>absurd hq (lift_np hK c _ _)) n listed a w h2 (fun j oj e1 e2 e3 e4=>?_) h1
  (.inl ⟨qD rfl a ops,fun w' hw'=>hv a w k inv w' hw'⟩) (fun _ _ e=>e) hE (next _ w (k.put hd v) inv hE)
 obtain ⟨g1,g2⟩:=h3 j oj e1 e2 e3 e4;exact ⟨g1,.inr ⟨grows_of g2,fun w1 w2 h12 h01 b o e=>h12 b o (h01 b o e)⟩⟩
theorem eva_loadg {n i d j s:Nat} {listed:Array Bool} {op:Op} {ty:TypeId} {pos:String} {af:Array Edge} {want:Bool} {v u:Value} (hK:NoP K)
  (hi:ops[i]? = some ⟨some d,op,ty,pos,af,some (j,want)⟩) (hc:chk (growK P) ops listed i = true) (hd:Nat.blt d X.n = true) (hj:(ops[j]?).bind (·.dst) = some s) (hs:get ρ s = some u) (hsn:Nat.blt s X.n = true) (hu:u = .bool want)
  (hv:gR P X ρ h L ⟨some d,op,ty,pos,af,some (j,want)⟩ v)
  (next:EvA P X ops E n (listed.setIfInBounds i true) ((d,v)::ρ) h L K):EvA P X ops E (n + 1) listed ρ h L K:=by
 intro a w k inv hE;obtain ⟨h1,h2,h3,h4⟩:=chk_spec hi hc;refine sZ (C:=Ext w) hi h4 (fun c a w hq=>absurd hq (lift_np hK c _ _)) n listed a w h2 (fun j oj e1 e2 e3 e4=>?_) h1
  (.inl ⟨(lB k hj hs hsn).trans (by rw [hu]; simp [asB]),fun w' hw'=>hv a w k inv w' hw'⟩) (fun _ _ e=>e) hE (next _ w (k.put hd v) inv hE)
 obtain ⟨g1,g2⟩:=h3 j oj e1 e2 e3 e4;exact ⟨g1,.inr ⟨grows_of g2,fun w1 w2 h12 h01 b o e=>h12 b o (h01 b o e)⟩⟩
theorem nq {τ:Type} {p:Nat × Nat} {enc:τ->List Value} {val:τ->Value} {S:τ->Hp->Prop} {n i d:Nat} {listed:Array Bool} {x:Operand} {T ty:TypeId} {pos:String} {af:Array Edge} (hK:NoP K) (H:ld p enc S h)
  (hi:ops[i]? = some ⟨some d,.load T x,ty,pos,af,none⟩) (hc:chk (growK P) ops listed i = true) (hT:Sc P T) (hx:ev ρ x = some (.pointer (some ⟨p.1,p.2,none⟩))) (he:∀ y,enc y = [val y]) (hd:Nat.blt d X.n = true)
  (next:∀ y,S y h->EvA P X ops E n (listed.setIfInBounds i true) ((d,val y)::ρ) h L K):EvA P X ops E (n + 1) listed ρ h L K:=by
 obtain ⟨y,hcl,hS⟩:=H;rw [he] at hcl;exact eva_load hK hi hc hd (v_ldH hT hx hcl) (next y hS)
theorem eva_lds {τ:Type} {p:Nat × Nat} {enc:τ->List Value} {S:τ->Hp->Prop} {n i d m:Nat} {listed:Array Bool} {x:Operand} {T ty:TypeId} {pos:String} {af:Array Edge} (hK:NoP K) (H:ld p enc S h)
  (hi:ops[i]? = some ⟨some d,.load T x,ty,pos,af,none⟩) (hc:chk (growK P) ops listed i = true) (hT:Ag P T m) (hx:ev ρ x = some (.pointer (some ⟨p.1,p.2,none⟩))) (he:∀ y,(enc y).length = m) (hd:Nat.blt d X.n = true)
  (next:∀ y,S y h->EvA P X ops E n (listed.setIfInBounds i true) ((d,.agg (enc y).toArray)::ρ) h L K):EvA P X ops E (n + 1) listed ρ h L K:=by
 obtain ⟨y,hcl,hS⟩:=H;have hT':Ag P T (enc y).length:=by rw [he]; exact hT
 exact eva_load hK hi hc hd (v_ldHs hT' hx hcl) (next y hS)
theorem eva_ldg {τ:Type} {p:Nat × Nat} {enc:τ->List Value} {val:τ->Value} {S:τ->Hp->Prop} {n i d j s:Nat} {listed:Array Bool} {x:Operand} {T ty:TypeId} {pos:String} {af:Array Edge} {want:Bool} {u:Value} (hK:NoP K) (H:ld p enc S h)
  (hi:ops[i]? = some ⟨some d,.load T x,ty,pos,af,some (j,want)⟩) (hc:chk (growK P) ops listed i = true) (hj:(ops[j]?).bind (·.dst) = some s) (hs:get ρ s = some u) (hsn:Nat.blt s X.n = true) (hu:u = .bool want) (hT:Sc P T) (hx:ev ρ x = some (.pointer (some ⟨p.1,p.2,none⟩))) (he:∀ y,enc y = [val y]) (hd:Nat.blt d X.n = true)
  (next:∀ y,S y h->EvA P X ops E n (listed.setIfInBounds i true) ((d,val y)::ρ) h L K):EvA P X ops E (n + 1) listed ρ h L K:=by
 obtain ⟨y,hcl,hS⟩:=H;rw [he] at hcl;exact eva_loadg hK hi hc hd hj hs hsn hu (v_ldH hT hx hcl) (next y hS)
theorem oO {s:Sl} {i:Int} {S:Nat × Nat->Hp->Prop} {n:Nat} {listed:Array Bool} (H:ix s i S h) (next:∀ q,s.a = some q->(0 <= i/\i < s.len)->S q h->EvA P X ops E n listed ρ h L K):EvA P X ops E n listed ρ h L K:=by
 obtain ⟨q,hq,hb,hS⟩:=H;exact next q hq hb hS
def dL (A B:Hp->Prop) (h:Hp):Prop:=A h/\B h
theorem eva_br {c:Bool} {A B:Hp->Prop} {n:Nat} {listed:Array Bool} (H:br c A B h) (ht:c = true->A h->EvA P X ops E n listed ρ h L K) (hf:c = false->B h->EvA P X ops E n listed ρ h L K):EvA P X ops E n listed ρ h L K:=by
 cases c
 ·exact hf rfl (H.2 rfl)
 ·exact ht rfl (H.1 rfl)
theorem eva_off {n i d j s:Nat} {listed:Array Bool} {op:Op} {ty:TypeId} {pos:String} {af:Array Edge} {want:Bool} {v:Value} (hK:NoP K)
  (hi:ops[i]? = some ⟨some d,op,ty,pos,af,some (j,want)⟩) (hc:chk anyK ops listed i = true) (hd:Nat.blt d X.n = true) (hj:(ops[j]?).bind (·.dst) = some s) (hs:get ρ s = some v) (hsn:Nat.blt s X.n = true) (hv:(asB v == some want) = false)
  (next:EvA P X ops E n (listed.setIfInBounds i true) ((d,undef)::ρ) h L K):EvA P X ops E (n + 1) listed ρ h L K:=by
 intro a w k inv hE;obtain ⟨h1,h2,h3,h4⟩:=chk_spec hi hc;exact sZ (C:=fun _=>True) hi h4 (fun c a w hq=>absurd hq (lift_np hK c _ _)) n listed a w h2 (fun j oj e1 e2 e3 e4=>⟨(h3 j oj e1 e2 e3 e4).1,.inl fun _ _=>trivial⟩) h1
  (.inr ⟨(lB k hj hs hsn).trans hv,rfl⟩) trivial hE (next _ w (k.put hd undef) inv hE)
theorem eva_on {n i d j s:Nat} {listed:Array Bool} {op:Op} {ty:TypeId} {pos:String} {af:Array Edge} {want:Bool} {v u:Value} (hK:NoP K)
  (hi:ops[i]? = some ⟨some d,op,ty,pos,af,some (j,want)⟩) (hc:chk anyK ops listed i = true) (hd:Nat.blt d X.n = true) (hj:(ops[j]?).bind (·.dst) = some s) (hs:get ρ s = some u) (hsn:Nat.blt s X.n = true) (hu:u = .bool want)
  (hv:il P X ρ E ⟨some d,op,ty,pos,af,some (j,want)⟩ v)
  (next:EvA P X ops E n (listed.setIfInBounds i true) ((d,v)::ρ) h L K):EvA P X ops E (n + 1) listed ρ h L K:=by
 intro a w k inv hE;obtain ⟨h1,h2,h3,h4⟩:=chk_spec hi hc;exact sZ (C:=kept E) hi h4 (fun c a w hq=>absurd hq (lift_np hK c _ _)) n listed a w h2 (fun j oj e1 e2 e3 e4=>⟨(h3 j oj e1 e2 e3 e4).1,.inl fun _ h=>h⟩) h1
  (.inl ⟨(lB k hj hs hsn).trans (by rw [hu]; simp [asB]),fun w hw=>hv a w k hw⟩) hE hE (next _ w (k.put hd v) inv hE)
def Way (P:Program) (X:Cx) (ops:Array Oper) (E:Bx) (n:Nat) (listed:Array Bool) (ρ:Env) (h:Hp) (L:Bx) (K:fH) (i:Nat):Prop :=
 ∀ a w,Kn a X.n ρ->Inv X w h L->kept E w->wpOp P ops (lift X K) i (fun a' w'=>kept E w'/\wC P ops (lift X K) (kept E) n (listed.setIfInBounds i true) a' w') a w
theorem way_op {n i:Nat} {listed:Array Bool} {o:Oper} (hi:ops[i]? = some o) (hg:o.guard = none)
  (H:eG P X o ρ h L (fun ρ' h' L'=>E.Sublist L'/\EvA P X ops E n (listed.setIfInBounds i true) ρ' h' L' K)):Way P X ops E n listed ρ h L K i:=by
 intro a w k inv _;unfold wpOp;rw [hi];simp only [qD hg a ops,if_true];exact .inl (pM (fun a' w' ⟨_,_,_,⟨sb,nx⟩,k',i'⟩=>⟨kept_of i' sb,nx a' w' k' i' (kept_of i' sb)⟩) (H.go a w _ k inv))
theorem way_on {n i j s:Nat} {listed:Array Bool} {d:Option Nat} {op:Op} {ty:TypeId} {pos:String} {af:Array Edge} {want:Bool} {u:Value} (hi:ops[i]? = some ⟨d,op,ty,pos,af,some (j,want)⟩)
  (hj:(ops[j]?).bind (·.dst) = some s) (hs:get ρ s = some u) (hsn:Nat.blt s X.n = true) (hu:u = .bool want)
  (H:eG P X ⟨d,op,ty,pos,af,some (j,want)⟩ ρ h L (fun ρ' h' L'=>E.Sublist L'/\EvA P X ops E n (listed.setIfInBounds i true) ρ' h' L' K)):Way P X ops E n listed ρ h L K i:=by
 intro a w k inv _;unfold wpOp;rw [hi];have hw:=lB (d:=d) (op:=op) (ty:=ty) (pos:=pos) (af:=af) (want:=want) k hj hs hsn;rw [hu] at hw;simp only [hw,asB,beq_self_eq_true,if_true];exact .inl (pM (fun a' w' ⟨_,_,_,⟨sb,nx⟩,k',i'⟩=>⟨kept_of i' sb,nx a' w' k' i' (kept_of i' sb)⟩) (H.go a w _ k inv))
theorem eva_1 {n i:Nat} {listed:Array Bool} (hr:Region.ready .any ops listed = [i]) (H:Way P X ops E n listed ρ h L K i):EvA P X ops E (n + 1) listed ρ h L K:=by
 intro a w k inv hE;refine ⟨fun e=>(by rw [hr] at e; cases e),fun m hm=>?_⟩;rw [hr] at hm;simp only [List.mem_singleton] at hm;subst hm; exact H a w k inv hE
theorem eva_2 {n i j:Nat} {listed:Array Bool} (hr:Region.ready .any ops listed = [i,j]) (H:Way P X ops E n listed ρ h L K i) (H':Way P X ops E n listed ρ h L K j):EvA P X ops E (n + 1) listed ρ h L K:=by
 intro a w k inv hE;refine ⟨fun e=>(by rw [hr] at e; cases e),fun m hm=>?_⟩;rw [hr] at hm;simp only [List.mem_cons,List.not_mem_nil,or_false] at hm;rcases hm with rfl | rfl
 ·exact H a w k inv hE
 ·exact H' a w k inv hE
theorem eva_3 {n i j m:Nat} {listed:Array Bool} (hr:Region.ready .any ops listed = [i,j,m]) (H:Way P X ops E n listed ρ h L K i) (H':Way P X ops E n listed ρ h L K j) (H'':Way P X ops E n listed ρ h L K m):EvA P X ops E (n + 1) listed ρ h L K:=by
 intro a w k inv hE;refine ⟨fun e=>(by rw [hr] at e; cases e),fun m hm=>?_⟩;rw [hr] at hm;simp only [List.mem_cons,List.not_mem_nil,or_false] at hm;rcases hm with rfl | rfl | rfl
 ·exact H a w k inv hE
 ·exact H' a w k inv hE
 ·exact H'' a w k inv hE
end
end Mb
end
section
open Go
namespace Mb
structure hpv {τ:Type} (P:Program) (m:Sem Value) (enc:τ->Value) (K:τ->Hp->Prop) (h:Hp):Prop where
 go:hp P m (fun v h'=>∃ r,v = enc r/\K r h') h
structure hpu (P:Program) (m:Sem Unit) (K:Hp->Prop) (h:Hp):Prop where
 go:hp P m (fun _ h'=>K h') h
section
variable {P:Program} {X:Cx} {ρ:Env} {h:Hp} {L:Bx} {dst:Option Tmp} {d:Nat} {ty:TypeId} {pos:String} {af:Array Edge} {g:Option (Nat × Bool)} {N:Env->Hp->Bx->Prop}
def Tx (X:Cx) (ρ:Env) (o:Oper) (m:Sem Value):Prop:=∀ a,Kn a X.n ρ->execOp a.eval o = (do pure (Next.value (← m)))
def Tu (X:Cx) (ρ:Env) (o:Oper) (m:Sem Unit):Prop:=∀ a,Kn a X.n ρ->execOp a.eval o = (do m; pure Next.skip)
theorem hp_mono {α:Type} {K K':α->Hp->Prop} (m:Sem α) (hK:∀ v h,K v h->K' v h):∀ h,hp P m K h->hp P m K' h:=by
 induction m with
 | pure a=>intro h hh; exact hK _ _ hh
 | load md a k ih=>intro h ⟨v,h1,h2⟩; exact ⟨v,h1,ih v h h2⟩
 | store md a v k ih=>intro h ⟨h1,o,u,h2,h3,h4,h5⟩; exact ⟨h1,o,u,h2,h3,h4,ih _ h5⟩
 | new o k ih=>intro h ⟨h1,h2⟩; exact ⟨h1,fun b hb=>ih b _ (h2 b hb)⟩
 | shape r k ih=>intro h ⟨o,h1,h2⟩; exact ⟨o,h1,ih _ _ h2⟩
 | freeze a n k ih=>intro h hh; exact hh.elim
 | frozen a k ih=>intro h ⟨o,h1,h2⟩; exact ⟨o,h1,ih _ _ h2⟩
 | getObj r k ih=>intro h ⟨o,h1,h2,h3⟩; exact ⟨o,h1,h2,ih _ _ h3⟩
 | setObj r o k ih=>intro h ⟨h1,h2,h3⟩; exact ⟨h1,h2,ih _ h3⟩
 | choose q k ih =>
  intro h hh;simp only [hp] at hh ⊢;split
  ·rename_i hf; rw [if_pos hf] at hh; exact ih _ _ hh
  ·rename_i hf; rw [if_neg hf] at hh; exact fun t=>ih _ _ (hh t)
 | sys c k ih=>intro h hh; exact hh.elim
 | program k ih=>intro h hh; exact ih P _ hh
 | mark mk k ih=>intro h hh; exact ih _ hh
 | halt x=>intro h hh; exact hh.elim
theorem to_hpv {τ:Type} {op:Op} {m:Sem Value} {enc:τ->Value} {S:τ->Hp->Prop} (H:hpv P m enc S h) (ht:Tx X ρ ⟨some d,op,ty,pos,af,g⟩ m) (hd:Nat.blt d X.n = true)
  (next:∀ r h',S r h'->N ((d,enc r)::ρ) h' L):eG P X ⟨some d,op,ty,pos,af,g⟩ ρ h L N:=by
 refine opTo_hp (fun a kn=>?_);rw [ht a kn,bF];exact hp_mono m (fun v h' ⟨r,e,s⟩=>⟨v,.inl rfl,fun a kn=>⟨(d,enc r)::ρ,by rw [e]; exact kn.put hd _,next r h' s⟩⟩) h H.go
theorem to_hpv0 {τ:Type} {op:Op} {m:Sem Value} {enc:τ->Value} {S:τ->Hp->Prop} (H:hpv P m enc S h) (ht:Tx X ρ ⟨none,op,ty,pos,af,g⟩ m)
  (next:∀ r h',S r h'->N ρ h' L):eG P X ⟨none,op,ty,pos,af,g⟩ ρ h L N:=by
 refine opTo_hp (fun a kn=>?_);rw [ht a kn,bF];exact hp_mono m (fun v h' ⟨r,_,s⟩=>⟨v,.inl rfl,fun a kn=>⟨ρ,kn.none _,next r h' s⟩⟩) h H.go
theorem to_hpu {op:Op} {m:Sem Unit} {S:Hp->Prop} (H:hpu P m S h) (ht:Tu X ρ ⟨none,op,ty,pos,af,g⟩ m)
  (next:∀ h',S h'->N ρ h' L):eG P X ⟨none,op,ty,pos,af,g⟩ ρ h L N:=by
 refine opTo_hp (fun a kn=>?_);rw [ht a kn,bF];exact hp_mono m (fun _ h' s=>⟨undef,.inr ⟨rfl,rfl⟩,fun a kn=>⟨ρ,kn.none _,next h' s⟩⟩) h H.go
theorem x_makeSlice {T:TypeId} {l c:Operand} {vl vc:Value} (h1:ev ρ l = some vl) (h2:ev ρ c = some vc):Tx X ρ ⟨dst,.makeSlice T l c,ty,pos,af,g⟩ (Instr.makeSlice T vl vc):=by
 intro a k; simp only [execOp,k.ev h1,k.ev h2]
theorem x_buildSlice {T n:TypeId} {ps:List (Nat × Operand)} {vs:List Value} (hx:evs ρ (ps.map (·.2)) = some vs):Tx X ρ ⟨dst,.buildSlice T n ps.toArray,ty,pos,af,g⟩ (Instr.buildSlice T n ((ps.map (·.1)).zip vs).toArray):=by
 intro a k;have e:=kn_parts k hx;simp only [execOp,map_toArray,e]
theorem x_slice {T:TypeId} {x:Operand} {lo hi:Option Operand} {v:Value} {vlo vhi:Option Value} (hx:ev ρ x = some v) (h1:lo.bind (ev ρ) = vlo) (h1':lo.isSome = vlo.isSome) (h2:hi.bind (ev ρ) = vhi) (h2':hi.isSome = vhi.isSome) :
  Tx X ρ ⟨dst,.slice T x lo hi none,ty,pos,af,g⟩ (Instr.sliceAt T v vlo vhi none):=by
 intro a k;have e1:lo.map a.eval = vlo:=by
  cases lo with
  | none=>cases vlo with | none=>rfl | some u=>cases h1'
  | some o=>cases vlo with | none=>cases h1' | some u=>simp only [map_some,k.ev (show ev ρ o = some u from h1)]
 have e2:hi.map a.eval = vhi:=by
  cases hi with
  | none=>cases vhi with | none=>rfl | some u=>cases h2'
  | some o=>cases vhi with | none=>cases h2' | some u=>simp only [map_some,k.ev (show ev ρ o = some u from h2)]
 simp only [execOp,k.ev hx,e1,e2,Option.map_none]
theorem x_append {x y:Operand} {ts:Array TypeId} {u v:Value} (hx:ev ρ x = some u) (hy:ev ρ y = some v):Tx X ρ ⟨dst,.call ⟨.builtin .append,#[x,y],ts⟩,ty,pos,af,g⟩ (Builtin.append_ ts ty #[u,v]):=by
 intro a k;rw [BigFrame.execOp_builtin,BigFrame.builtin_append];simp only [map_toArray,map_cons,map_nil,k.ev hx,k.ev hy]
theorem x_copy {x y:Operand} {ts:Array TypeId} {u v:Value} (hx:ev ρ x = some u) (hy:ev ρ y = some v):Tx X ρ ⟨dst,.call ⟨.builtin .copy,#[x,y],ts⟩,ty,pos,af,g⟩ (Builtin.copy_ ts ty #[u,v]):=by
 intro a k;rw [BigFrame.execOp_builtin,BigFrame.builtin_copy];simp only [map_toArray,map_cons,map_nil,k.ev hx,k.ev hy]
theorem x_clear {x:Operand} {ts:Array TypeId} {u:Value} (hx:ev ρ x = some u):Tx X ρ ⟨dst,.call ⟨.builtin .clear,#[x],ts⟩,ty,pos,af,g⟩ (Builtin.clear_ ts ty #[u]):=by
 intro a k;rw [BigFrame.execOp_builtin,BigFrame.builtin_clear];simp only [map_toArray,map_cons,map_nil,k.ev hx]
theorem x_lenM {x:Operand} {ts:Array TypeId} {u:Value} (hx:ev ρ x = some u):Tx X ρ ⟨dst,.call ⟨.builtin .len,#[x],ts⟩,ty,pos,af,g⟩ (Builtin.len_ ts ty #[u]):=by
 intro a k;rw [BigFrame.execOp_builtin,BigFrame.builtin_len];simp only [map_toArray,map_cons,map_nil,k.ev hx]
theorem x_makeMap0 {T:TypeId}:Tx X ρ ⟨dst,.makeMap T none,ty,pos,af,g⟩ (Instr.makeMap T none):=fun _ _=>rfl
theorem x_lookup {T:TypeId} {x y:Operand} {ok:Bool} {u v:Value} (hx:ev ρ x = some u) (hy:ev ρ y = some v):Tx X ρ ⟨dst,.lookup T x y ok,ty,pos,af,g⟩ (Instr.lookup T u v ok):=by
 intro a k; simp only [execOp,k.ev hx,k.ev hy]
theorem x_index {T:TypeId} {x y:Operand} {u v:Value} (hx:ev ρ x = some u) (hy:ev ρ y = some v):Tx X ρ ⟨dst,.index T x y,ty,pos,af,g⟩ (Instr.index T u v):=by
 intro a k; simp only [execOp,k.ev hx,k.ev hy]
theorem x_fieldV {T f:TypeId} {x:Operand} {u:Value} (hx:ev ρ x = some u):Tx X ρ ⟨dst,.field T x f,ty,pos,af,g⟩ (Instr.field T u f):=by
 intro a k; simp only [execOp,k.ev hx]
theorem x_makeInterface {T:TypeId} {x:Operand} {u:Value} (hx:ev ρ x = some u):Tx X ρ ⟨dst,.makeInterface T x,ty,pos,af,g⟩ (Instr.makeInterface T u):=by
 intro a k; simp only [execOp,k.ev hx]
theorem x_typeAssert {T A:TypeId} {x:Operand} {ok:Bool} {u:Value} (hx:ev ρ x = some u):Tx X ρ ⟨dst,.typeAssert x T A ok,ty,pos,af,g⟩ (Instr.typeAssert u T A ok):=by
 intro a k; simp only [execOp,k.ev hx]
theorem x_convert {S D:TypeId} {x:Operand} {u:Value} (hx:ev ρ x = some u):Tx X ρ ⟨dst,.convert S D x,ty,pos,af,g⟩ (convert S D u):=by
 intro a k; simp only [execOp,k.ev hx]
theorem x_binOp {b:BinOp} {T U:TypeId} {x y:Operand} {u v:Value} (hx:ev ρ x = some u) (hy:ev ρ y = some v):Tx X ρ ⟨dst,.binOp b T x y U,ty,pos,af,g⟩ (do eqGuard b T x y u v; binOp b T u v):=by
 intro a k; simp only [execOp,k.ev hx,k.ev hy]
theorem x_build {T:TypeId} {ps:List (Nat × Operand)} {vs:List Value} (hx:evs ρ (ps.map (·.2)) = some vs):Tx X ρ ⟨dst,.build T ps.toArray,ty,pos,af,g⟩ (Instr.build T ((ps.map (·.1)).zip vs).toArray):=by
 intro a k;have e:=kn_parts k hx;simp only [execOp,map_toArray,e]
theorem x_load {T:TypeId} {x:Operand} {u:Value} (hx:ev ρ x = some u):Tx X ρ ⟨dst,.load T x,ty,pos,af,g⟩ (Instr.loadAt T u):=by
 intro a k; simp only [execOp,k.ev hx]
theorem x_alloc {T:TypeId}:Tx X ρ ⟨dst,.alloc T,ty,pos,af,g⟩ (Instr.alloc T true (.tuple #[])):=fun _ _=>rfl
theorem x_box {T:TypeId} {x:Operand} {u:Value} (hx:ev ρ x = some u):Tx X ρ ⟨dst,.box T x,ty,pos,af,g⟩ (Instr.box T u):=by
 intro a k; simp only [execOp,k.ev hx]
theorem qE {T:TypeId} {x y z:Operand} {u v w:Value} (hx:ev ρ x = some u) (hy:ev ρ y = some v) (hz:ev ρ z = some w):Tu X ρ ⟨dst,.mapUpdate T x y z,ty,pos,af,g⟩ (Instr.mapUpdate T u v w):=by
 intro a k; simp only [execOp,k.ev hx,k.ev hy,k.ev hz]
theorem u_store {T:TypeId} {x y:Operand} {u v:Value} (hx:ev ρ x = some u) (hy:ev ρ y = some v):Tu X ρ ⟨dst,.store T x y,ty,pos,af,g⟩ (Instr.storeAt T u v):=by
 intro a k; simp only [execOp,k.ev hx,k.ev hy]
def EqR (P:Program) (n:Nat) (T:TypeId) (x y:Value) (b:Bool):Prop:=∀ w,(Op.equalIn n T x y).run P w = .ok b w
def EqF (P:Program) (n:Nat) (xs ys:Array Value) (fs:List Field) (b:Bool):Prop:=∀ w,(Op.eqFields n xs ys fs).run P w = .ok b w
def Pt (P:Program) (T:TypeId) (cs:Array Value) (off:Nat) (v:Value):Prop:=∀ w,(part T cs off).run P w = .ok v w
theorem eZ {T:TypeId} {cs:Array Value} {off:Nat} {v:Value} (t:Sc P T) (hv:cs[off]? = some v):Pt P T cs off v:=fun w=>by
 simp [part,run_isAgg_sc t,hv]
theorem gI {n:Nat} {T:TypeId} {k:IntKind} {kd:IntKind} {x y:Int} (hT:P.underlying T = some (.int k)):EqR P (n + 1) T (.int kd x) (.int kd y) (x == y):=fun w=>run_equalIn_int w n T kd k x y hT
theorem eqf_nil {n:Nat} {xs ys:Array Value}:EqF P n xs ys [] true:=fun _=>rfl
theorem iU {n:Nat} {xs ys:Array Value} {f:Field} {fs:List Field} {u v:Value} {b c:Bool} (hn:(f.name == "_") = false) (h1:Pt P f.type xs f.offset u) (h2:Pt P f.type ys f.offset v) (h3:EqR P n f.type u v b)
  (h4:EqF P n xs ys fs c):EqF P n xs ys (f::fs) (b && c):=fun w=>by
 have hn':f.name ≠ "_" := by simpa using hn
 unfold Op.eqFields;rw [if_pos hn'];simp only [Sem.run_bind,h1 w,h2 w,h3 w,Result.andThen_ok];cases b
 ·simp
 ·simpa using h4 w
theorem tS {n:Nat} {T:TypeId} {fs:Array Field} {xs ys:Array Value} {b:Bool} (hT:P.underlying T = some (.struct fs)) (hs:P.stoodInHeld T = false) (H:EqF P n xs ys fs.toList b):EqR P (n + 1) T (.agg xs) (.agg ys) b:=fun w=>by
 have hF:P.fieldsOf T = fs:=by simp [Program.fieldsOf,hT]
 rw [run_equalIn_agg w n T xs ys (by rw [hF]; exact hT) hs,hF];exact H w
def EqI (P:Program) (n:Nat) (E m:Nat) (xs ys:Array Value):List Nat->Bool->Prop
 | [],b=>b = true
 | i::l,b=>∃ u v c d,Pt P E xs (i * m) u/\Pt P E ys (i * m) v/\EqR P n E u v c/\EqI P n E m xs ys l d/\b = (c && d)
theorem eqr_arr {n len E m:Nat} {T:TypeId} {xs ys:Array Value} {b:Bool} (hT:P.underlying T = some (.array len E)) (hE:∃ i,P.info? E = some i/\i.size = m) (H:EqI P n E m xs ys (List.range' 0 len) b):EqR P (n + 1) T (.agg xs) (.agg ys) b:=fun w=>by
 unfold Op.equalIn;simp only [Sem.run_bind,underlying,run_program,Result.andThen_ok,hT,Sem.run_pure,tA hE];simp only [Std.Legacy.Range.forIn_eq_forIn_range',Std.Legacy.Range.size,Nat.sub_zero,Nat.add_sub_cancel,Nat.div_one];have key:∀ (l:List Nat) (b:Bool),EqI P n E m xs ys l b ->
   (Sem.run P (forIn l ((none:Option Bool),()) fun i (_:Option Bool × Unit)=>(do
      let u ← part E xs (i * m)
      let v ← part E ys (i * m)
      let r ← Op.equalIn n E u v
      if (!r) = true then pure (ForInStep.done (some false,())) else pure (ForInStep.yield (none,())):Sem (ForInStep (Option Bool × Unit)))) w) =
    .ok ((if b then none else some false),()) w:=by
  intro l
  induction l with
  | nil=>intro b hb; subst hb; simp
  | cons i l ih =>
   rintro b ⟨u,v,c,d,h1,h2,h3,h4,rfl⟩;rw [List.forIn_cons];simp only [Sem.run_bind,h1 w,h2 w,h3 w,Result.andThen_ok];cases c
   ·simp
   ·simpa using ih d h4
 rw [key _ b H];cases b <;> simp
theorem v_eqA {T U:TypeId} {x y:Operand} {xs ys:Array Value} {b:Bool} (hg:P.eqGuardType P.depth T = false) (H:EqR P 10000 T (.agg xs) (.agg ys) b) (hx:ev ρ x = some (.agg xs)) (hy:ev ρ y = some (.agg ys)) :
  bM P X ρ ⟨dst,.binOp .eql T x y U,ty,pos,af,g⟩ (.bool b):=fun a w k=>by
 have h1:=run_eqGuard_agg w .eql T x y xs ys hg;have h2:=run_eql_struct (P:=P) w T xs ys;rw [H w] at h2;simp only [execOp,k.ev hx,k.ev hy,Sem.run_bind,h1,h2,Result.andThen_ok,Sem.run_pure]
theorem v_neA {T U:TypeId} {x y:Operand} {xs ys:Array Value} {b:Bool} (hg:P.eqGuardType P.depth T = false) (H:EqR P 10000 T (.agg xs) (.agg ys) b) (hx:ev ρ x = some (.agg xs)) (hy:ev ρ y = some (.agg ys)) :
  bM P X ρ ⟨dst,.binOp .neq T x y U,ty,pos,af,g⟩ (.bool (!b)):=fun a w k=>by
 have h1:=run_eqGuard_agg w .neq T x y xs ys hg;have h2:=run_neq_struct (P:=P) w T xs ys;rw [H w] at h2;simp only [execOp,k.ev hx,k.ev hy,Sem.run_bind,h1,h2,Result.andThen_ok,Sem.run_pure]
theorem rv_cs' {c T T' k b n:Nat} {l:List Value} (hx:get ρ c = some (.pointer (some ⟨b,0,none⟩))) (hT:Ag P T n) (hk:L[k]? = some (bx b T' l)) (hn:l.length = n):RV P X ρ h L (.cell c T) (.agg l.toArray):=by
 subst hn; exact rv_cs hx hT hk
def encL (r:List Value):Value:=.agg r.toArray
def encV (r:Value):Value:=r
def sget (s:ByteArray) (i:Int):Int:=((s[i.toNat]?.map (·.toNat)).getD 0:Nat)
theorem v_ixStr {T:TypeId} {x y:Operand} {s:ByteArray} {kd:IntKind} {n:Int} (hT:P.underlying T = some .string) (hx:ev ρ x = some (.string s)) (hy:ev ρ y = some (.int kd n)) (hb:0 <= n/\n < s.size) :
  bM P X ρ ⟨dst,.index T x y,ty,pos,af,g⟩ (.int .u8 (sget s n)):=fun a w k=>by
 have h2:n.toNat < s.size:=by omega
 have e:sget s n = (s[n.toNat]'h2).toNat:=by
  unfold sget;rw [ByteArray.getElem?_lt' s _ h2]; rfl
 simp only [execOp,k.ev hx,k.ev hy,Sem.run_bind,run_index_string w T s kd n hT,dif_pos hb,Result.andThen_ok,Sem.run_pure,e]
theorem b_andr {c e:Bool} (h:(c && e) = false) (k:c = true):e = false:=by subst k; simpa using h
structure cln {τ:Type} (P:Program) (m:Sem Next) (enc:τ->Value) (K:τ->Hp->Prop) (h:Hp):Prop where
 go:hp P m (fun nx h'=>(∃ r,nx = .value (enc r)/\K r h')\/(∃ f vs,nx = .enter f vs/\Ct P f vs h' (fun v h''=>∃ r,v = enc r/\K r h''))) h
def Tn (X:Cx) (ρ:Env) (o:Oper) (m:Sem Next):Prop:=∀ a,Kn a X.n ρ->execOp a.eval o = m
theorem opTo_cln {τ:Type} {o:Oper} {m:Sem Next} {enc:τ->Value} {S:τ->Hp->Prop} (H:cln P m enc S h) (ht:Tn X ρ o m)
  (hN:∀ a r h',Kn a X.n ρ->S r h'->∃ ρ',Kn (a.put o.dst (enc r)) X.n ρ'/\N ρ' h' L):eG P X o ρ h L N:=by
 refine ⟨fun a w Q k i=>?_⟩;obtain ⟨x,w',h',hr,hx,i'⟩:=run_hp i H.go;unfold Oper.wp;rw [ht a k,hr];rcases hx with ⟨r,rfl,s⟩ | ⟨f,vs,rfl,c⟩
 ·obtain ⟨ρ',k',n'⟩:=hN a r h' k s;exact ⟨ρ',h',L,n',k',i'⟩
 ·refine (i'.call c).mono ?_;rintro e w'' ⟨v,h'',rfl,⟨r,rfl,s⟩,i''⟩;obtain ⟨ρ',k',n'⟩:=hN a r h'' k s;exact ⟨ρ',h'',L,n',k',i''⟩
theorem to_cln {τ:Type} {op:Op} {m:Sem Next} {enc:τ->Value} {S:τ->Hp->Prop} (H:cln P m enc S h) (ht:Tn X ρ ⟨some d,op,ty,pos,af,g⟩ m) (hd:Nat.blt d X.n = true)
  (next:∀ r h',S r h'->N ((d,enc r)::ρ) h' L):eG P X ⟨some d,op,ty,pos,af,g⟩ ρ h L N :=
 opTo_cln H ht fun _ r h' k s=>⟨_,k.put hd _,next r h' s⟩
theorem x_invoke {x:Operand} {nm:String} {xs:List Operand} {ts:Array TypeId} {u:Value} {vs:List Value} (hx:ev ρ x = some u) (hs:evs ρ xs = some vs) :
  Tn X ρ ⟨dst,.call ⟨.invoke x nm,xs.toArray,ts⟩,ty,pos,af,g⟩ (callMethod u nm vs.toArray):=by
 intro a k;have e:=k.evs hs;simp [execOp,resolve,invoke,k.ev hx,e]
theorem x_callF {f:FuncId} {xs:List Operand} {ts:Array TypeId} {vs:List Value} (hs:evs ρ xs = some vs) :
  Tn X ρ ⟨dst,.call ⟨.value (.func f),xs.toArray,ts⟩,ty,pos,af,g⟩ (callFunc f vs.toArray):=by
 intro a k;have e:=k.evs hs;simp [execOp,resolve,Deferred.ofValue,invoke,Act.eval,e]
def nope (_:Hp):Prop:=False
end
end Mb
end
section
open Go
namespace Mb
universe u
abbrev hT:=Hp->Prop
abbrev kT (α:Type):=α->Hp->Prop
theorem p {α:Sort u} {a:α}:a = a:=rfl
section
variable {P:Program} {X:Cx} {ops:Array Oper} {l:List Oper} {ρ:Env} {h:Hp} {L:Bx} {K:fH} {d:Nat} {ty:TypeId} {pos:String} {af:Array Edge}
theorem U {op:Op} {v:Value} (hv:bM P X ρ ⟨some d,op,ty,pos,af,none⟩ v) (next:EvL P X ops l ((d,v)::ρ) h L K) (hd:Nat.blt d X.n = true:=by exact rfl) :
  EvL P X ops (⟨some d,op,ty,pos,af,none⟩::l) ρ h L K:=evl_w hv hd next
theorem O {x:Operand} {v:Value} (hx:ev ρ x = some v) (next:EvL P X ops l ((d,v)::ρ) h L K) (hd:Nat.blt d X.n = true:=by exact rfl) :
  EvL P X ops (⟨some d,.move x,ty,pos,af,none⟩::l) ρ h L K:=evl_w (aV hx) hd next
theorem W {x:Operand} {v:Value} (hx:ev ρ x = some v) (hk:K .normal ((d,v)::ρ) h L) (hd:Nat.blt d X.n = true:=by exact rfl) :
  EvL P X ops [⟨some d,.assign x,ty,pos,af,none⟩] ρ h L K:=evl_w (mB hx) hd (du hk)
theorem V {id:Nat} {y:Code} (H:EvL P X l.toArray l ρ h L (seqK P X y K)):Ev P X (.seq (.region id l.toArray false) y) ρ h L K:=dy (cU H)
theorem z_o {op:Op} {j s:Nat} {want:Bool} {v:Value} (hv:(asB v == some want) = false) (next:EvL P X ops l ((d,undef)::ρ) h L K)
  (hj:(ops[j]?).bind (·.dst) = some s:=by exact rfl) (hs:get ρ s = some v:=by exact rfl) (hsn:Nat.blt s X.n = true:=by exact rfl) (hd:Nat.blt d X.n = true:=by exact rfl) :
  EvL P X ops (⟨some d,op,ty,pos,af,some (j,want)⟩::l) ρ h L K:=evl_off hj hs hsn hv hd next
theorem Y {op:Op} {j s:Nat} {want:Bool} {v u:Value} {g:Bool} (hj:(ops[j]?).bind (·.dst) = some s) (hs:get ρ s = some u) (hg:(asB u == some want) = g)
  (hv:g = true->Val P X ρ h L ⟨some d,op,ty,pos,af,some (j,want)⟩ v) (next:EvL P X ops l ((d,gv g v)::ρ) h L K) (hsn:Nat.blt s X.n = true:=by exact rfl) (hd:Nat.blt d X.n = true:=by exact rfl) :
  EvL P X ops (⟨some d,op,ty,pos,af,some (j,want)⟩::l) ρ h L K:=evl_guard hj hs hsn hg hv hd next
theorem z_O {dd:Option Nat} {op:Op} {j s:Nat} {want:Bool} {v:Value} (hv:v = .bool want) (H:eG P X ⟨dd,op,ty,pos,af,some (j,want)⟩ ρ h L (fun ρ' h' L'=>EvL P X ops l ρ' h' L' K))
  (hj:(ops[j]?).bind (·.dst) = some s:=by exact rfl) (hs:get ρ s = some v:=by exact rfl) (hsn:Nat.blt s X.n = true:=by exact rfl) :
  EvL P X ops (⟨dd,op,ty,pos,af,some (j,want)⟩::l) ρ h L K:=evl_on hj hs hsn hv H
theorem z_p {op:Op} {g:Option (Nat × Bool)} {v:Value} {N:Env->Hp->Bx->Prop} (hv:bM P X ρ ⟨some d,op,ty,pos,af,g⟩ v) (hN:N ((d,v)::ρ) h L) (hd:Nat.blt d X.n = true:=by exact rfl) :
  eG P X ⟨some d,op,ty,pos,af,g⟩ ρ h L N:=wI (wv hv) hd hN
theorem z_c {τ:Type} {g:Option (Nat × Bool)} {N:Env->Hp->Bx->Prop} {f:FuncId} {xs:List Operand} {ts:Array TypeId} {vs:List Value} {enc:τ->Value} {S:τ->Hp->Prop} (H:cl P f vs enc S h) (he:iw P f)
  (next:∀ r h',S r h'->N ((d,enc r)::ρ) h' L) (hx:evs ρ xs = some vs:=by exact rfl) (hd:Nat.blt d X.n = true:=by exact rfl):eG P X ⟨some d,.call ⟨.value (.func f),xs.toArray,ts⟩,ty,pos,af,g⟩ ρ h L N:=to_cl H he hx hd next
theorem z_i {τ:Type} {f:FuncId} {fn:Func} {c:Code} {n:Nat} {vs:List Value} {enc:τ->Value} {S:τ->Hp->Prop} (hf:P.funcs[f]? = some fn) (hb:fn.body = some c) (hn:fn.ntmps = n) (H:∀ w0,Ev P ⟨n,w0,h⟩ c (args0 0 vs) h [] (retK P ⟨n,w0,h⟩ fn (fun v h'=>∃ r,v = enc r/\S r h')))
  (hl:Nat.ble vs.length n = true:=by exact rfl):cl P f vs enc S h:=ct_intro vs hf hb hn hl H
theorem z_j {f:FuncId} {fn:Func} (h:P.funcs[f]? = some fn) (a:(fn.name == "runtime.NumGoroutine") = false:=by decide) (b:fn.body.isNone = false:=by exact rfl):iw P f:=⟨fn,h,a,b⟩
theorem z_k {S i off:Nat} (m:Nat) {fs:Array Field} {f:Field} (h1:P.underlying S = some (.struct fs)) (h2:fs[i]? = some f:=by exact rfl) (h3:f.offset = off:=by exact rfl) (h4:(P.info? f.type).map (·.size) = some m:=by kernel_rfl) (h5:m ≠ 0:=by decide):Fld P S i off:=fld_of h1 h2 h3 h4 h5
theorem Z {a b:Bool} (h:a = b):Value.bool a = Value.bool b:=congrArg Value.bool h
theorem z_r {fn:Func} {t:Tmp} {Q:Value->Hp->Prop} {v:Value} (q:Q v h) (hr:fn.results = #[.tmp t]:=by exact rfl) (hv:get ρ t = some v:=by exact rfl):retK P X fn Q .ret ρ h L:=ret_i (res_1 hr (rv_t hv)) q
end
section
variable {P:Program} {X:Cx} {ops:Array Oper} {E:Bx} {ρ:Env} {h:Hp} {L:Bx} {K:fH} {d:Nat} {ty:TypeId} {pos:String} {af:Array Edge} {n:Nat} {listed:Array Bool}
theorem M {op:Op} {v:Value} (i:Nat) (hi:ops[i]? = some ⟨some d,op,ty,pos,af,none⟩) (hv:bM P X ρ ⟨some d,op,ty,pos,af,none⟩ v) (next:EvA P X ops E n (listed.setIfInBounds i true) ((d,v)::ρ) h L K)
  (hK:NoP K:=by exact fun _ _ _ _ hh=>hh) (hc:chk anyK ops listed i = true:=by kernel_rfl) (hd:Nat.blt d X.n = true:=by exact rfl):EvA P X ops E (n + 1) listed ρ h L K:=eva_pure hK hi hc hd (ve hv) next
theorem R {op:Op} {v:Value} (i:Nat) (hi:ops[i]? = some ⟨some d,op,ty,pos,af,none⟩) (hv:il P X ρ E ⟨some d,op,ty,pos,af,none⟩ v) (next:EvA P X ops E n (listed.setIfInBounds i true) ((d,v)::ρ) h L K)
  (hK:NoP K:=by exact fun _ _ _ _ hh=>hh) (hc:chk anyK ops listed i = true:=by kernel_rfl) (hd:Nat.blt d X.n = true:=by exact rfl):EvA P X ops E (n + 1) listed ρ h L K:=eva_pure hK hi hc hd hv next
theorem G {op:Op} {j s:Nat} {want:Bool} {v:Value} (i:Nat) (hi:ops[i]? = some ⟨some d,op,ty,pos,af,some (j,want)⟩) (hv:(asB v == some want) = false) (next:EvA P X ops E n (listed.setIfInBounds i true) ((d,undef)::ρ) h L K)
  (hK:NoP K:=by exact fun _ _ _ _ hh=>hh) (hc:chk anyK ops listed i = true:=by kernel_rfl) (hd:Nat.blt d X.n = true:=by exact rfl) (hj:(ops[j]?).bind (·.dst) = some s:=by exact rfl) (hs:get ρ s = some v:=by exact rfl) (hsn:Nat.blt s X.n = true:=by exact rfl) :
  EvA P X ops E (n + 1) listed ρ h L K:=eva_off hK hi hc hd hj hs hsn hv next
theorem I {op:Op} {j s:Nat} {want:Bool} {v w:Value} (i:Nat) (hi:ops[i]? = some ⟨some d,op,ty,pos,af,some (j,want)⟩) (hw:w = .bool want) (hv:il P X ρ E ⟨some d,op,ty,pos,af,some (j,want)⟩ v) (next:EvA P X ops E n (listed.setIfInBounds i true) ((d,v)::ρ) h L K)
  (hK:NoP K:=by exact fun _ _ _ _ hh=>hh) (hc:chk anyK ops listed i = true:=by kernel_rfl) (hd:Nat.blt d X.n = true:=by exact rfl) (hj:(ops[j]?).bind (·.dst) = some s:=by exact rfl) (hs:get ρ s = some w:=by exact rfl) (hsn:Nat.blt s X.n = true:=by exact rfl) :
  EvA P X ops E (n + 1) listed ρ h L K:=eva_on hK hi hc hd hj hs hsn hw hv next
theorem F {o:Oper} (i:Nat) (hi:ops[i]? = some o) (H:eG P X o ρ h L (fun ρ' h' L'=>E.Sublist L'/\EvA P X ops E n (listed.setIfInBounds i true) ρ' h' L' K))
  (hr:Region.ready .any ops listed = [i]:=by kernel_rfl) (hg:o.guard = none:=by exact rfl):EvA P X ops E (n + 1) listed ρ h L K:=eva_1 hr (way_op hi hg H)
end
end Mb
end
section
open Go
namespace Mb
abbrev As:=Hp->Prop
def ah:List As->Hp->Prop
 | [],_=>True
 | A::l,h=>∃ h1 h2,Dj h1 h2/\h = un h1 h2/\A h1/\ah l h2
theorem Dj.un_left {a b c:Hp} (h1:Dj a c) (h2:Dj b c):Dj (un a b) c:=fun x=>by
 rcases h1 x with e | e
 ·rcases h2 x with e' | e'
  ·exact .inl (uf.2 ⟨e,e'⟩)
  ·exact .inr e'
 ·exact .inr e
theorem Dj.un_right {a b c:Hp} (h1:Dj a b) (h2:Dj a c):Dj a (un b c):=(Dj.un_left h1.symm h2.symm).symm
theorem Dj.of_un_left {a b c:Hp} (h:Dj (un a b) c):Dj a c/\Dj b c:=by
 refine ⟨fun x=>?_,fun x=>?_⟩
 ·rcases h x with e | e
  ·exact .inl (uf.1 e).1
  ·exact .inr e
 ·rcases h x with e | e
  ·exact .inl (uf.1 e).2
  ·exact .inr e
theorem Dj.of_un_right {a b c:Hp} (h:Dj a (un b c)):Dj a b/\Dj a c :=
 ⟨(Dj.of_un_left h.symm).1.symm,(Dj.of_un_left h.symm).2.symm⟩
theorem Dj.emp_left (h:Hp):Dj emp h:=fun _=>.inl rfl
theorem Dj.emp_right (h:Hp):Dj h emp:=fun _=>.inr rfl
theorem pS {l:List As}:∀ {h g:Hp},ah l h->Dj h g->ah l (un h g):=by
 induction l with
 | nil=>intro h g _ _; trivial
 | cons A l ih =>
  rintro h g ⟨h1,h2,d,rfl,a,s⟩ dg;obtain ⟨d1,d2⟩:=Dj.of_un_left dg;exact ⟨h1,un h2 g,Dj.un_right d d1,mC _ _ _,a,ih s d2⟩
theorem dP {l m:List As}:∀ {h:Hp},ah (l++m) h↔∃ h1 h2,Dj h1 h2/\h = un h1 h2/\ah l h1/\ah m h2:=by
 induction l with
 | nil =>
  intro h;constructor
  ·intro s; exact ⟨emp,h,Dj.emp_left _,rfl,trivial,s⟩
  ·rintro ⟨h1,h2,d,rfl,_,s⟩;rw [un_comm d];exact pS s d.symm
 | cons A l ih =>
  intro h;constructor
  ·rintro ⟨h1,h2,d,rfl,a,s⟩;obtain ⟨h3,h4,d',rfl,s1,s2⟩:=ih.1 s;obtain ⟨d1,d2⟩:=Dj.of_un_right d;exact ⟨un h1 h3,h4,Dj.un_left d2 d',(mC _ _ _).symm,⟨h1,h3,d1,rfl,a,s1⟩,s2⟩
  ·rintro ⟨h1,h2,d,rfl,⟨h3,h4,d',rfl,a,s1⟩,s2⟩;obtain ⟨d1,d2⟩:=Dj.of_un_left d;exact ⟨h3,un h4 h2,Dj.un_right d' d1,mC _ _ _,a,ih.2 ⟨h4,h2,d2,rfl,s1,s2⟩⟩
theorem jY {l m:List As} (p:l.Perm m):∀ {h:Hp},ah l h->ah m h:=by
 induction p with
 | nil=>exact fun s=>s
 | cons A _ ih=>rintro h ⟨h1,h2,d,e,a,s⟩; exact ⟨h1,h2,d,e,a,ih s⟩
 | swap A B l =>
  rintro h ⟨h1,h2,d,rfl,b,h3,h4,d',rfl,a,s⟩;obtain ⟨d1,d2⟩:=Dj.of_un_right d;refine ⟨h3,un h1 h4,Dj.un_right d1.symm d',?_,a,h1,h4,d2,rfl,b,s⟩;rw [← mC,un_comm d1,mC]
 | trans _ _ ih1 ih2=>exact fun s=>ih2 (ih1 s)
theorem yl {α:Type} {a:α}:∀ {l:List α} {i:Nat},l[i]? = some a->l.Perm (a::l.eraseIdx i)
 | [],i,h=>by simp at h
 | x::l,0,h=>by simp at h; subst h; exact .refl _
 | x::l,i + 1,h=>by
  simp only [List.getElem?_cons_succ] at h;exact ((yl h).cons x).trans (.swap _ _ _)
theorem eu {l:List As} {A:As} {i:Nat} (hi:l[i]? = some A) {h:Hp} (s:ah l h):ah (A::l.eraseIdx i) h:=by
 exact jY (yl hi) s
theorem cO {l:List As} {A:As} {i:Nat} (hi:i < l.length) {h:Hp} (s:ah (A::l.eraseIdx i) h):ah (l.set i A) h:=by
 refine jY ?_ s;have:=yl (l:=l.set i A) (i:=i) (a:=A) (by simp [hi]);rw [List.eraseIdx_set_eq] at this;exact this.symm
theorem cL {l:List As} {A:As} {i:Nat} (hi:l[i]? = some A) {h:Hp} (s:ah l h):∃ h1,A h1/\∀ b o,h1 b = some o->h b = some o:=by
 obtain ⟨h1,h2,d,rfl,a,_⟩:=eu hi s;exact ⟨h1,a,fun b o e=>un_left e⟩
theorem star_fact {l:List As} {A:As} {φ:Prop} {i:Nat} (hi:l[i]? = some A) (ha:∀ h,A h->φ) {h:Hp} (s:ah l h):φ:=by
 obtain ⟨h1,a,_⟩:=cL hi s;exact ha _ a
def pick {α:Type}:List Nat->List α->List α
 | [],l=>l
 | i::is,l=>match l[i]? with
  | some a=>a::pick is (l.eraseIdx i)
  | none=>pick is l
theorem pick_perm {α:Type}:∀ (is:List Nat) (l:List α),l.Perm (pick is l)
 | [],l=>.refl _
 | i::is,l=>by
  unfold pick;split
  ·rename_i a h;exact (yl h).trans (.cons _ (pick_perm is _))
  ·exact pick_perm is l
theorem star_pick (is:List Nat) {l:List As} {h:Hp} (s:ah l h):ah (pick is l) h:=jY (pick_perm is l) s
theorem aA (is:List Nat) {l m:List As} {h:Hp} (s:ah l h) (e:pick is l = m):ah m h:=e ▸ star_pick is s
theorem aT {l m:List As} {h:Hp} (s:ah (l++m) h):ah m h:=by
 obtain ⟨h1,h2,d,rfl,_,s⟩:=dP.1 s;rw [un_comm d]; exact pS s d.symm
theorem lD {l m:List As} {h:Hp} (s:ah (l++m) h):ah l h:=by
 obtain ⟨h1,h2,d,rfl,s,_⟩:=dP.1 s;exact pS s d
def blk (b:Nat) (T:TypeId) (c:List Value):As:=fun h=>h b = some (.cells c.toArray T (0,0))
def obj (b:Nat) (o:Obj):As:=fun h=>h b = some o
section
variable {P:Program} {l:List As} {h:Hp}
theorem ld_s {τ:Type} {b off i:Nat} {T:TypeId} {c:List Value} {enc:τ->List Value} {K:τ->Hp->Prop} (x:τ) (s:ah l h) (hi:l[i]? = some (blk b T c)) (hx:∀ j v,(enc x)[j]? = some v->c[off + j]? = some v) (k:K x h):ld (b,off) enc K h:=by
 obtain ⟨h1,a,sub⟩:=cL hi s;exact ⟨x,⟨_,_,_,sub _ _ a,fun j v hj=>by simpa using hx j v hj⟩,k⟩
theorem aJ {τ:Type} {b off i:Nat} {T:TypeId} {c:List Value} {enc:τ->List Value} {K:τ->Hp->Prop} (x:τ) (s:ah l h) (hi:l[i]? = some (blk b T c)) {v:Value} (he:enc x = [v]) (hx:c[off]? = some v) (k:K x h):ld (b,off) enc K h :=
 ld_s x s hi (fun j u hj=>by
  rw [he] at hj;cases j with
  | zero=>simp at hj; subst hj; simpa using hx
  | succ j=>simp at hj) k
theorem set_dj {h1 h2:Hp} {b:Nat} {o o':Obj} (d:Dj h1 h2) (e:h1 b = some o):Dj (dh h1 b o') h2/\dh (un h1 h2) b o' = un (dh h1 b o') h2:=by
 refine ⟨fun x=>?_,?_⟩
 ·by_cases hx:x = b
  ·subst hx;rcases d x with d1 | d1
   ·rw [e] at d1; cases d1
   ·exact .inr d1
  ·rw [qk _ _ _ hx]; exact d x
 ·funext x;unfold dh un;by_cases hx:x = b
  ·simp [hx]
  ·simp [hx]
theorem obj_set {b i:Nat} {o o':Obj} (s:ah l h) (hi:l[i]? = some (obj b o)):ah (l.set i (obj b o')) (dh h b o'):=by
 obtain ⟨h1,h2,d,rfl,a,s'⟩:=eu hi s;obtain ⟨d',e⟩:=set_dj (o':=o') d a;rw [e];exact cO (List.getElem?_eq_some_iff.1 hi).1 ⟨_,h2,d',rfl,iR _ _ _,s'⟩
theorem mX {b off i:Nat} {T:TypeId} {c vs:List Value} {K:Hp->Prop} (s:ah l h) (hi:l[i]? = some (blk b T c)) (hlen:off + vs.length <= c.length)
  (k:∀ h',ah (l.set i (blk b T (wr c off vs))) h'->K h'):st (b,off) vs K h:=by
 obtain ⟨h1,a,sub⟩:=cL hi s;exact ⟨c,T,(0,0),sub _ _ a,nf0 _ _,hlen,k _ (obj_set (o':=.cells (wr c off vs).toArray T (0,0)) s hi)⟩
theorem new_s {b:Nat} {o:Obj} (s:ah l h) (hb:h b = none):ah (obj b o::l) (dh h b o):=by
 refine ⟨dh emp b o,h,fun x=>?_,?_,iR _ _ _,s⟩
 ·by_cases hx:x = b
  ·subst hx; exact .inr hb
  ·exact .inl (by rw [qk _ _ _ hx]; rfl)
 ·funext x;unfold dh un;by_cases hx:x = b
  ·simp [hx]
  ·simp [hx,emp]
theorem nP {T:TypeId} {vs:List Value} {K:Nat->Hp->Prop} (s:ah l h) (k:∀ b h',ah (blk b T vs::l) h'->K b h'):nw T vs K h :=
 fun b hb=>k b _ (new_s s hb)
def Sp {τ:Type} (P:Program) (f:FuncId) (args:List Value) (enc:τ->Value) (pre:List As) (post:τ->As):Prop :=
 ∀ h,ah pre h->Ct P f args.toArray h fun v h'=>∃ r,v = enc r/\post r h'
theorem bG {τ:Type} {f:FuncId} {args:List Value} {enc:τ->Value} {pre rest:List As} {post:τ->As} {K:τ->Hp->Prop} (is:List Nat) (c:Sp P f args enc pre post) (s:ah l h) (e:pick is l = pre++rest)
  (k:∀ r h',ah (post r::rest) h'->K r h'):cl P f args enc K h:=by
 obtain ⟨h1,h2,d,rfl,s1,s2⟩:=dP.1 (aA is s e);exact (c h1 s1).frame_mono d rfl fun v h' ⟨r,hv,q⟩ dj=>⟨r,hv,k r _ ⟨h',h2,dj,rfl,q,s2⟩⟩
def pa_ (φ:Prop) (m:List As):As:=fun h=>φ/\ah m h
theorem aM {φ:Prop} {m rest:List As}:ah (pa_ φ m::rest) h↔φ/\ah (m++rest) h:=by
 constructor
 ·rintro ⟨h1,h2,d,rfl,⟨f,s⟩,s'⟩;exact ⟨f,dP.2 ⟨h1,h2,d,rfl,s,s'⟩⟩
 ·rintro ⟨f,s⟩;obtain ⟨h1,h2,d,rfl,s,s'⟩:=dP.1 s;exact ⟨h1,h2,d,rfl,⟨f,s⟩,s'⟩
theorem ar {c:Bool} {A B:Hp->Prop} (ht:c = true->A h) (hf:c = false->B h):br c A B h:=⟨ht,hf⟩
theorem cg {c:Bool} {A B:Hp->Prop} (hc:c = true) (ht:A h):br c A B h:=⟨fun _=>ht,fun e=>absurd (hc.symm.trans e) (by decide)⟩
theorem bB {c:Bool} {A B:Hp->Prop} (hc:c = false) (hf:B h):br c A B h:=⟨fun e=>absurd (hc.symm.trans e) (by decide),fun _=>hf⟩
theorem bn {q:Nat × Nat} {K:Nat × Nat->Hp->Prop} (k:K q h):nn (some q) K h:=⟨q,rfl,k⟩
end
end Mb
end
end Go.Proofs.YtjcamacgclipiaaGreatDoor
