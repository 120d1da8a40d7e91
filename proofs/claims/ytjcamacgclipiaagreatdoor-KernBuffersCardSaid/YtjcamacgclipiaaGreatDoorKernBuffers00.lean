/- Part of the proof of: The law KernBuffers returns true for every input, and leaves its arguments as they were. -/
import Derived.BigQuiet
import Derived.ChangeSame
import Derived.ChangeVars
import Derived.DataShut
import Derived.Deep.Slices
import Derived.JoinedOf
import Derived.KernelRfl
import Derived.LaidHandle
import Derived.LaidLaws
import Derived.Laws.StructEq
import Derived.Orders
import Derived.RowKit
import Derived.RowKitTokens
import Derived.Stop.Joined
import Derived.Tactics2
import Derived.Test.YtjcamacgclipiaaGreatDoorProg
import Derived.WideKeyArgs
import GoSem.ClaimJoined
set_option linter.all false
set_option maxRecDepth 20000
set_option maxHeartbeats 4000000
namespace Go.Proofs.YtjcamacgclipiaaGreatDoor
open Go.Proofs.Tryz
open Go.IntKind (i64 u64)
open _root_.Array (getElem?_push)
open _root_.List (ext_getElem? getElem?_set length_cons mem_of_getElem?)
open _root_.Nat (ble_eq le_refl)
section
open Go
namespace Mb
abbrev Hp:=Nat->Option Obj
def dh (h:Hp) (b:Nat) (o:Obj):Hp:=fun x=>if x = b then some o else h x
def emp:Hp:=fun _=>none
theorem iR (h:Hp) (b:Nat) (o:Obj):dh h b o b = some o:=by simp [dh]
theorem qk (h:Hp) (b:Nat) (o:Obj) {x:Nat} (hx:x ≠ b):dh h b o x = h x:=by simp [dh,hx]
def kG (h:Hp) (a:Addr):Option Value :=
 match h a.block with
 | some (.cells c _ _)=>if a.spot.isSome then none else c[a.off]?
 | _=>none
def oput (o:Obj) (a:Addr) (v:Value):Obj :=
 match o with
 | .cells c e fr=>.cells (if a.spot.isSome then c else c.setIfInBounds a.off v) e fr
 | o=>o
def uK (o:Obj) (off:Nat):Bool :=
 match o with
 | .cells _ _ (lo,hi)=>lo <= off && off < hi
 | _=>false
def oshape (o:Obj):Option (TypeId × Nat) :=
 match o with
 | .cells c e _=>some (e,c.size)
 | _=>none
def ye:Obj->Bool
 | .cells ..=>true
 | _=>false
def calm:Obj->Bool
 | .cells _ _ (lo,hi)=>hi <= lo
 | _=>true
def hp {α:Type} (P:Program):Sem α->(α->Hp->Prop)->Hp->Prop
 | .pure a,K,h=>K a h
 | .load _ a k,K,h=>∃ v,kG h a = some v/\hp P (k v) K h
 | .store _ a v k,K,h=>v.oneCell' = true/\∃ o u,h a.block = some o/\kG h a = some u/\uK o a.off = false/\hp P k K (dh h a.block (oput o a v))
 | .new o k,K,h=>calm o = true/\∀ b,h b = none->hp P (k b) K (dh h b o)
 | .shape r k,K,h=>∃ o,h r = some o/\hp P (k (oshape o)) K h
 | .freeze _ _ _,_,_=>False
 | .frozen a k,K,h=>∃ o,h a.block = some o/\hp P (k (uK o a.off)) K h
 | .getObj r k,K,h=>∃ o,h r = some o/\ye o = false/\hp P (k o) K h
 | .setObj r o k,K,h=>ye o = false/\(∃ o',h r = some o'/\ye o' = false)/\hp P k K (dh h r o)
 | .choose q k,K,h=>if q.forced then hp P (k 0) K h else ∀ t,hp P (k (q.cut t)) K h
 | .sys _ _,_,_=>False
 | .program k,K,h=>hp P (k P) K h
 | .mark _ k,K,h=>hp P k K h
 | .halt _,_,_=>False
def Sub (h:Hp) (w:World):Prop:=∀ b o,h b = some o->w.heap[b]? = some o
structure Fr (h:Hp) (w w':World) (h':Hp):Prop where
 size:w.heap.size <= w'.heap.size
 same:∀ b,b < w.heap.size->h b = none->w'.heap[b]? = w.heap[b]?
 dom:∀ b,h' b ≠ none->h b ≠ none\/w.heap.size <= b
 froz:∀ a,w'.frozen? a = w.frozen? a
 os:w'.os = w.os
 out:w'.output = w.output
theorem Fr.refl (h:Hp) (w:World):Fr h w w h :=
 ⟨le_refl _,fun _ _ _=>rfl,fun _ hb=>.inl hb,fun _=>rfl,rfl,rfl⟩
theorem Fr.trans {h h1 h2:Hp} {w w1 w2:World} (a:Fr h w w1 h1) (b:Fr h1 w1 w2 h2):Fr h w w2 h2 where
 size:=Nat.le_trans a.size b.size
 same:=fun x hx hn=>by
  rw [b.same x (Nat.lt_of_lt_of_le hx a.size) (by
   cases e:h1 x with
   | none=>rfl
   | some o=>exact absurd (a.dom x (by simp [e])) (by simp [hn]; omega))]
  exact a.same x hx hn
 dom:=fun x hx=>by
  rcases b.dom x hx with h1' | h1'
  ·exact a.dom x h1'
  ·exact .inr (Nat.le_trans a.size h1')
 froz:=fun x=>(b.froz x).trans (a.froz x)
 os:=b.os.trans a.os
 out:=b.out.trans a.out
theorem Sub.none {h:Hp} {w:World} (s:Sub h w) {b:Nat} (hb:w.heap.size <= b):h b = none:=by
 cases e:h b with
 | none=>rfl
 | some o =>
  have:=s b o e;rw [Array.getElem?_eq_none hb] at this;cases this
theorem Sub.cell {h:Hp} {w:World} (s:Sub h w) {a:Addr} {v:Value} (hc:kG h a = some v):w.cell? a = some v:=by
 unfold kG at hc;unfold World.cell?;split at hc
 ·rename_i c e fr ho;rw [s _ _ ho];exact hc
 ·cases hc
theorem Sub.frozen {h:Hp} {w:World} (s:Sub h w) {a:Addr} {o:Obj} (ho:h a.block = some o):w.frozen? a = uK o a.off:=by
 unfold World.frozen? uK;rw [s _ _ ho];cases o <;> rfl
theorem oo (w:World) (a:Addr) (v:Value) (o:Obj) (ho:w.heap[a.block]? = some o) (b:Nat) :
  (w.setCell a v).heap[b]? = if b = a.block then some (oput o a v) else w.heap[b]?:=by
 simp only [World.setCell,Array.getElem?_modify];by_cases e:a.block = b
 ·subst e;rw [ho];cases o <;> simp [oput]
 ·simp [e,Ne.symm e]
theorem hp_run {α:Type} {P:Program} (m:Sem α):∀ {K:α->Hp->Prop} {h:Hp} {w:World},hp P m K h->Sub h w ->
  ∃ x w' h',m.run P w = .ok x w'/\K x h'/\Sub h' w'/\Fr h w w' h':=by
 induction m with
 | pure a=>exact fun {K h w} hk s=>⟨a,w,h,rfl,hk,s,Fr.refl _ _⟩
 | load md a k ih =>
  intro K h w ⟨v,hv,hk⟩ s;obtain ⟨x,w',h',hr,r⟩:=ih v hk s;exact ⟨x,w',h',by rw [Sem.run,s.cell hv]; exact hr,r⟩
 | store md a v k ih =>
  intro K h w ⟨h1,o,u,ho,hu,hf,hk⟩ s;have hw:=s _ _ ho;have kG:=s.cell hu;have hfz:=(s.frozen ho).trans hf;have s1:Sub (dh h a.block (oput o a v)) (w.setCell a v):=by
   intro b p hb;rw [oo w a v o hw];by_cases e:b = a.block
   ·rw [if_pos e]; simpa [dh,e] using hb
   ·rw [if_neg e]; exact s b p (by simpa [dh,e] using hb)
  have f1:Fr h w (w.setCell a v) (dh h a.block (oput o a v)):=by
   refine ⟨by simp,?_,?_,fun x=>by simp,rfl,rfl⟩
   ·intro b _ hn;rw [oo w a v o hw,if_neg];rintro rfl;rw [ho] at hn; cases hn
   ·intro b hb;by_cases e:b = a.block
    ·exact .inl (by rw [e,ho]; simp)
    ·exact .inl (by simpa [dh,e] using hb)
  obtain ⟨x,w',h',hr,hq,s',f'⟩:=ih hk s1;refine ⟨x,w',h',?_,hq,s',f1.trans f'⟩;cases v <;> first | (simp [Value.oneCell'] at h1; done) | (simp only [Sem.run,kG,hfz]; exact hr)
 | new o k ih =>
  intro K h w ⟨hcalm,hk⟩ s;have hn:h w.heap.size = none:=s.none (le_refl _);have s1:Sub (dh h w.heap.size o) (w.alloc o):=by
   intro b p hb;show (w.heap.push o)[b]? = some p;rw [getElem?_push];by_cases e:b = w.heap.size
   ·rw [if_pos e]; simpa [dh,e] using hb
   ·rw [if_neg e]; exact s b p (by simpa [dh,e] using hb)
  have f1:Fr h w (w.alloc o) (dh h w.heap.size o):=by
   refine ⟨by simp,?_,?_,?_,rfl,rfl⟩
   ·intro b hb _;show (w.heap.push o)[b]? = _;rw [getElem?_push,if_neg (by omega)]
   ·intro b hb;by_cases e:b = w.heap.size
    ·exact .inr (by omega)
    ·exact .inl (by simpa [dh,e] using hb)
   ·intro a;unfold World.frozen?;show (match (w.heap.push o)[a.block]? with | some (.cells _ _ (lo,hi))=>lo <= a.off && a.off < hi | _=>false) = _;rw [getElem?_push];by_cases e:a.block = w.heap.size
    ·rw [if_pos e,Array.getElem?_eq_none (by omega)];cases o with
     | cells c t fr =>
      obtain ⟨lo,hi⟩:=fr;simp [calm] at hcalm;simp; omega
     | _=>rfl
    ·rw [if_neg e]; rfl
  obtain ⟨x,w',h',hr,hq,s',f'⟩:=ih w.heap.size (hk _ hn) s1;exact ⟨x,w',h',hr,hq,s',f1.trans f'⟩
 | shape r k ih =>
  intro K h w ⟨o,ho,hk⟩ s;obtain ⟨x,w',h',hr,rest⟩:=ih _ hk s;refine ⟨x,w',h',?_,rest⟩;have e:w.shape? r = oshape o:=by
   unfold World.shape? oshape;rw [s _ _ ho];cases o <;> rfl
  rw [Sem.run,e];exact hr
 | freeze a n k ih=>exact fun hk _=>hk.elim
 | frozen a k ih =>
  intro K h w ⟨o,ho,hk⟩ s;obtain ⟨x,w',h',hr,rest⟩:=ih _ hk s;refine ⟨x,w',h',?_,rest⟩;rw [Sem.run,s.frozen ho];exact hr
 | getObj r k ih =>
  intro K h w ⟨o,ho,hc,hk⟩ s;obtain ⟨x,w',h',hr,rest⟩:=ih _ hk s;refine ⟨x,w',h',?_,rest⟩;rw [Sem.run,s _ _ ho];cases o <;> first | (simp [ye] at hc; done) | exact hr
 | setObj r o k ih =>
  intro K h w ⟨hc,⟨o',ho',hc'⟩,hk⟩ s;have hw:=s _ _ ho';have hlt:r < w.heap.size:=(Array.getElem?_eq_some_iff.1 hw).1;have hget:∀ b:Nat,(w.heap.setIfInBounds r o)[b]? = if b = r then some o else w.heap[b]?:=by
   intro b;rw [Array.getElem?_setIfInBounds];by_cases e:r = b
   ·subst e; simp [hlt]
   ·simp [e,Ne.symm e]
  have s1:Sub (dh h r o) { w with heap:=w.heap.setIfInBounds r o }:=by
   intro b p hb;show (w.heap.setIfInBounds r o)[b]? = _;rw [hget];by_cases e:b = r
   ·rw [if_pos e]; simpa [dh,e] using hb
   ·rw [if_neg e]; exact s b p (by simpa [dh,e] using hb)
  have f1:Fr h w { w with heap:=w.heap.setIfInBounds r o } (dh h r o):=by
   refine ⟨by simp,?_,?_,?_,rfl,rfl⟩
   ·intro b _ hn;show (w.heap.setIfInBounds r o)[b]? = _;rw [hget,if_neg];rintro rfl;rw [ho'] at hn; cases hn
   ·intro b hb;by_cases e:b = r
    ·exact .inl (by rw [e,ho']; simp)
    ·exact .inl (by simpa [dh,e] using hb)
   ·intro a;unfold World.frozen?;show (match (w.heap.setIfInBounds r o)[a.block]? with | some (.cells _ _ (lo,hi))=>lo <= a.off && a.off < hi | _=>false) = _;rw [hget];by_cases e:a.block = r
    ·rw [if_pos e,e,hw];cases o <;> cases o' <;> first | rfl | (simp [ye] at hc hc'; done)
    ·rw [if_neg e]; rfl
  obtain ⟨x,w',h',hr,hq,s',f'⟩:=ih hk s1;refine ⟨x,w',h',?_,hq,s',f1.trans f'⟩;rw [Sem.run,hw];cases o' <;> first | (simp [ye] at hc'; done) | exact hr
 | choose q k ih =>
  intro K h w hk s;unfold hp at hk;by_cases hf:q.forced = true
  ·rw [if_pos hf] at hk;obtain ⟨x,w',h',hr,rest⟩:=ih _ hk s;exact ⟨x,w',h',by rw [Sem.run,if_pos hf]; exact hr,rest⟩
  ·rw [if_neg hf] at hk;have s1:Sub h { w with drawn:=w.drawn + 1 }:=s;obtain ⟨x,w',h',hr,hq,s',f'⟩:=ih _ (hk (w.tape w.drawn q)) s1;exact ⟨x,w',h',by rw [Sem.run,if_neg hf]; exact hr,hq,s',⟨f'.size,f'.same,f'.dom,f'.froz,f'.os,f'.out⟩⟩
 | sys c k ih=>exact fun hk _=>hk.elim
 | program k ih =>
  intro K h w hk s;obtain ⟨x,w',h',hr,rest⟩:=ih _ hk s;exact ⟨x,w',h',hr,rest⟩
 | mark m k ih =>
  intro K h w hk s;obtain ⟨x,w',h',hr,rest⟩:=ih hk s;exact ⟨x,w',h',hr,rest⟩
 | halt x=>exact fun hk _=>hk.elim
def Ct (P:Program) (f:FuncId) (args:Array Value) (h:Hp) (Q:Value->Hp->Prop):Prop :=
 ∀ w,Sub h w->Calls P f args w fun e w'=>∃ v h',e = .returned v/\Q v h'/\Sub h' w'/\Fr h w w' h'
theorem Ct.mono {P:Program} {f:FuncId} {args:Array Value} {h:Hp} {Q Q':Value->Hp->Prop} (c:Ct P f args h Q) (hq:∀ v h',Q v h'->Q' v h'):Ct P f args h Q' :=
 fun w s=>(c w s).mono fun _ _ ⟨v,h',he,q,r⟩=>⟨v,h',he,hq v h' q,r⟩
def Dj (h g:Hp):Prop:=∀ b,h b = none\/g b = none
def un (h g:Hp):Hp:=fun b=>match h b with | some o=>some o | none=>g b
theorem uf {h g:Hp} {b:Nat}:un h g b = none↔h b = none/\g b = none:=by
 unfold un; cases h b <;> simp
theorem un_left {h g:Hp} {b:Nat} {o:Obj} (e:h b = some o):un h g b = some o:=by unfold un; rw [e]
theorem un_right {h g:Hp} {b:Nat} (e:h b = none):un h g b = g b:=by unfold un; rw [e]
theorem un_emp (h:Hp):un h emp = h:=by funext b; unfold un emp; cases h b <;> rfl
theorem Dj.symm {h g:Hp} (d:Dj h g):Dj g h:=fun b=>(d b).symm
theorem un_comm {h g:Hp} (d:Dj h g):un h g = un g h:=by
 funext b;unfold un;rcases d b with e | e <;> rw [e]
 ·cases g b <;> rfl
 ·cases h b <;> rfl
theorem mC (a b c:Hp):un (un a b) c = un a (un b c):=by
 funext x; unfold un; cases a x <;> rfl
theorem Sub.mono {h g:Hp} {w:World} (s:Sub g w) (hg:∀ b o,h b = some o->g b = some o):Sub h w:=fun b o e=>s b o (hg b o e)
theorem Ct.frame {P:Program} {f:FuncId} {args:Array Value} {h g:Hp} {Q:Value->Hp->Prop} (c:Ct P f args h Q) (d:Dj h g) :
  Ct P f args (un h g) fun v h''=>∃ h',Q v h'/\Dj h' g/\h'' = un h' g:=by
 intro w s;have s1:Sub h w:=s.mono fun b o e=>un_left e;refine (c w s1).mono fun e w' ⟨v,h',he,q,s',fr⟩=>⟨v,un h' g,he,⟨h',q,?_,rfl⟩,?_,?_⟩
 ·intro b;cases e1:h' b with
  | none=>exact .inl rfl
  | some o =>
   refine .inr ?_;rcases fr.dom b (by simp [e1]) with h1 | h1
   ·exact (d b).resolve_left h1
   ·have:un h g b = none:=s.none h1;exact (uf.1 this).2
 ·intro b o hb;cases e1:h' b with
  | some o'=>rw [un_left e1] at hb; exact s' b o (by rw [e1]; exact hb)
  | none =>
   rw [un_right e1] at hb;have hn:h b = none:=(d b).resolve_right (by simp [hb]);have hw:=s b o (by rw [un_right hn]; exact hb);rw [fr.same b (Array.getElem?_eq_some_iff.1 hw).1 hn];exact hw
 ·refine ⟨fr.size,?_,?_,fr.froz,fr.os,fr.out⟩
  ·intro b hb hn;exact fr.same b hb (uf.1 hn).1
  ·intro b hb;cases e1:h' b with
   | some o =>
    rcases fr.dom b (by simp [e1]) with h1 | h1
    ·refine .inl ?_;intro e;exact h1 (uf.1 e).1
    ·exact .inr h1
   | none =>
    rw [un_right e1] at hb;refine .inl ?_;intro e;exact hb (uf.1 e).2
theorem Ct.frame_mono {P:Program} {f:FuncId} {args:Array Value} {h g H:Hp} {Q Q':Value->Hp->Prop} (c:Ct P f args h Q) (d:Dj h g) (e:H = un h g)
  (hq:∀ v h',Q v h'->Dj h' g->Q' v (un h' g)):Ct P f args H Q':=by
 subst e;exact (c.frame d).mono fun v h'' ⟨h',q,d',e'⟩=>by rw [e']; exact hq v h' q d'
end Mb
end
section
open Go
namespace Mb
abbrev Env:=List (Nat × Value)
abbrev Bx:=List (Nat × Obj)
def get:Env->Nat->Option Value
 | [],_=>none
 | (s,v)::r,t=>bif Nat.beq s t then some v else get r t
def ev (ρ:Env):Operand->Option Value
 | .tmp t=>get ρ t
 | .const v=>some v
 | .global g=>some (.pointer (some ⟨g,0,none⟩))
 | .func f=>some (.func (.func f) #[] #[])
structure Kn (a:Act) (n:Nat) (ρ:Env):Prop where
 size:a.tmps.size = n
 dfr:a.defers = []
 val:∀ t v,get ρ t = some v->a.tmps.getD t undef = v
theorem Kn.ev {a:Act} {n:Nat} {ρ:Env} (k:Kn a n ρ) {x:Operand} {v:Value} (h:ev ρ x = some v):a.eval x = v:=by
 cases x with
 | tmp t=>exact k.val t v h
 | const u=>exact Option.some.inj h
 | global g=>exact Option.some.inj h
 | func f=>exact Option.some.inj h
theorem Kn.put {a:Act} {n:Nat} {ρ:Env} (k:Kn a n ρ) {d:Nat} (hd:Nat.blt d n = true) (v:Value):Kn (a.put (some d) v) n ((d,v)::ρ) where
 size:=by simpa [Act.put] using k.size
 dfr:=k.dfr
 val:=fun t u h=>by
  have hd':d < a.tmps.size:=by rw [k.size]; exact of_decide_eq_true (by simpa [Nat.blt_eq] using hd)
  simp only [get,cond_eq_ite] at h;show (a.tmps.setIfInBounds d v).getD t undef = u;by_cases e:d = t
  ·subst e;simp at h;simp [Array.getD_eq_getD_getElem?,Array.getElem?_setIfInBounds,hd',h]
  ·rw [if_neg (by simpa using e)] at h;have:=k.val t u h;simpa [Array.getD_eq_getD_getElem?,Array.getElem?_setIfInBounds,e] using this
theorem Kn.none {a:Act} {n:Nat} {ρ:Env} (k:Kn a n ρ) (v:Value):Kn (a.put none v) n ρ:=k
def Le (σ ρ:Env):Prop:=∀ t v,get σ t = some v->get ρ t = some v
theorem Le.refl (ρ:Env):Le ρ ρ:=fun _ _ h=>h
theorem Le.nil (ρ:Env):Le [] ρ:=fun _ _ h=>by cases h
theorem Le.cons {σ ρ:Env} {t:Nat} {v:Value} (h:get ρ t = some v) (r:Le σ ρ):Le ((t,v)::σ) ρ:=fun u x hx=>by
 simp only [get,cond_eq_ite] at hx;by_cases e:t = u
 ·subst e; simp at hx; rw [← hx]; exact h
 ·rw [if_neg (by simpa using e)] at hx; exact r u x hx
theorem Kn.le {a:Act} {n:Nat} {σ ρ:Env} (k:Kn a n ρ) (l:Le σ ρ):Kn a n σ:=⟨k.size,k.dfr,fun t v h=>k.val t v (l t v h)⟩
structure Cx where
 n:Nat
 w0:World
 h0:Hp
structure Inv (X:Cx) (w:World) (h:Hp) (L:Bx):Prop where
 sub:Sub h w
 box:∀ x ∈ L,w.heap[x.1]? = some x.2
 dj:∀ x ∈ L,h x.1 = none
 nd:(L.map (·.1)).Nodup
 fr:Fr X.h0 X.w0 w h
 new:∀ x ∈ L,X.w0.heap.size <= x.1
theorem Inv.step {X:Cx} {w w':World} {h h':Hp} {L:Bx} (i:Inv X w h L) (s:Sub h' w') (f:Fr h w w' h'):Inv X w' h' L where
 sub:=s
 box:=fun x hx=>by
  have hb:=i.box x hx;rw [f.same x.1 (Array.getElem?_eq_some_iff.1 hb).1 (i.dj x hx)];exact hb
 dj:=fun x hx=>by
  cases e:h' x.1 with
  | none=>rfl
  | some o =>
   have hb:=(Array.getElem?_eq_some_iff.1 (i.box x hx)).1;rcases f.dom x.1 (by simp [e]) with h1 | h1
   ·exact absurd (i.dj x hx) h1
   ·omega
 nd:=i.nd
 fr:=i.fr.trans f
 new:=i.new
theorem Inv.drop {X:Cx} {w:World} {h:Hp} {L L':Bx} (i:Inv X w h L) (hs:L'.Sublist L):Inv X w h L' where
 sub:=i.sub
 box:=fun x hx=>i.box x (hs.subset hx)
 dj:=fun x hx=>i.dj x (hs.subset hx)
 nd:=i.nd.sublist (hs.map _)
 fr:=i.fr
 new:=fun x hx=>i.new x (hs.subset hx)
theorem Inv.forget {X:Cx} {w:World} {h g:Hp} {L:Bx} (i:Inv X w h L) (hs:∀ b o,g b = some o->h b = some o):Inv X w g L where
 sub:=i.sub.mono hs
 box:=i.box
 dj:=fun x hx=>by
  cases e:g x.1 with
  | none=>rfl
  | some o=>exact absurd (i.dj x hx) (by simp [hs _ _ e])
 nd:=i.nd
 fr:=⟨i.fr.size,i.fr.same,fun b hb=>i.fr.dom b (by cases e:g b with | none=>exact absurd e hb | some o=>simp [hs _ _ e]),i.fr.froz,i.fr.os,i.fr.out⟩
 new:=i.new
theorem Inv.drawn {X:Cx} {w:World} {h:Hp} {L:Bx} (i:Inv X w h L) (n:Nat):Inv X { w with drawn:=n } h L where
 sub:=i.sub
 box:=i.box
 dj:=i.dj
 nd:=i.nd
 fr:=⟨i.fr.size,i.fr.same,i.fr.dom,i.fr.froz,i.fr.os,i.fr.out⟩
 new:=i.new
theorem Inv.alloc {X:Cx} {w:World} {h:Hp} {L:Bx} (i:Inv X w h L) {o:Obj} (hc:calm o = true):Inv X (w.alloc o) h ((w.heap.size,o)::L):=by
 have hn:h w.heap.size = none:=i.sub.none (le_refl _);have hg:∀ (b:Nat) (p:Obj),w.heap[b]? = some p->(w.alloc o).heap[b]? = some p:=fun b p e=>by
  show (w.heap.push o)[b]? = some p;have:=(Array.getElem?_eq_some_iff.1 e).1;rw [getElem?_push,if_neg (by omega)]; exact e
 have hnew:(w.alloc o).heap[w.heap.size]? = some o:=by
  show (w.heap.push o)[w.heap.size]? = some o;simp
 have hf:Fr h w (w.alloc o) h:=by
  refine ⟨by simp,fun b hb _=>?_,fun b hb=>.inl hb,fun a=>?_,rfl,rfl⟩
  ·show (w.heap.push o)[b]? = _;rw [getElem?_push,if_neg (by omega)]
  ·unfold World.frozen?;show (match (w.heap.push o)[a.block]? with | some (.cells _ _ (lo,hi))=>lo <= a.off && a.off < hi | _=>false) = _;rw [getElem?_push];by_cases e:a.block = w.heap.size
   ·rw [if_pos e,Array.getElem?_eq_none (by omega)];cases o with
    | cells c t fr =>
     obtain ⟨lo,hi⟩:=fr;simp [calm] at hc;simp; omega
    | _=>rfl
   ·rw [if_neg e]; rfl
 refine ⟨fun b p e=>hg b p (i.sub b p e),?_,?_,?_,i.fr.trans hf,?_⟩
 ·intro x hx;cases hx with
  | head=>exact hnew
  | tail _ hx=>exact hg _ _ (i.box x hx)
 ·intro x hx;cases hx with
  | head=>exact hn
  | tail _ hx=>exact i.dj x hx
 ·simp only [List.map_cons,List.nodup_cons];refine ⟨fun hm=>?_,i.nd⟩;obtain ⟨x,hx,e⟩:=List.mem_map.1 hm;have:=(Array.getElem?_eq_some_iff.1 (i.box x hx)).1;omega
 ·intro x hx;cases hx with
  | head=>exact i.fr.size
  | tail _ hx=>exact i.new x hx
theorem Inv.setBox {X:Cx} {w:World} {h:Hp} {L:Bx} (i:Inv X w h L) {k b:Nat} {o:Obj} (hk:L[k]? = some (b,o)) (a:Addr) (ha:a.block = b) (v:Value) :
  Inv X (w.setCell a v) h (L.set k (b,oput o a v)):=by
 subst ha;have hmem:(a.block,o) ∈ L:=mem_of_getElem? hk;have hw:=i.box _ hmem;have hn:=i.dj _ hmem;have hnewb:=i.new _ hmem;have hmap:(L.set k (a.block,oput o a v)).map (·.1) = L.map (·.1):=by
  apply ext_getElem?;intro j;rw [List.getElem?_map,List.getElem?_map,getElem?_set];by_cases e:k = j
  ·subst e;obtain ⟨hlt,heq⟩:=List.getElem?_eq_some_iff.1 hk;simp [hlt,heq]
  ·simp [e]
 have hne:∀ j x,L[j]? = some x->j ≠ k->x.1 ≠ a.block:=by
  intro j x hj hjk e;have h1:(L.map (·.1))[j]? = some a.block:=by simp [hj,e]
  have h2:(L.map (·.1))[k]? = some a.block:=by simp [hk]
  exact hjk ((List.getElem?_inj (by have:=(List.getElem?_eq_some_iff.1 h1).1; exact this) i.nd).1 (h1.trans h2.symm))
 have dh:∀ x ∈ L.set k (a.block,oput o a v),(x = (a.block,oput o a v))\/(x ∈ L/\x.1 ≠ a.block):=by
  intro x hx;obtain ⟨j,hj⟩:=List.getElem?_of_mem hx;rw [getElem?_set] at hj;by_cases e:k = j
  ·subst e;have:k < L.length:=(List.getElem?_eq_some_iff.1 hk).1;simp [this] at hj;exact .inl hj.symm
  ·rw [if_neg e] at hj;exact .inr ⟨mem_of_getElem? hj,hne j x hj (Ne.symm e)⟩
 refine ⟨?_,?_,?_,by rw [hmap]; exact i.nd,?_,?_⟩
 ·intro b p e;rw [oo w a v o hw,if_neg]
  ·exact i.sub b p e
  ·rintro rfl; rw [hn] at e; cases e
 ·intro x hx;rw [oo w a v o hw];rcases dh x hx with rfl | ⟨h1,h2⟩
  ·rw [if_pos rfl]
  ·rw [if_neg h2]; exact i.box x h1
 ·intro x hx;rcases dh x hx with rfl | ⟨h1,_⟩
  ·exact hn
  ·exact i.dj x h1
 ·have f:=i.fr;refine ⟨by simpa using f.size,fun b hb hn0=>?_,f.dom,fun x=>?_,f.os,f.out⟩
  ·rw [oo w a v o hw,if_neg (by omega)];exact f.same b hb hn0
  ·rw [World.frozen?_setCell]; exact f.froz x
 ·intro x hx;rcases dh x hx with rfl | ⟨h1,_⟩
  ·exact hnewb
  ·exact i.new x h1
end Mb
end
section
open Go
namespace Mb
section
variable {P:Program} {X:Cx}
abbrev fH:=Exit->Env->Hp->Bx->Prop
def lift (X:Cx) (K:fH):Exit->Act->World->Prop:=fun e a w=>∃ ρ h L,K e ρ h L/\Kn a X.n ρ/\Inv X w h L
def Ev (P:Program) (X:Cx) (c:Code) (ρ:Env) (h:Hp) (L:Bx) (K:fH):Prop :=
 ∀ a w,Kn a X.n ρ->Inv X w h L->c.wp P (lift X K) a w
def EvL (P:Program) (X:Cx) (ops:Array Oper) (l:List Oper) (ρ:Env) (h:Hp) (L:Bx) (K:fH):Prop :=
 ∀ a w,Kn a X.n ρ->Inv X w h L->wpList P ops (lift X K) l a w
structure eG (P:Program) (X:Cx) (o:Oper) (ρ:Env) (h:Hp) (L:Bx) (N:Env->Hp->Bx->Prop):Prop where
 go:∀ a w Q,Kn a X.n ρ->Inv X w h L->o.wp P a w (fun a' w'=>∃ ρ' h' L',N ρ' h' L'/\Kn a' X.n ρ'/\Inv X w' h' L') Q
theorem upon_mono {o:Oper} {a:Act} {next next':Act->World->Prop} {Q:Exit->Act->World->Prop} {r:Result Next}
  (hn:∀ a w,next a w->next' a w) (hh:o.upon P a next Q r):o.upon P a next' Q r:=by
 unfold Oper.upon at *
 split <;> simp_all;rename_i f args w';exact hh.mono fun e w'' he=>by
  cases e with
  | returned v=>exact hn _ _ he
  | panicked c=>exact he
  | outgrown=>exact he
 rename_i row args w';exact hh.mono fun v w'' hv=>hn _ _ hv
theorem pM {o:Oper} {a:Act} {w:World} {next next':Act->World->Prop} {Q:Exit->Act->World->Prop}
  (hn:∀ a w,next a w->next' a w) (hh:o.wp P a w next Q):o.wp P a w next' Q:=upon_mono hn hh
theorem du {ops:Array Oper} {ρ:Env} {h:Hp} {L:Bx} {K:fH} (hk:K .normal ρ h L):EvL P X ops [] ρ h L K :=
 fun _ _ k i=>⟨ρ,h,L,hk,k,i⟩
theorem evl_op {ops:Array Oper} {o:Oper} {l:List Oper} {ρ:Env} {h:Hp} {L:Bx} {K:fH}
  (hw:∀ a,Kn a X.n ρ->Region.wanted o (yielded ops a.tmps) = true)
  (H:eG P X o ρ h L (fun ρ' h' L'=>EvL P X ops l ρ' h' L' K)):EvL P X ops (o::l) ρ h L K:=by
 intro a w k i;unfold wpList;rw [if_pos (hw a k)];exact .inl (pM (fun a' w' ⟨_,_,_,n,k',i'⟩=>n a' w' k' i') (H.go a w _ k i))
theorem qD {o:Oper} (hg:o.guard = none) (a:Act) (ops:Array Oper):Region.wanted o (yielded ops a.tmps) = true:=by
 unfold Region.wanted; rw [hg]
def Val (P:Program) (X:Cx) (ρ:Env) (h:Hp) (L:Bx) (o:Oper) (v:Value):Prop :=
 ∀ a w,Kn a X.n ρ->Inv X w h L->(execOp a.eval o).run P w = .ok (.value v) w
def bM (P:Program) (X:Cx) (ρ:Env) (o:Oper) (v:Value):Prop:=∀ a w,Kn a X.n ρ->(execOp a.eval o).run P w = .ok (.value v) w
def Ext (w w':World):Prop:=∀ (b:Nat) (o:Obj),w.heap[b]? = some o->w'.heap[b]? = some o
def gR (P:Program) (X:Cx) (ρ:Env) (h:Hp) (L:Bx) (o:Oper) (v:Value):Prop :=
 ∀ a w,Kn a X.n ρ->Inv X w h L->∀ w',Ext w w'->(execOp a.eval o).run P w' = .ok (.value v) w'
theorem wv {ρ:Env} {h:Hp} {L:Bx} {o:Oper} {v:Value} (H:bM P X ρ o v):Val P X ρ h L o v:=fun a w k _=>H a w k
theorem cv {ρ:Env} {h:Hp} {L:Bx} {o:Oper} {v:Value} (H:gR P X ρ h L o v):Val P X ρ h L o v:=fun a w k i=>H a w k i w (fun _ _ e=>e)
theorem wI {d:Nat} {op:Op} {ty:TypeId} {pos:String} {af:Array Edge} {g:Option (Nat × Bool)} {ρ:Env} {h:Hp} {L:Bx} {v:Value} {N:Env->Hp->Bx->Prop}
  (hv:Val P X ρ h L ⟨some d,op,ty,pos,af,g⟩ v) (hd:Nat.blt d X.n = true) (hN:N ((d,v)::ρ) h L):eG P X ⟨some d,op,ty,pos,af,g⟩ ρ h L N:=by
 refine ⟨fun a w Q k i=>?_⟩;unfold Oper.wp;rw [hv a w k i];exact ⟨_,_,_,hN,k.put hd v,i⟩
theorem evl_val {ops:Array Oper} {l:List Oper} {d:Nat} {op:Op} {ty:TypeId} {pos:String} {af:Array Edge} {ρ:Env} {h:Hp} {L:Bx} {K:fH} {v:Value}
  (hv:Val P X ρ h L ⟨some d,op,ty,pos,af,none⟩ v) (hd:Nat.blt d X.n = true) (next:EvL P X ops l ((d,v)::ρ) h L K) :
  EvL P X ops (⟨some d,op,ty,pos,af,none⟩::l) ρ h L K :=
 evl_op (fun a _=>qD rfl a ops) (wI hv hd next)
def gv (g:Bool) (v:Value):Value:=bif g then v else undef
theorem gv_t {g:Bool} (h:g = true) (v:Value):gv g v = v:=by subst h; rfl
def asB:Value->Option Bool
 | .bool b=>some b
 | _=>none
theorem yielded_of {a:Act} {n:Nat} {ρ:Env} (k:Kn a n ρ) {ops:Array Oper} {j s:Nat} (hj:(ops[j]?).bind (·.dst) = some s) {v:Value} (hs:get ρ s = some v) (hsn:Nat.blt s n = true) :
  yielded ops a.tmps j = asB v:=by
 unfold yielded;have h1:=k.val s v hs;have hlt:s < a.tmps.size:=by rw [k.size]; exact of_decide_eq_true (by simpa [Nat.blt_eq] using hsn)
 rw [hj];simp only [Option.bind_some];rw [Array.getElem?_eq_getElem hlt];rw [Array.getD_eq_getD_getElem?,Array.getElem?_eq_getElem hlt] at h1;simp only [Option.getD_some] at h1;rw [h1];cases v <;> rfl
theorem lB {a:Act} {n:Nat} {ρ:Env} (k:Kn a n ρ) {ops:Array Oper} {d:Option Nat} {op:Op} {ty:TypeId} {pos:String} {af:Array Edge} {j s:Nat} {want:Bool}
  (hj:(ops[j]?).bind (·.dst) = some s) {v:Value} (hs:get ρ s = some v) (hsn:Nat.blt s n = true) :
  Region.wanted ⟨d,op,ty,pos,af,some (j,want)⟩ (yielded ops a.tmps) = (asB v == some want):=by
 show (yielded ops a.tmps j == some want) = _;rw [yielded_of k hj hs hsn]
theorem evl_on {ops:Array Oper} {l:List Oper} {d:Option Nat} {op:Op} {ty:TypeId} {pos:String} {af:Array Edge} {j s:Nat} {want:Bool} {ρ:Env} {h:Hp} {L:Bx} {K:fH} {v:Value}
  (hj:(ops[j]?).bind (·.dst) = some s) (hs:get ρ s = some v) (hsn:Nat.blt s X.n = true) (hv:v = .bool want)
  (H:eG P X ⟨d,op,ty,pos,af,some (j,want)⟩ ρ h L (fun ρ' h' L'=>EvL P X ops l ρ' h' L' K)) :
  EvL P X ops (⟨d,op,ty,pos,af,some (j,want)⟩::l) ρ h L K :=
 evl_op (fun a k=>by rw [lB k hj hs hsn,hv]; simp [asB]) H
theorem evl_off {ops:Array Oper} {l:List Oper} {d:Nat} {op:Op} {ty:TypeId} {pos:String} {af:Array Edge} {j s:Nat} {want:Bool} {ρ:Env} {h:Hp} {L:Bx} {K:fH} {v:Value}
  (hj:(ops[j]?).bind (·.dst) = some s) (hs:get ρ s = some v) (hsn:Nat.blt s X.n = true) (hv:(asB v == some want) = false) (hd:Nat.blt d X.n = true)
  (next:EvL P X ops l ((d,undef)::ρ) h L K) :
  EvL P X ops (⟨some d,op,ty,pos,af,some (j,want)⟩::l) ρ h L K:=by
 intro a w k i;unfold wpList;rw [lB k hj hs hsn,hv,if_neg (by simp)];exact next _ _ (k.put hd undef) i
theorem evl_guard {ops:Array Oper} {l:List Oper} {d:Nat} {op:Op} {ty:TypeId} {pos:String} {af:Array Edge} {j s:Nat} {want:Bool} {ρ:Env} {h:Hp} {L:Bx} {K:fH} {v u:Value} {g:Bool}
  (hj:(ops[j]?).bind (·.dst) = some s) (hs:get ρ s = some u) (hsn:Nat.blt s X.n = true) (hg:(asB u == some want) = g)
  (hv:g = true->Val P X ρ h L ⟨some d,op,ty,pos,af,some (j,want)⟩ v) (hd:Nat.blt d X.n = true) (next:EvL P X ops l ((d,gv g v)::ρ) h L K) :
  EvL P X ops (⟨some d,op,ty,pos,af,some (j,want)⟩::l) ρ h L K:=by
 cases g with
 | true =>
  refine evl_op (fun a k=>?_) (wI (hv rfl) hd next);rw [lB k hj hs hsn,hg]
 | false=>exact evl_off hj hs hsn hg hd next
theorem lz (t:Bool):(asB (.bool t) == some true) = t:=by cases t <;> rfl
theorem asB_f (t:Bool):(asB (.bool t) == some false) = !t:=by cases t <;> rfl
theorem asB_gt (c t:Bool):(asB (gv c (.bool t)) == some true) = (c && t):=by cases c <;> cases t <;> rfl
theorem ql (c t:Bool):(asB (gv c (.bool t)) == some false) = (c && !t):=by cases c <;> cases t <;> rfl
theorem evl_w {ops:Array Oper} {l:List Oper} {d:Nat} {op:Op} {ty:TypeId} {pos:String} {af:Array Edge} {ρ:Env} {h:Hp} {L:Bx} {K:fH} {v:Value}
  (hv:bM P X ρ ⟨some d,op,ty,pos,af,none⟩ v) (hd:Nat.blt d X.n = true) (next:EvL P X ops l ((d,v)::ρ) h L K) :
  EvL P X ops (⟨some d,op,ty,pos,af,none⟩::l) ρ h L K:=evl_val (wv hv) hd next
theorem evl_c {ops:Array Oper} {l:List Oper} {d:Nat} {op:Op} {ty:TypeId} {pos:String} {af:Array Edge} {ρ:Env} {h:Hp} {L:Bx} {K:fH} {v:Value}
  (hv:gR P X ρ h L ⟨some d,op,ty,pos,af,none⟩ v) (hd:Nat.blt d X.n = true) (next:EvL P X ops l ((d,v)::ρ) h L K) :
  EvL P X ops (⟨some d,op,ty,pos,af,none⟩::l) ρ h L K:=evl_val (cv hv) hd next
theorem ev_mono {c:Code} {ρ:Env} {h:Hp} {L:Bx} {K K':fH} (H:Ev P X c ρ h L K) (hk:∀ e ρ h L,K e ρ h L->K' e ρ h L):Ev P X c ρ h L K' :=
 fun a w k i=>wp_mono (H a w k i) fun _ _ _ ⟨ρ,h,L,hh,r⟩=>⟨ρ,h,L,hk _ _ _ _ hh,r⟩
def seqK (P:Program) (X:Cx) (y:Code) (K:fH):fH
 | .normal,ρ,h,L=>Ev P X y ρ h L K
 | e,ρ,h,L=>K e ρ h L
theorem dy {x y:Code} {ρ:Env} {h:Hp} {L:Bx} {K:fH} (H:Ev P X x ρ h L (seqK P X y K)):Ev P X (.seq x y) ρ h L K:=by
 intro a w k i;refine wp_seq (wp_mono (H a w k i) ?_);rintro e a' w' ⟨ρ',h',L',hh,k',i'⟩;cases e with
 | normal=>exact hh a' w' k' i'
 | _=>exact ⟨ρ',h',L',hh,k',i'⟩
def blkK (id:Nat) (K:fH):fH
 | .exit j,ρ,h,L=>bif Nat.beq j id then K .normal ρ h L else K (.exit j) ρ h L
 | e,ρ,h,L=>K e ρ h L
theorem eD {c:Code} {id:Nat} {ρ:Env} {h:Hp} {L:Bx} {K:fH} (H:Ev P X c ρ h L (blkK id K)):Ev P X (.block id c) ρ h L K:=by
 intro a w k i;refine wp_block (wp_mono (H a w k i) ?_);rintro e a' w' ⟨ρ',h',L',hh,k',i'⟩;cases e with
 | exit j =>
  simp only [Exit.inBlock];simp only [blkK,cond_eq_ite] at hh;by_cases e:j = id
  ·subst e;rw [if_pos rfl];exact ⟨ρ',h',L',by simpa using hh,k',i'⟩
  ·rw [if_neg e];refine ⟨ρ',h',L',?_,k',i'⟩;rw [if_neg (by simpa using e)] at hh;exact hh
 | _=>exact ⟨ρ',h',L',hh,k',i'⟩
theorem fY {ρ:Env} {h:Hp} {L:Bx} {K:fH} (H:K .normal ρ h L):Ev P X .skip ρ h L K :=
 fun _ _ k i=>wp_skip ⟨ρ,h,L,H,k,i⟩
theorem vC {ρ:Env} {h:Hp} {L:Bx} {K:fH} (H:K .ret ρ h L):Ev P X .ret ρ h L K :=
 fun _ _ k i=>wp_ret ⟨ρ,h,L,H,k,i⟩
theorem oP {id:Nat} {ρ:Env} {h:Hp} {L:Bx} {K:fH} (H:K (.exit id) ρ h L):Ev P X (.exit id) ρ h L K :=
 fun _ _ k i=>wp_exit ⟨ρ,h,L,H,k,i⟩
theorem ev_cond {c:Operand} {x y:Code} {t:Bool} {ρ:Env} {h:Hp} {L:Bx} {K:fH} (hc:Mb.ev ρ c = some (.bool t))
  (ht:t = true->Ev P X x ρ h L K) (hf:t = false->Ev P X y ρ h L K):Ev P X (.cond c x y) ρ h L K:=by
 intro a w k i;cases t with
 | true=>exact wp_cond_true (k.ev hc) (ht rfl a w k i)
 | false=>exact wp_cond_false (k.ev hc) (hf rfl a w k i)
theorem cU {id:Nat} {l:List Oper} {ρ:Env} {h:Hp} {L:Bx} {K:fH} (H:EvL P X l.toArray l ρ h L K):Ev P X (.region id l.toArray false) ρ h L K :=
 fun a w k i=>wp_region_lit (H a w k i)
def Lp {σ:Type} (step:(σ->Hp->Prop)->σ->Hp->Prop) (s:σ) (h:Hp):Prop :=
 ∃ (I:σ->Hp->Prop) (μ:σ->Hp->Nat),I s h/\∀ s h,I s h->step (fun s' h'=>I s' h'/\μ s' h' < μ s h) s h
def lpK {σ:Type} (Rec:σ->Hp->Prop) (emb:σ->Env) (embL:σ->Bx) (K:fH):fH
 | .normal,ρ,h,L=>∃ s g,Rec s g/\(∀ b o,g b = some o->h b = some o)/\Le (emb s) ρ/\(embL s).Sublist L
 | e,ρ,h,L=>K e ρ h L
theorem qx {σ:Type} {step:(σ->Hp->Prop)->σ->Hp->Prop} (emb:σ->Env) (embL:σ->Bx) {body:Code} {s:σ} {ρ:Env} {h:Hp} {L:Bx} {K:fH}
  (H:Lp step s h) (hρ:Le (emb s) ρ) (hL:(embL s).Sublist L)
  (round:∀ Rec s h,step Rec s h->Ev P X body (emb s) h (embL s) (lpK Rec emb embL K)):Ev P X (.loop body) ρ h L K:=by
 intro a w k i;obtain ⟨I,μ,h0,hs⟩:=H;intro b kk cs;have key:∀ (n:Nat) (s:σ) (h:Hp) a w,μ s h = n->I s h->Kn a X.n (emb s)->Inv X w h (embL s) ->
   ∃ e a' w',lift X K e a' w'/\Arrives P (lone (b.at a (.code body::.inLoop body::kk)) cs w) b kk cs e a' w':=by
  intro n
  induction n using Nat.strongRecOn with
  | _ n ih =>
   intro s h a w hn hI k i;obtain ⟨e,a1,w1,⟨ρ',h',L',hk,k',i'⟩,harr⟩:=round _ s h (hs s h hI) a w k i b (.inLoop body::kk) cs;cases e with
   | normal =>
    obtain ⟨s',g,⟨hI',hlt⟩,hsub,hle,hsl⟩:=hk;obtain ⟨e2,a2,w2,hq2,harr2⟩:=ih (μ s' g) (hn ▸ hlt) s' g a1 w1 rfl hI' (k'.le hle) ((i'.drop hsl).forget hsub);exact ⟨e2,a2,w2,hq2,.of_steps (Steps.trans harr (.one step_inLoop)) harr2⟩
   | exit id=>exact ⟨_,a1,w1,⟨ρ',h',L',hk,k',i'⟩,.pass (x:=.inLoop body) rfl (fun _ _=>.inl (by simp)) harr⟩
   | goto l=>exact ⟨_,a1,w1,⟨ρ',h',L',hk,k',i'⟩,.pass (x:=.inLoop body) rfl (fun _ _=>.inl (by simp)) harr⟩
   | ret=>exact ⟨_,a1,w1,⟨ρ',h',L',hk,k',i'⟩,.pass (x:=.inLoop body) rfl (fun _ _=>.inl (by simp)) harr⟩
   | panic c=>exact ⟨_,a1,w1,⟨ρ',h',L',hk,k',i'⟩,.pass (x:=.inLoop body) rfl (fun _ _=>.inl (by simp)) harr⟩
   | outgrown=>exact ⟨_,a1,w1,⟨ρ',h',L',hk,k',i'⟩,.pass (x:=.inLoop body) rfl (fun _ _=>.inl (by simp)) harr⟩
 obtain ⟨e,a',w',hq,harr⟩:=key _ s h a w rfl h0 (k.le hρ) (i.drop hL);exact ⟨e,a',w',hq,.of_steps (.one step_loop) harr⟩
theorem Lp.intro {σ:Type} {step:(σ->Hp->Prop)->σ->Hp->Prop} (I:σ->Hp->Prop) (μ:σ->Hp->Nat) {s:σ} {h:Hp} (h0:I s h)
  (hs:∀ s h,I s h->step (fun s' h'=>I s' h'/\μ s' h' < μ s h) s h):Lp step s h:=⟨I,μ,h0,hs⟩
def Res (P:Program) (X:Cx) (fn:Func) (ρ:Env) (h:Hp) (L:Bx) (v:Value):Prop :=
 ∀ a w,Kn a X.n ρ->Inv X w h L->(results fn a.tmps).run P w = .ok v w
def retK (P:Program) (X:Cx) (fn:Func) (Q:Value->Hp->Prop):fH
 | .normal,ρ,h,L=>∃ v g,Q v g/\(∀ b o,g b = some o->h b = some o)/\Res P X fn ρ h L v
 | .ret,ρ,h,L=>∃ v g,Q v g/\(∀ b o,g b = some o->h b = some o)/\Res P X fn ρ h L v
 | _,_,_,_=>False
def args0:Nat->List Value->Env
 | _,[]=>[]
 | i,v::l=>(i,v)::args0 (i + 1) l
theorem get_args0:∀ (l:List Value) (i t:Nat) (v:Value),get (args0 i l) t = some v->i <= t/\l[t - i]? = some v
 | [],_,_,_,h=>by cases h
 | u::l,i,t,v,h=>by
  simp only [args0,get,cond_eq_ite] at h;by_cases e:i = t
  ·subst e; simp at h; simp [h]
  ·rw [if_neg (by simpa using e)] at h;obtain ⟨h1,h2⟩:=get_args0 l (i + 1) t v h;refine ⟨by omega,?_⟩;rw [show t - i = (t - (i + 1)) + 1 from by omega];simpa using h2
theorem ct_intro {f:FuncId} {fn:Func} {c:Code} {n:Nat} (l:List Value) {h:Hp} {Q:Value->Hp->Prop} (hf:P.funcs[f]? = some fn) (hb:fn.body = some c) (hn:fn.ntmps = n)
  (hl:Nat.ble l.length n = true) (H:∀ w0,Ev P ⟨n,w0,h⟩ c (args0 0 l) h [] (retK P ⟨n,w0,h⟩ fn Q)):Ct P f l.toArray h Q:=by
 intro w s;refine calls_of_wp hf hb (wp_mono (H w _ w ?_ ?_) ?_)
 ·have hl':l.length <= n:=by simpa [ble_eq] using hl
  refine ⟨by simp [hn]; omega,rfl,fun t v hg=>?_⟩;obtain ⟨_,h2⟩:=get_args0 l 0 t v hg;have hlt:=(List.getElem?_eq_some_iff.1 h2).1;simp only [Nat.sub_zero] at h2 hlt;have h3:=(List.getElem?_eq_some_iff.1 h2).2;simp [Array.getD_eq_getD_getElem?,Array.getElem?_append,hlt,h3]
 ·exact ⟨s,(fun x hx=>by cases hx),(fun x hx=>by cases hx),List.nodup_nil,Fr.refl _ _,(fun x hx=>by cases hx)⟩
 ·rintro e a' w' ⟨ρ',h',L',hk,k',i'⟩;have fin:(∃ v g,Q v g/\(∀ b o,g b = some o->h' b = some o)/\Res P ⟨n,w,h⟩ fn ρ' h' L' v) ->
    a'.defers = []/\∃ v,(results fn a'.tmps).run P w' = .ok v w'/\∃ v1 h1,Ending.returned v = .returned v1/\Q v1 h1/\Sub h1 w'/\Fr h w w' h1:=by
   rintro ⟨v,g,q,hs,hr⟩;exact ⟨k'.dfr,v,hr a' w' k' i',v,g,rfl,q,i'.sub.mono hs,(i'.forget hs).fr⟩
  cases e with
  | normal=>exact fin hk
  | ret=>exact fin hk
  | exit _=>exact hk.elim
  | goto _=>exact hk.elim
  | panic _=>exact hk.elim
  | outgrown=>exact hk.elim
def iw (P:Program) (f:FuncId):Prop:=∃ fn,P.funcs[f]? = some fn/\(fn.name == "runtime.NumGoroutine") = false/\fn.body.isNone = false
def evs (ρ:Env):List Operand->Option (List Value)
 | []=>some []
 | x::l=>match ev ρ x,evs ρ l with
  | some v,some vs=>some (v::vs)
  | _,_=>none
theorem Kn.evs {a:Act} {n:Nat} {ρ:Env} (k:Kn a n ρ):∀ {l:List Operand} {vs:List Value},Mb.evs ρ l = some vs->l.map a.eval = vs
 | [],vs,h=>by cases h; rfl
 | x::l,vs,h=>by
  simp only [Mb.evs] at h;split at h
  ·rename_i v vs' h1 h2;cases h;rw [List.map_cons,k.ev h1,k.evs h2]
  ·cases h
theorem callFunc_enters {f:FuncId} (he:iw P f) (args:Array Value) (w:World):(callFunc f args).run P w = .ok (.enter f args) w:=by
 obtain ⟨fn,h1,h2,h3⟩:=he;have h2':¬ fn.name = "runtime.NumGoroutine" := by simpa using h2
 have h3':¬ fn.body = none:=by intro e; rw [e] at h3; cases h3
 simp [callFunc,h1,h2',h3']
theorem Inv.call {w:World} {h:Hp} {L:Bx} (i:Inv X w h L) {f:FuncId} {args:Array Value} {R:Value->Hp->Prop} (H:Ct P f args h R) :
  Calls P f args w fun e w'=>∃ v h',e = .returned v/\R v h'/\Inv X w' h' L :=
 (H w i.sub).mono fun _ _ ⟨v,h',he,hr,s,fr⟩=>⟨v,h',he,hr,i.step s fr⟩
theorem opTo_call {o:Oper} {f:FuncId} {args:Array Value} {ρ:Env} {h:Hp} {L:Bx} {R:Value->Hp->Prop} {N:Env->Hp->Bx->Prop}
  (hrun:∀ a w,Kn a X.n ρ->Inv X w h L->(execOp a.eval o).run P w = .ok (.enter f args) w)
  (H:Ct P f args h R) (hN:∀ a v h',Kn a X.n ρ->R v h'->∃ ρ',Kn (a.put o.dst v) X.n ρ'/\N ρ' h' L):eG P X o ρ h L N:=by
 refine ⟨fun a w Q k i=>?_⟩;unfold Oper.wp;rw [hrun a w k i];refine (i.call H).mono ?_;rintro e w' ⟨v,h',rfl,hr,i'⟩;obtain ⟨ρ',k',n'⟩:=hN a v h' k hr;exact ⟨ρ',h',L,n',k',i'⟩
theorem vo {dst:Option Tmp} {f:FuncId} {xs:List Operand} {ts:Array TypeId} {ty:TypeId} {pos:String} {af:Array Edge} {g:Option (Nat × Bool)} {ρ:Env} {vs:List Value} {a:Act} {w:World}
  (he:iw P f) (hx:evs ρ xs = some vs) (k:Kn a X.n ρ) :
  (execOp a.eval ⟨dst,.call ⟨.value (.func f),xs.toArray,ts⟩,ty,pos,af,g⟩).run P w = .ok (.enter f vs.toArray) w:=by
 have h1:=k.evs hx;simp [execOp,resolve,Deferred.ofValue,invoke,Act.eval,h1,callFunc_enters he]
def CtV (P:Program) (c:Value) (args:List Value) (h:Hp) (Q:Value->Hp->Prop):Prop :=
 ∃ f fi ca,c = .func (.func f) fi ca/\iw P f/\Ct P f ((fi++args.toArray)++ca) h Q
theorem run_call_val {dst:Option Tmp} {t:Nat} {xs:List Operand} {ts:Array TypeId} {ty:TypeId} {pos:String} {af:Array Edge} {g:Option (Nat × Bool)} {ρ:Env} {vs:List Value} {a:Act} {w:World}
  {f:FuncId} {fi ca:Array Value} (he:iw P f) (hc:get ρ t = some (.func (.func f) fi ca)) (hx:evs ρ xs = some vs) (k:Kn a X.n ρ) :
  (execOp a.eval ⟨dst,.call ⟨.value (.tmp t),xs.toArray,ts⟩,ty,pos,af,g⟩).run P w = .ok (.enter f ((fi++vs.toArray)++ca)) w:=by
 have h1:=k.evs hx;have h2:a.eval (.tmp t) = _:=k.val t _ hc;simp [execOp,resolve,h2,Deferred.ofValue,invoke,h1,callFunc_enters he]
end
end Mb
end
section
open Go
namespace Mb
section
variable {P:Program} {X:Cx} {ρ:Env} {h:Hp} {L:Bx}
def isAggD:TypeDesc->Bool
 | .struct _ | .array _ _=>true
 | _=>false
structure Sc (P:Program) (T:TypeId):Prop where
 und:∃ D,P.underlying T = some D/\isAggD D = false
 inf:∃ i,P.info? T = some i/\i.size = 1
structure Ag (P:Program) (T:TypeId) (n:Nat):Prop where
 und:∃ D,P.underlying T = some D/\isAggD D = true
 inf:∃ i,P.info? T = some i/\i.size = n
theorem add_plain (b off k:Nat):Addr.add ⟨b,off,none⟩ k = ⟨b,off + k,none⟩:=by
 unfold Addr.add;by_cases e:k = 0
 ·subst e; rfl
 ·rw [if_neg e]
theorem run_isAgg_sc {T:TypeId} (t:Sc P T) (w:World):(isAgg T).run P w = .ok false w:=by
 obtain ⟨D,h1,h2⟩:=t.und;simp only [isAgg,underlying,Sem.run_bind,run_program,Result.andThen_ok,h1];cases D <;> first | rfl | cases h2
theorem run_isAgg_ag {T:TypeId} {n:Nat} (t:Ag P T n) (w:World):(isAgg T).run P w = .ok true w:=by
 obtain ⟨D,h1,h2⟩:=t.und;simp only [isAgg,underlying,Sem.run_bind,run_program,Result.andThen_ok,h1];cases D <;> first | rfl | cases h2
theorem tA {T:TypeId} {n:Nat} (t:∃ i,P.info? T = some i/\i.size = n) (w:World):(sizeOf T).run P w = .ok n w:=by
 obtain ⟨i,h1,h2⟩:=t;simp [sizeOf,typeInfo,h1,h2]
def wcells (w:World) (b off:Nat) (l:List Value):Prop:=∀ i v,l[i]? = some v->w.cell? ⟨b,off + i,none⟩ = some v
theorem run_loadFrom (w:World) (b off:Nat):∀ (l:List Value) (i:Nat) (acc:Array Value),(∀ j v,l[j]? = some v->w.cell? ⟨b,off + (i + j),none⟩ = some v) ->
  (loadCellsFrom ⟨b,off,none⟩ i l.length acc).run P w = .ok (acc++l.toArray) w
 | [],i,acc,_=>by simp [loadCellsFrom]
 | v::l,i,acc,h=>by
  have h0:=h 0 v rfl;simp only [length_cons,loadCellsFrom,add_plain,Sem.run_bind,run_load];rw [show off + i = off + (i + 0) from rfl,h0];simp only [Result.andThen_ok];rw [run_loadFrom w b off l (i + 1) (acc.push v) (fun j u hj=>by rw [show i + 1 + j = i + (j + 1) from by omega]; exact h (j + 1) u (by simpa using hj))];simp
theorem ou {T:TypeId} {w:World} {b off:Nat} {l:List Value} (t:Ag P T l.length) (hc:wcells w b off l) :
  (loadVar T ⟨b,off,none⟩).run P w = .ok (.agg l.toArray) w:=by
 simp only [loadVar,Sem.run_bind,run_isAgg_ag t,Result.andThen_ok,if_true,tA t.inf,loadCells];rw [run_loadFrom w b off l 0 #[] (fun j v hj=>by rw [Nat.zero_add]; exact hc j v hj)];simp
theorem oq {T:TypeId} {w:World} {b off:Nat} {v:Value} (t:Sc P T) (hc:w.cell? ⟨b,off,none⟩ = some v) :
  (loadVar T ⟨b,off,none⟩).run P w = .ok v w:=by
 simp [loadVar,run_isAgg_sc t,hc]
def wr:List Value->Nat->List Value->List Value
 | c,_,[]=>c
 | c,i,v::l=>wr (c.set i v) (i + 1) l
theorem sQ:∀ (l c:List Value) (i:Nat),(wr c i l).length = c.length
 | [],_,_=>rfl
 | v::l,c,i=>by rw [wr,sQ l]; simp
def ce (l:List Value):Bool:=l.all fun v=>v.oneCell'
abbrev bx (b:Nat) (T:TypeId) (l:List Value):Nat × Obj:=(b,.cells l.toArray T (0,0))
theorem frozen_bx {w:World} {b:Nat} {T:TypeId} {l:List Value} (hw:w.heap[b]? = some (.cells l.toArray T (0,0))) (off:Nat):w.frozen? ⟨b,off,none⟩ = false:=by
 unfold World.frozen?;rw [hw]; simp
theorem yq {w:World} {b:Nat} {T:TypeId} {l:List Value} (hw:w.heap[b]? = some (.cells l.toArray T (0,0))) (off:Nat):w.cell? ⟨b,off,none⟩ = l[off]?:=by
 unfold World.cell?;rw [hw]; simp
theorem run_storeBox {k b:Nat} {T:TypeId}:∀ (vs:List Value) (i off:Nat) (c:List Value) (w:World) (L:Bx),Inv X w h L->L[k]? = some (bx b T c)->off + i + vs.length <= c.length->ce vs = true ->
  ∃ w',(storeCells ⟨b,off,none⟩ vs i).run P w = .ok () w'/\Inv X w' h (L.set k (bx b T (wr c (off + i) vs)))
 | [],i,off,c,w,L,inv,hk,_,_=>by
  refine ⟨w,rfl,?_⟩;have:L.set k (bx b T (wr c (off + i) [])) = L:=by
   apply ext_getElem?;intro j;rw [getElem?_set];by_cases e:k = j
   ·subst e;obtain ⟨h1,h2⟩:=List.getElem?_eq_some_iff.1 hk;simp [h1,h2,wr]
   ·simp [e]
  rw [this]; exact inv
 | v::vs,i,off,c,w,L,inv,hk,hlen,hone=>by
  simp only [length_cons] at hlen;simp only [ce,List.all_cons,Bool.and_eq_true] at hone;have hw:=inv.box _ (mem_of_getElem? hk);have kG:w.cell? ⟨b,off + i,none⟩ = some (c[off + i]'(by omega)):=by rw [yq hw]; simp
  have inv1:=inv.setBox hk ⟨b,off + i,none⟩ rfl v;have e1:oput (.cells c.toArray T (0,0)) ⟨b,off + i,none⟩ v = .cells (c.set (off + i) v).toArray T (0,0):=by simp [oput]
  rw [e1] at inv1;have hk1:(L.set k (bx b T (c.set (off + i) v)))[k]? = some (bx b T (c.set (off + i) v)):=by
   have:=(List.getElem?_eq_some_iff.1 hk).1;simp [this]
  obtain ⟨w',hr,inv'⟩:=run_storeBox vs (i + 1) off _ _ _ inv1 hk1 (by simp; omega) hone.2;refine ⟨w',?_,?_⟩
  ·simp only [storeCells,add_plain,Sem.run_bind];rw [run_store P w _ v _ hone.1,kG];simp only [frozen_bx hw];exact hr
  ·rw [List.set_set] at inv';exact inv'
def rI (h:Hp) (p:Nat × Nat) (l:List Value):Prop:=∃ c T fr,h p.1 = some (.cells c T fr)/\∀ i v,l[i]? = some v->c[p.2 + i]? = some v
theorem rI.w {w:World} (s:Sub h w) {p:Nat × Nat} {l:List Value} (hc:rI h p l):wcells w p.1 p.2 l:=by
 obtain ⟨c,T,fr,h1,h2⟩:=hc;intro i v hi;unfold World.cell?;rw [s _ _ h1];simpa using h2 i v hi
def ld {τ:Type} (p:Nat × Nat) (enc:τ->List Value) (K:τ->Hp->Prop) (h:Hp):Prop:=∃ x,rI h p (enc x)/\K x h
def nf (fr:Nat × Nat) (off n:Nat):Prop:=∀ j,off <= j->j < off + n->(decide (fr.1 <= j) && decide (j < fr.2)) = false
theorem nf0 (off n:Nat):nf (0,0) off n:=fun j _ _=>by simp
def st (p:Nat × Nat) (l:List Value) (K:Hp->Prop) (h:Hp):Prop :=
 ∃ c T fr,h p.1 = some (.cells c.toArray T fr)/\nf fr p.2 l.length/\p.2 + l.length <= c.length/\K (dh h p.1 (.cells (wr c p.2 l).toArray T fr))
def nw (T:TypeId) (l:List Value) (K:Nat->Hp->Prop) (h:Hp):Prop :=
 ∀ b,h b = none->K b (dh h b (.cells l.toArray T (0,0)))
theorem hset_hset (h:Hp) (b:Nat) (o o':Obj):dh (dh h b o) b o' = dh h b o':=by
 funext x; unfold dh; split <;> rfl
theorem hset_self {h:Hp} {b:Nat} {o:Obj} (e:h b = some o):dh h b o = h:=by
 funext x; unfold dh; split
 ·rename_i hx; rw [hx,e]
 ·rfl
theorem hp_bind {α β:Type} (m:Sem α) (f:α->Sem β) (K:β->Hp->Prop):∀ h,hp P (m.bind f) K h↔hp P m (fun a h=>hp P (f a) K h) h:=by
 induction m with
 | pure a=>intro h; exact Iff.rfl
 | load md a k ih=>intro h; simp only [Sem.bind,hp,ih]
 | store md a v k ih=>intro h; simp only [Sem.bind,hp,ih]
 | new o k ih=>intro h; simp only [Sem.bind,hp,ih]
 | shape r k ih=>intro h; simp only [Sem.bind,hp,ih]
 | freeze a n k ih=>intro h; exact Iff.rfl
 | frozen a k ih=>intro h; simp only [Sem.bind,hp,ih]
 | getObj r k ih=>intro h; simp only [Sem.bind,hp,ih]
 | setObj r o k ih=>intro h; simp only [Sem.bind,hp,ih]
 | choose q k ih=>intro h; simp only [Sem.bind,hp,ih]
 | sys c k ih=>intro h; exact Iff.rfl
 | program k ih=>intro h; simp only [Sem.bind,hp,ih]
 | mark m k ih=>intro h; simp only [Sem.bind,hp,ih]
 | halt x=>intro h; exact Iff.rfl
theorem bF {α β:Type} (m:Sem α) (f:α->Sem β) (K:β->Hp->Prop) (h:Hp):hp P (m >>= f) K h↔hp P m (fun a h=>hp P (f a) K h) h:=hp_bind m f K h
theorem yf {α:Type} (a:α) (K:α->Hp->Prop) (h:Hp):hp P (pure a:Sem α) K h↔K a h:=Iff.rfl
theorem tQ (K:Program->Hp->Prop) (h:Hp):hp P program K h↔K P h:=Iff.rfl
theorem iS {b:Nat} {T:TypeId} {fr:Nat × Nat} {K:Unit->Hp->Prop}:∀ (vs:List Value) (i off:Nat) (c:List Value) (h:Hp),h b = some (.cells c.toArray T fr)->nf fr (off + i) vs.length->off + i + vs.length <= c.length->ce vs = true ->
  K () (dh h b (.cells (wr c (off + i) vs).toArray T fr))->hp P (storeCells ⟨b,off,none⟩ vs i) K h
 | [],i,off,c,h,hb,_,_,_,hK=>by
  rw [wr,hset_self hb] at hK;exact hK
 | v::vs,i,off,c,h,hb,hnf,hlen,hone,hK=>by
  simp only [length_cons] at hlen;simp only [ce,List.all_cons,Bool.and_eq_true] at hone;unfold storeCells;rw [bF,add_plain];refine ⟨hone.1,_,c[off + i]'(by omega),hb,?_,hnf (off + i) (le_refl _) (by simp),?_⟩
  ·simp [kG,hb]
  ·have e1:oput (.cells c.toArray T fr) ⟨b,off + i,none⟩ v = .cells (c.set (off + i) v).toArray T fr:=by simp [oput]
   show hp P (storeCells ⟨b,off,none⟩ vs (i + 1)) K (dh h b (oput (.cells c.toArray T fr) ⟨b,off + i,none⟩ v));rw [e1];refine iS vs (i + 1) off _ _ (iR _ _ _) (fun j h1 h2=>hnf j (by omega) (by simp only [length_cons]; omega)) (by simp; omega) hone.2 ?_;rw [hset_hset];exact hK
theorem hp_storeCells {b:Nat} {T:TypeId} {K:Unit->Hp->Prop} (vs:List Value) (i off:Nat) (c:List Value) (h:Hp) (hb:h b = some (.cells c.toArray T (0,0))) (hl:off + i + vs.length <= c.length) (ho:ce vs = true)
  (hK:K () (dh h b (.cells (wr c (off + i) vs).toArray T (0,0)))):hp P (storeCells ⟨b,off,none⟩ vs i) K h:=iS vs i off c h hb (nf0 _ _) hl ho hK
theorem run_hp {α:Type} {m:Sem α} {K:α->Hp->Prop} {w:World} (i:Inv X w h L) (H:hp P m K h):∃ x w' h',m.run P w = .ok x w'/\K x h'/\Inv X w' h' L:=by
 obtain ⟨x,w',h',hr,hk,s,f⟩:=hp_run m H i.sub;exact ⟨x,w',h',hr,hk,i.step s f⟩
theorem opTo_hp {d:Option Nat} {op:Op} {ty:TypeId} {pos:String} {af:Array Edge} {g:Option (Nat × Bool)} {N:Env->Hp->Bx->Prop}
  (H:∀ a,Kn a X.n ρ->hp P (execOp a.eval ⟨d,op,ty,pos,af,g⟩) (fun nx h'=>∃ v,(nx = .value v\/nx = .skip/\v = undef)/\∀ a,Kn a X.n ρ->∃ ρ',Kn (a.put d v) X.n ρ'/\N ρ' h' L) h) :
  eG P X ⟨d,op,ty,pos,af,g⟩ ρ h L N:=by
 refine ⟨fun a w Q k i=>?_⟩;obtain ⟨x,w',h',hr,⟨v,hx,hN⟩,i'⟩:=run_hp i (H a k);obtain ⟨ρ',k',n'⟩:=hN a k;unfold Oper.wp;rw [hr];rcases hx with rfl | ⟨rfl,rfl⟩
 ·exact ⟨ρ',h',L,n',k',i'⟩
 ·exact ⟨ρ',h',L,n',k',i'⟩
end
end Mb
end
section
open Go
namespace Mb
section
variable {P:Program} {X:Cx} {ρ:Env} {h:Hp} {L:Bx} {dst:Option Tmp} {ty:TypeId} {pos:String} {af:Array Edge} {g:Option (Nat × Bool)}
theorem iQ {x:Operand} {c:Bool} {v:Value} (hx:ev ρ x = some (gv c v)) (hc:c = true):ev ρ x = some v:=by rw [hx,gv_t hc]
theorem kH {x:Operand} {u v:Value} (hx:ev ρ x = some u) (hv:u = v):ev ρ x = some v:=by rw [hx,hv]
theorem aV {x:Operand} {v:Value} (hx:ev ρ x = some v):bM P X ρ ⟨dst,.move x,ty,pos,af,g⟩ v:=by
 intro a w k;simp [execOp,k.ev hx]
theorem mB {x:Operand} {v:Value} (hx:ev ρ x = some v):bM P X ρ ⟨dst,.assign x,ty,pos,af,g⟩ v:=by
 intro a w k;simp [execOp,k.ev hx]
theorem v_nil {x:Operand} {p:Addr} (hx:ev ρ x = some (.pointer (some p))):bM P X ρ ⟨dst,.nilCheck x,ty,pos,af,g⟩ (.pointer (some p)):=by
 intro a w k;simp [execOp,k.ev hx]
theorem nQ {c x y:Operand} {t:Bool} {v:Value} (hc:ev ρ c = some (.bool t)) (ht:t = true) (hx:ev ρ x = some v):bM P X ρ ⟨dst,.pick c x y,ty,pos,af,g⟩ v:=by
 intro a w k;subst ht;simp [execOp,k.ev hc,k.ev hx,asBool]
theorem nR {c x y:Operand} {t:Bool} {v:Value} (hc:ev ρ c = some (.bool t)) (ht:t = false) (hy:ev ρ y = some v):bM P X ρ ⟨dst,.pick c x y,ty,pos,af,g⟩ v:=by
 intro a w k;subst ht;simp [execOp,k.ev hc,k.ev hy,asBool]
theorem v_and {c x:Operand} {t u:Bool} (hc:ev ρ c = some (.bool t)) (hx:ev ρ x = some (gv t (.bool u))):bM P X ρ ⟨dst,.pick c x (.const (.bool false)),ty,pos,af,g⟩ (.bool (t && u)):=by
 cases t with
 | true=>exact nQ hc rfl (hx.trans (by rfl))
 | false=>exact nR hc rfl rfl
theorem v_or {c x:Operand} {t u:Bool} (hc:ev ρ c = some (.bool t)) (hx:ev ρ x = some (gv (!t) (.bool u))):bM P X ρ ⟨dst,.pick c (.const (.bool true)) x,ty,pos,af,g⟩ (.bool (t || u)):=by
 cases t with
 | true=>exact nQ hc rfl rfl
 | false=>exact nR hc rfl (hx.trans (by rfl))
theorem v_not {x:Operand} {T:TypeId} {t:Bool} (hx:ev ρ x = some (.bool t)):bM P X ρ ⟨dst,.unOp .not T x,ty,pos,af,g⟩ (.bool (!t)):=by
 intro a w k;simp [execOp,k.ev hx,Op.unary]
section ints
variable {x y:Operand} {T U:TypeId} {kd:IntKind} {m n:Int}
theorem jo {a:Act} {w:World} (op:BinOp) (hx:a.eval x = .int kd m) (hy:a.eval y = .int kd n) {v:Value} (hv:(binOp op T (.int kd m) (.int kd n)).run P w = .ok v w) :
  (execOp a.eval ⟨dst,.binOp op T x y U,ty,pos,af,g⟩).run P w = .ok (.value v) w:=by
 have h1:(eqGuard op T x y (.int kd m) (.int kd n)).run P w = .ok () w:=by
  unfold eqGuard;simp
 simp [execOp,hx,hy,h1,hv]
theorem kI (hx:ev ρ x = some (.int kd m)) (hy:ev ρ y = some (.int kd n)):bM P X ρ ⟨dst,.binOp .add T x y U,ty,pos,af,g⟩ (.int kd (kd.wrap (m + n))) :=
 fun _ _ k=>jo .add (k.ev hx) (k.ev hy) (by simp [binOp,Op.intArith])
theorem rK (hx:ev ρ x = some (.int kd m)) (hy:ev ρ y = some (.int kd n)):bM P X ρ ⟨dst,.binOp .sub T x y U,ty,pos,af,g⟩ (.int kd (kd.wrap (m - n))) :=
 fun _ _ k=>jo .sub (k.ev hx) (k.ev hy) (by simp [binOp,Op.intArith])
theorem v_mul (hx:ev ρ x = some (.int kd m)) (hy:ev ρ y = some (.int kd n)):bM P X ρ ⟨dst,.binOp .mul T x y U,ty,pos,af,g⟩ (.int kd (kd.wrap (m * n))) :=
 fun _ _ k=>jo .mul (k.ev hx) (k.ev hy) (by simp [binOp,Op.intArith])
theorem v_quo (hx:ev ρ x = some (.int kd m)) (hy:ev ρ y = some (.int kd n)) (h0:n ≠ 0):bM P X ρ ⟨dst,.binOp .quo T x y U,ty,pos,af,g⟩ (.int kd (kd.wrap (m.tdiv n))) :=
 fun _ _ k=>jo .quo (k.ev hx) (k.ev hy) (by simp [binOp,Op.intDiv,h0])
theorem v_rem (hx:ev ρ x = some (.int kd m)) (hy:ev ρ y = some (.int kd n)) (h0:n ≠ 0):bM P X ρ ⟨dst,.binOp .rem T x y U,ty,pos,af,g⟩ (.int kd (m.tmod n)) :=
 fun _ _ k=>jo .rem (k.ev hx) (k.ev hy) (by simp [binOp,Op.intDiv,h0])
def iand (k:IntKind) (x y:Int):Int:=k.wrap (BitVec.ofInt k.bits x &&& BitVec.ofInt k.bits y).toNat
def ior (k:IntKind) (x y:Int):Int:=k.wrap (BitVec.ofInt k.bits x ||| BitVec.ofInt k.bits y).toNat
def ixor (k:IntKind) (x y:Int):Int:=k.wrap (BitVec.ofInt k.bits x ^^^ BitVec.ofInt k.bits y).toNat
def iandnot (k:IntKind) (x y:Int):Int:=k.wrap (BitVec.ofInt k.bits x &&& ~~~ BitVec.ofInt k.bits y).toNat
theorem v_iand (hx:ev ρ x = some (.int kd m)) (hy:ev ρ y = some (.int kd n)):bM P X ρ ⟨dst,.binOp .and T x y U,ty,pos,af,g⟩ (.int kd (iand kd m n)) :=
 fun _ _ k=>jo .and (k.ev hx) (k.ev hy) (by simp [binOp,Op.intBits,iand])
theorem v_ior (hx:ev ρ x = some (.int kd m)) (hy:ev ρ y = some (.int kd n)):bM P X ρ ⟨dst,.binOp .or T x y U,ty,pos,af,g⟩ (.int kd (ior kd m n)) :=
 fun _ _ k=>jo .or (k.ev hx) (k.ev hy) (by simp [binOp,Op.intBits,ior])
theorem v_ixor (hx:ev ρ x = some (.int kd m)) (hy:ev ρ y = some (.int kd n)):bM P X ρ ⟨dst,.binOp .xor T x y U,ty,pos,af,g⟩ (.int kd (ixor kd m n)) :=
 fun _ _ k=>jo .xor (k.ev hx) (k.ev hy) (by simp [binOp,Op.intBits,ixor])
theorem v_iandnot (hx:ev ρ x = some (.int kd m)) (hy:ev ρ y = some (.int kd n)):bM P X ρ ⟨dst,.binOp .andNot T x y U,ty,pos,af,g⟩ (.int kd (iandnot kd m n)) :=
 fun _ _ k=>jo .andNot (k.ev hx) (k.ev hy) (by simp [binOp,Op.intBits,iandnot])
theorem v_eq (hx:ev ρ x = some (.int kd m)) (hy:ev ρ y = some (.int kd n)):bM P X ρ ⟨dst,.binOp .eql T x y U,ty,pos,af,g⟩ (.bool (m == n)) :=
 fun _ _ k=>jo .eql (k.ev hx) (k.ev hy) (by simp [binOp,Op.intCmp])
theorem v_ne (hx:ev ρ x = some (.int kd m)) (hy:ev ρ y = some (.int kd n)):bM P X ρ ⟨dst,.binOp .neq T x y U,ty,pos,af,g⟩ (.bool (m != n)) :=
 fun _ _ k=>jo .neq (k.ev hx) (k.ev hy) (by simp [binOp,Op.intCmp])
theorem xc (hx:ev ρ x = some (.int kd m)) (hy:ev ρ y = some (.int kd n)):bM P X ρ ⟨dst,.binOp .lss T x y U,ty,pos,af,g⟩ (.bool (decide (m < n))) :=
 fun _ _ k=>jo .lss (k.ev hx) (k.ev hy) (by simp [binOp,Op.intCmp])
theorem v_le (hx:ev ρ x = some (.int kd m)) (hy:ev ρ y = some (.int kd n)):bM P X ρ ⟨dst,.binOp .leq T x y U,ty,pos,af,g⟩ (.bool (decide (m <= n))) :=
 fun _ _ k=>jo .leq (k.ev hx) (k.ev hy) (by simp [binOp,Op.intCmp])
theorem v_gt (hx:ev ρ x = some (.int kd m)) (hy:ev ρ y = some (.int kd n)):bM P X ρ ⟨dst,.binOp .gtr T x y U,ty,pos,af,g⟩ (.bool (decide (m > n))) :=
 fun _ _ k=>jo .gtr (k.ev hx) (k.ev hy) (by simp [binOp,Op.intCmp])
theorem v_ge (hx:ev ρ x = some (.int kd m)) (hy:ev ρ y = some (.int kd n)):bM P X ρ ⟨dst,.binOp .geq T x y U,ty,pos,af,g⟩ (.bool (decide (m >= n))) :=
 fun _ _ k=>jo .geq (k.ev hx) (k.ev hy) (by simp [binOp,Op.intCmp])
theorem v_shl {kd':IntKind} (hx:ev ρ x = some (.int kd m)) (hy:ev ρ y = some (.int kd' n)) (h0:0 <= n):bM P X ρ ⟨dst,.binOp .shl T x y U,ty,pos,af,g⟩ (.int kd (kd.wrap (m * 2 ^ (min n.toNat kd.bits)))):=by
 intro a w k;have h0':¬ n < 0:=by omega
 simp [execOp,eqGuard,k.ev hx,k.ev hy,binOp,Op.shift,h0']
theorem v_shr {kd':IntKind} (hx:ev ρ x = some (.int kd m)) (hy:ev ρ y = some (.int kd' n)) (h0:0 <= n):bM P X ρ ⟨dst,.binOp .shr T x y U,ty,pos,af,g⟩ (.int kd (m.fdiv (2 ^ (min n.toNat kd.bits)))):=by
 intro a w k;have h0':¬ n < 0:=by omega
 simp [execOp,eqGuard,k.ev hx,k.ev hy,binOp,Op.shift,h0']
theorem xd {src dt:TypeId} {kd':IntKind} (hs:∃ D,P.underlying src = some D) (hd:P.underlying dt = some (.int kd')) (hx:ev ρ x = some (.int kd m)) :
  bM P X ρ ⟨dst,.convert src dt x,ty,pos,af,g⟩ (.int kd' (kd'.wrap m)):=by
 intro a w k;obtain ⟨D,hD⟩:=hs;simp [execOp,k.ev hx,convert,underlying,hD,hd,Conv.intToInt]
theorem v_neg (hx:ev ρ x = some (.int kd m)):bM P X ρ ⟨dst,.unOp .neg T x,ty,pos,af,g⟩ (.int kd (kd.wrap (0 - m))):=by
 intro a w k;simp [execOp,k.ev hx,Op.unary,Op.intArith]
theorem v_min (hx:ev ρ x = some (.int kd m)) (hy:ev ρ y = some (.int kd n)) {ts:Array TypeId}:bM P X ρ ⟨dst,.call ⟨.builtin .min,#[x,y],ts⟩,ty,pos,af,g⟩ (.int kd (if n < m then n else m)):=by
 intro a w k;simp [execOp,k.ev hx,k.ev hy,resolve,invoke,builtin,Builtin.min_,Builtin.min2]
theorem v_max (hx:ev ρ x = some (.int kd m)) (hy:ev ρ y = some (.int kd n)) {ts:Array TypeId}:bM P X ρ ⟨dst,.call ⟨.builtin .max,#[x,y],ts⟩,ty,pos,af,g⟩ (.int kd (if n > m then n else m)):=by
 intro a w k;simp [execOp,k.ev hx,k.ev hy,resolve,invoke,builtin,Builtin.max_,Builtin.max2]
end ints
section ptrs
variable {x y:Operand} {T U:TypeId}
theorem run_equal {v u:Value} {b:Bool} {w:World} (H:(Op.equalIn (9999 + 1) T v u).run P w = .ok b w):(Op.equal T v u).run P w = .ok b w:=H
theorem eq_bool {s t:Bool} {w:World} (hT:P.underlying T = some .bool):(Op.equal T (.bool s) (.bool t)).run P w = .ok (s == t) w:=by
 refine run_equal ?_;unfold Op.equalIn;simp [underlying,hT]
theorem eq_pnil {p:Option Addr} {E:TypeId} {w:World} (hT:P.underlying T = some (.pointer E)):(Op.equal T (.pointer p) (.pointer none)).run P w = .ok p.isNone w:=by
 refine run_equal ?_;unfold Op.equalIn;cases p <;> simp [underlying,hT]
theorem eq_snil {p:Option Addr} {n c:Nat} {E:TypeId} {w:World} (hT:P.underlying T = some (.slice E)):(Op.equal T (.slice p n c) (.slice none 0 0)).run P w = .ok p.isNone w:=by
 refine run_equal ?_;unfold Op.equalIn;cases p <;> simp [underlying,hT]
theorem run_eq {a:Act} {w:World} {u v:Value} {b:Bool} (hx:a.eval x = u) (hy:a.eval y = v) (hg:(eqGuard .eql T x y u v).run P w = .ok () w)
  (hb:binOp .eql T u v = (do pure (.bool (← Op.equal T u v)))) (h1:(Op.equal T u v).run P w = .ok b w) :
  (execOp a.eval ⟨dst,.binOp .eql T x y U,ty,pos,af,g⟩).run P w = .ok (.value (.bool b)) w:=by
 simp [execOp,hx,hy,hg,hb,h1]
theorem run_ne {a:Act} {w:World} {u v:Value} {b:Bool} (hx:a.eval x = u) (hy:a.eval y = v) (hg:(eqGuard .neq T x y u v).run P w = .ok () w)
  (hb:binOp .neq T u v = (do pure (.bool (!(← Op.equal T u v))))) (h1:(Op.equal T u v).run P w = .ok b w) :
  (execOp a.eval ⟨dst,.binOp .neq T x y U,ty,pos,af,g⟩).run P w = .ok (.value (.bool (!b))) w:=by
 simp [execOp,hx,hy,hg,hb,h1]
theorem v_beq {s t:Bool} (hT:P.underlying T = some .bool) (hx:ev ρ x = some (.bool s)) (hy:ev ρ y = some (.bool t)):bM P X ρ ⟨dst,.binOp .eql T x y U,ty,pos,af,g⟩ (.bool (s == t)) :=
 fun _ _ k=>run_eq (k.ev hx) (k.ev hy) (by simp [eqGuard]) rfl (eq_bool hT)
theorem v_bne {s t:Bool} (hT:P.underlying T = some .bool) (hx:ev ρ x = some (.bool s)) (hy:ev ρ y = some (.bool t)):bM P X ρ ⟨dst,.binOp .neq T x y U,ty,pos,af,g⟩ (.bool (!(s == t))) :=
 fun _ _ k=>run_ne (k.ev hx) (k.ev hy) (by simp [eqGuard]) rfl (eq_bool hT)
theorem v_peq {p:Option Addr} {E:TypeId} (hT:P.underlying T = some (.pointer E)) (hx:ev ρ x = some (.pointer p)):bM P X ρ ⟨dst,.binOp .eql T x (.const (.pointer none)) U,ty,pos,af,g⟩ (.bool p.isNone) :=
 fun _ _ k=>run_eq (k.ev hx) rfl (by simp [eqGuard]) (by cases p <;> rfl) (eq_pnil hT)
theorem v_pne {p:Option Addr} {E:TypeId} (hT:P.underlying T = some (.pointer E)) (hx:ev ρ x = some (.pointer p)):bM P X ρ ⟨dst,.binOp .neq T x (.const (.pointer none)) U,ty,pos,af,g⟩ (.bool (!p.isNone)) :=
 fun _ _ k=>run_ne (k.ev hx) rfl (by simp [eqGuard]) (by cases p <;> rfl) (eq_pnil hT)
theorem v_seq {p:Option Addr} {n c:Nat} {E:TypeId} (hT:P.underlying T = some (.slice E)) (hx:ev ρ x = some (.slice p n c)):bM P X ρ ⟨dst,.binOp .eql T x (.const (.slice none 0 0)) U,ty,pos,af,g⟩ (.bool p.isNone) :=
 fun _ _ k=>run_eq (k.ev hx) rfl (by simp [eqGuard]) rfl (eq_snil hT)
theorem v_sne {p:Option Addr} {n c:Nat} {E:TypeId} (hT:P.underlying T = some (.slice E)) (hx:ev ρ x = some (.slice p n c)):bM P X ρ ⟨dst,.binOp .neq T x (.const (.slice none 0 0)) U,ty,pos,af,g⟩ (.bool (!p.isNone)) :=
 fun _ _ k=>run_ne (k.ev hx) rfl (by simp [eqGuard]) rfl (eq_snil hT)
end ptrs
theorem sR {x:Operand} {i:Nat} {vs:Array Value} {v:Value} (hx:ev ρ x = some (.tuple vs)) (hi:vs[i]? = some v):bM P X ρ ⟨dst,.extract x i,ty,pos,af,g⟩ v:=by
 intro a w k;simp [execOp,k.ev hx,Instr.extract,hi]
def Fld (P:Program) (S i off:Nat):Prop:=∃ fs f,P.underlying S = some (.struct fs)/\fs[i]? = some f/\f.offset = off/\∃ j,P.info? f.type = some j/\j.size ≠ 0
theorem gG {x:Operand} {S i off b o:Nat} (hF:Fld P S i off) (hx:ev ρ x = some (.pointer (some ⟨b,o,none⟩))) :
  bM P X ρ ⟨dst,.fieldAddr S x i,ty,pos,af,g⟩ (.pointer (some ⟨b,o + off,none⟩)):=by
 intro a w k;obtain ⟨fs,f,h1,h2,h3,j,h4,h5⟩:=hF;simp [execOp,k.ev hx,Instr.fieldAt,underlying,h1,h2,Instr.sureAddr,fieldPlace,sizeOf,typeInfo,h4,h5,add_plain,h3]
def Arr (P:Program) (T n E m:Nat):Prop:=P.underlying T = some (.array n E)/\∃ j,P.info? E = some j/\j.size = m
theorem v_ixArr {x y:Operand} {T n E m b o:Nat} {kd:IntKind} {i:Int} (hT:Arr P T n E m) (hx:ev ρ x = some (.pointer (some ⟨b,o,none⟩))) (hy:ev ρ y = some (.int kd i)) (hb:0 <= i/\i < n) :
  bM P X ρ ⟨dst,.indexAddr T x y,ty,pos,af,g⟩ (.pointer (some ⟨b,o + i.toNat * m,none⟩)):=by
 intro a w k;obtain ⟨h1,j,h2,h3⟩:=hT;obtain ⟨hb1,hb2⟩:=hb;simp [execOp,k.ev hx,k.ev hy,Instr.indexAt,underlying,h1,Instr.sureAddr,sizeOf,typeInfo,h2,asIntOf,add_plain,h3,hb1,hb2]
def Slc (P:Program) (T E m:Nat):Prop:=P.underlying T = some (.slice E)/\∃ j,P.info? E = some j/\j.size = m
theorem fd {x y:Operand} {T E m b o n c:Nat} {kd:IntKind} {i:Int} (hT:Slc P T E m) (hx:ev ρ x = some (.slice (some ⟨b,o,none⟩) n c)) (hy:ev ρ y = some (.int kd i)) (hb:0 <= i/\i < n) :
  bM P X ρ ⟨dst,.indexAddr T x y,ty,pos,af,g⟩ (.pointer (some ⟨b,o + i.toNat * m,none⟩)):=by
 intro a w k;obtain ⟨h1,j,h2,h3⟩:=hT;obtain ⟨hb1,hb2⟩:=hb;simp [execOp,k.ev hx,k.ev hy,Instr.indexAt,underlying,h1,sizeOf,typeInfo,h2,asIntOf,add_plain,h3,hb1,hb2]
theorem v_len {x:Operand} {T E:Nat} {p:Option Addr} {n c:Nat} {ts:Array TypeId} (hts:ts[0]? = some T) (hT:P.underlying T = some (.slice E)) (hx:ev ρ x = some (.slice p n c)) :
  bM P X ρ ⟨dst,.call ⟨.builtin .len,#[x],ts⟩,ty,pos,af,g⟩ (.int .i64 n):=by
 intro a w k;simp [execOp,k.ev hx,resolve,invoke,builtin,Builtin.len_,hts,underlying,hT,goInt]
theorem v_cap {x:Operand} {T E:Nat} {p:Option Addr} {n c:Nat} {ts:Array TypeId} (hts:ts[0]? = some T) (hT:P.underlying T = some (.slice E)) (hx:ev ρ x = some (.slice p n c)) :
  bM P X ρ ⟨dst,.call ⟨.builtin .cap,#[x],ts⟩,ty,pos,af,g⟩ (.int .i64 c):=by
 intro a w k;simp [execOp,k.ev hx,resolve,invoke,builtin,Builtin.cap_,hts,underlying,hT,goInt]
theorem v_lenS {x:Operand} {T:Nat} {s:ByteArray} {ts:Array TypeId} (hts:ts[0]? = some T) (hT:P.underlying T = some .string) (hx:ev ρ x = some (.string s)) :
  bM P X ρ ⟨dst,.call ⟨.builtin .len,#[x],ts⟩,ty,pos,af,g⟩ (.int .i64 s.size):=by
 intro a w k;simp [execOp,k.ev hx,resolve,invoke,builtin,Builtin.len_,hts,underlying,hT,goInt]
theorem ext_wcells {w w':World} (e:Ext w w') {b off:Nat} {v:Value} (h:w.cell? ⟨b,off,none⟩ = some v):w'.cell? ⟨b,off,none⟩ = some v:=by
 unfold World.cell? at *
 split at h
 ·rename_i c t fr ho;rw [e _ _ ho]; exact h
 ·cases h
theorem v_ldB {x:Operand} {T T' k b off:Nat} {l:List Value} {v:Value} (hT:Sc P T) (hx:ev ρ x = some (.pointer (some ⟨b,off,none⟩))) (hk:L[k]? = some (bx b T' l)) (hv:l[off]? = some v) :
  gR P X ρ h L ⟨dst,.load T x,ty,pos,af,g⟩ v:=by
 intro a w kn i w' e;have hw:=e _ _ (i.box _ (mem_of_getElem? hk));have:=oq (P:=P) (w:=w') hT ((yq hw off).trans hv);simp [execOp,kn.ev hx,Instr.loadAt,Instr.sureAddr,this]
theorem v_ldBs {x:Operand} {T T' k b off n:Nat} {l m:List Value} (hT:Ag P T n) (hx:ev ρ x = some (.pointer (some ⟨b,off,none⟩))) (hk:L[k]? = some (bx b T' l)) (hm:(l.drop off).take n = m) (hn:m.length = n) :
  gR P X ρ h L ⟨dst,.load T x,ty,pos,af,g⟩ (.agg m.toArray):=by
 intro a w kn i w' e;have hw:=e _ _ (i.box _ (mem_of_getElem? hk));subst hn;have:=ou (P:=P) (w:=w') (b:=b) (off:=off) hT (by
  intro j v hj;rw [yq hw];rw [← hm] at hj;rw [List.getElem?_take] at hj;split at hj
  ·simpa [List.getElem?_drop] using hj
  ·cases hj)
 simp [execOp,kn.ev hx,Instr.loadAt,Instr.sureAddr,this]
theorem v_ldH {x:Operand} {T b off:Nat} {v:Value} (hT:Sc P T) (hx:ev ρ x = some (.pointer (some ⟨b,off,none⟩))) (hc:rI h (b,off) [v]) :
  gR P X ρ h L ⟨dst,.load T x,ty,pos,af,g⟩ v:=by
 intro a w kn i w' e;have:=oq (P:=P) (w:=w') (b:=b) (off:=off) (v:=v) hT (ext_wcells e (hc.w i.sub 0 v rfl));simp [execOp,kn.ev hx,Instr.loadAt,Instr.sureAddr,this]
theorem v_ldHs {x:Operand} {T b off:Nat} {m:List Value} (hT:Ag P T m.length) (hx:ev ρ x = some (.pointer (some ⟨b,off,none⟩))) (hc:rI h (b,off) m) :
  gR P X ρ h L ⟨dst,.load T x,ty,pos,af,g⟩ (.agg m.toArray):=by
 intro a w kn i w' e;have:=ou (P:=P) (w:=w') (b:=b) (off:=off) hT (fun j v hj=>ext_wcells e (hc.w i.sub j v hj));simp [execOp,kn.ev hx,Instr.loadAt,Instr.sureAddr,this]
theorem run_storeVar {T n:Nat} {w w':World} {a:Addr} {v:Value} (hT:∃ i,P.info? T = some i/\i.size = n) (hn:v.cells.size = n) (hr:(storeCells a v.cells.toList).run P w = .ok () w') :
  (storeVar T a v).run P w = .ok () w':=by
 simp [storeVar,tA hT,hn,hr]
theorem to_stB {x y:Operand} {T T' k b off n:Nat} {l vs l':List Value} {v:Value} {N:Env->Hp->Bx->Prop} (hT:∃ i,P.info? T = some i/\i.size = n) (hx:ev ρ x = some (.pointer (some ⟨b,off,none⟩))) (hy:ev ρ y = some v)
  (hvs:v.cells.toList = vs) (hn:vs.length = n) (ho:ce vs = true) (hk:L[k]? = some (bx b T' l)) (hlen:Nat.ble (off + n) l.length = true) (hl:wr l off vs = l')
  (next:N ρ h (L.set k (bx b T' l'))):eG P X ⟨none,.store T x y,ty,pos,af,g⟩ ρ h L N:=by
 refine ⟨fun a w Q kn i=>?_⟩;subst hl;obtain ⟨w',hr,i'⟩:=run_storeBox (P:=P) vs 0 off l w L i hk (by have:off + n <= l.length:=(by simpa [ble_eq] using hlen); omega) ho;have hr':=run_storeVar (P:=P) (T:=T) (n:=n) (w:=w) (w':=w') (a:=⟨b,off,none⟩) (v:=v) hT (by rw [← Array.length_toList,hvs,hn]) (by rw [hvs]; exact hr);unfold Oper.wp;have:(execOp a.eval ⟨none,.store T x y,ty,pos,af,g⟩).run P w = .ok .skip w':=by
  simp [execOp,kn.ev hx,kn.ev hy,Instr.storeAt,Instr.sureAddr,hr']
 rw [this];exact ⟨_,_,_,next,kn.none _,i'⟩
theorem to_st {x y:Operand} {T b off n:Nat} {vs:List Value} {v:Value} {S:Hp->Prop} {N:Env->Hp->Bx->Prop} (hT:∃ i,P.info? T = some i/\i.size = n) (hx:ev ρ x = some (.pointer (some ⟨b,off,none⟩))) (hy:ev ρ y = some v)
  (hvs:v.cells.toList = vs) (hn:vs.length = n) (ho:ce vs = true) (H:st (b,off) vs S h)
  (next:∀ h',S h'->N ρ h' L):eG P X ⟨none,.store T x y,ty,pos,af,g⟩ ρ h L N:=by
 obtain ⟨c,T',fr,hb,hnf,hlen,hS⟩:=H;refine opTo_hp (fun a kn=>?_);obtain ⟨inf,hi1,hi2⟩:=hT;have hsz:v.cells.size = n:=by rw [← Array.length_toList,hvs,hn]
 have e:execOp a.eval ⟨none,.store T x y,ty,pos,af,g⟩ = (do Instr.storeAt T (.pointer (some ⟨b,off,none⟩)) v; pure Next.skip):=by
  simp [execOp,kn.ev hx,kn.ev hy]
 rw [e,bF];have e2:Instr.storeAt T (.pointer (some ⟨b,off,none⟩)) v = storeVar T ⟨b,off,none⟩ v:=rfl;rw [e2];unfold storeVar;rw [bF];unfold sizeOf typeInfo;rw [bF,bF,tQ];simp only [hi1,yf];rw [hi2,if_neg (by simp [hsz])];rw [hvs];refine iS vs 0 off c h hb hnf (by simpa using hlen) ho ?_;exact ⟨undef,.inr ⟨trivial,rfl⟩,fun a kn=>⟨ρ,kn.none _,next _ hS⟩⟩
theorem to_boxB {x:Operand} {T d:Nat} {v:Value} {l:List Value} {N:Env->Hp->Bx->Prop} (hx:ev ρ x = some v) (hl:v.cells = l.toArray) (hd:Nat.blt d X.n = true)
  (next:∀ b,N ((d,.pointer (some ⟨b,0,none⟩))::ρ) h (bx b T l::L)):eG P X ⟨some d,.box T x,ty,pos,af,g⟩ ρ h L N:=by
 refine ⟨fun a w Q kn i=>?_⟩;unfold Oper.wp;have:(execOp a.eval ⟨some d,.box T x,ty,pos,af,g⟩).run P w = .ok (.value (.pointer (some ⟨w.heap.size,0,none⟩))) (w.alloc (.cells l.toArray T (0,0))):=by
  simp [execOp,kn.ev hx,Instr.box,newVar,newRow,hl]
 rw [this];exact ⟨_,_,_,next _,kn.put hd _,i.alloc rfl⟩
theorem to_allocB {T d:Nat} {v:Value} {l:List Value} {N:Env->Hp->Bx->Prop} (hz:∃ i,P.info? T = some i/\i.zero = some v) (hl:v.cells = l.toArray) (hd:Nat.blt d X.n = true)
  (next:∀ b,N ((d,.pointer (some ⟨b,0,none⟩))::ρ) h (bx b T l::L)):eG P X ⟨some d,.alloc T,ty,pos,af,g⟩ ρ h L N:=by
 refine ⟨fun a w Q kn i=>?_⟩;unfold Oper.wp;obtain ⟨inf,h1,h2⟩:=hz;have:(execOp a.eval ⟨some d,.alloc T,ty,pos,af,g⟩).run P w = .ok (.value (.pointer (some ⟨w.heap.size,0,none⟩))) (w.alloc (.cells l.toArray T (0,0))):=by
  simp [execOp,Instr.alloc,zeroValue,typeInfo,h1,h2,newVar,newRow,hl]
 rw [this];exact ⟨_,_,_,next _,kn.put hd _,i.alloc rfl⟩
theorem to_box {x:Operand} {T d:Nat} {v:Value} {l:List Value} {S:Nat->Hp->Prop} {N:Env->Hp->Bx->Prop} (hx:ev ρ x = some v) (hl:v.cells = l.toArray) (hd:Nat.blt d X.n = true)
  (H:nw T l S h) (next:∀ b h',S b h'->N ((d,.pointer (some ⟨b,0,none⟩))::ρ) h' L):eG P X ⟨some d,.box T x,ty,pos,af,g⟩ ρ h L N:=by
 refine opTo_hp (fun a kn=>?_);have e:execOp a.eval ⟨some d,.box T x,ty,pos,af,g⟩ = (do pure (Next.value (← Instr.box T v))):=by simp [execOp,kn.ev hx]
 rw [e,bF];unfold Instr.box newVar newRow;rw [bF,bF,hl];refine ⟨rfl,fun b hb=>?_⟩;exact ⟨_,.inl rfl,fun a kn=>⟨_,kn.put hd _,next b _ (H b hb)⟩⟩
theorem to_alloc {T d:Nat} {v:Value} {l:List Value} {S:Nat->Hp->Prop} {N:Env->Hp->Bx->Prop} (hz:∃ i,P.info? T = some i/\i.zero = some v) (hl:v.cells = l.toArray) (hd:Nat.blt d X.n = true)
  (H:nw T l S h) (next:∀ b h',S b h'->N ((d,.pointer (some ⟨b,0,none⟩))::ρ) h' L):eG P X ⟨some d,.alloc T,ty,pos,af,g⟩ ρ h L N:=by
 refine opTo_hp (fun a kn=>?_);obtain ⟨inf,h1,h2⟩:=hz;have e:execOp a.eval ⟨some d,.alloc T,ty,pos,af,g⟩ = (do pure (Next.value (← Instr.alloc T true (.tuple #[])))):=by simp [execOp]
 rw [e,bF];unfold Instr.alloc zeroValue typeInfo;rw [bF,bF,bF,tQ];simp only [h1,yf,h2];rw [bF];unfold newVar newRow;rw [bF,hl];refine ⟨rfl,fun b hb=>?_⟩;exact ⟨_,.inl rfl,fun a kn=>⟨_,kn.put hd _,next b _ (H b hb)⟩⟩
end
end Mb
end
section
open Go
namespace Mb
section
variable {P:Program} {X:Cx} {ρ:Env} {h:Hp} {L:Bx} {fn:Func}
theorem res_0 (hr:fn.results = #[]):Res P X fn ρ h L (.tuple #[]):=fun _ _ _ _=>results_none hr _ _ _
def rvS (tmps:Array Value):ResultVar->Sem Value
 | .tmp t=>pure (tmps.getD t undef)
 | .cell a t=>do loadVar t (← asAddr (tmps.getD a undef))
def RV (P:Program) (X:Cx) (ρ:Env) (h:Hp) (L:Bx) (r:ResultVar) (v:Value):Prop :=
 ∀ a w,Kn a X.n ρ->Inv X w h L->(rvS a.tmps r).run P w = .ok v w
theorem rv_t {t:Nat} {v:Value} (hv:get ρ t = some v):RV P X ρ h L (.tmp t) v:=fun _ w k _=>by
 show (Result.ok _ w:Result Value) = _;rw [k.val t v hv]
theorem rv_c {c T T' k b:Nat} {l:List Value} {v:Value} (hx:get ρ c = some (.pointer (some ⟨b,0,none⟩))) (hT:Sc P T) (hk:L[k]? = some (bx b T' l)) (hv:l[0]? = some v):RV P X ρ h L (.cell c T) v:=fun a w kn i=>by
 have hw:=i.box _ (mem_of_getElem? hk);have:=oq (P:=P) (w:=w) hT ((yq hw 0).trans hv);simp [rvS,kn.val c _ hx,asAddr,this]
theorem rv_cs {c T T' k b:Nat} {l:List Value} (hx:get ρ c = some (.pointer (some ⟨b,0,none⟩))) (hT:Ag P T l.length) (hk:L[k]? = some (bx b T' l)):RV P X ρ h L (.cell c T) (.agg l.toArray):=fun a w kn i=>by
 have hw:=i.box _ (mem_of_getElem? hk);have:=ou (P:=P) (w:=w) (b:=b) (off:=0) hT (by intro j v hj; rw [yq hw]; simpa using hj);simp [rvS,kn.val c _ hx,asAddr,this]
theorem results_eq (fn:Func) (tmps:Array Value):results fn tmps = (do let vs ← fn.results.mapM (rvS tmps); pure (if h:vs.size = 1 then vs[0] else .tuple vs)):=rfl
theorem res_1 {r:ResultVar} {v:Value} (hr:fn.results = #[r]) (h1:RV P X ρ h L r v):Res P X fn ρ h L v:=fun a w k i=>by
 have e:=h1 a w k i;rw [results_eq,hr];simp [e]
theorem res_2 {r s:ResultVar} {v u:Value} (hr:fn.results = #[r,s]) (h1:RV P X ρ h L r v) (h2:RV P X ρ h L s u):Res P X fn ρ h L (.tuple #[v,u]):=fun a w k i=>by
 have e1:=h1 a w k i;have e2:=h2 a w k i;rw [results_eq,hr];simp [e1,e2]
theorem ret_i {Q:Value->Hp->Prop} {v:Value} (hr:Res P X fn ρ h L v) (q:Q v h):retK P X fn Q .ret ρ h L:=⟨v,h,q,fun _ _ e=>e,hr⟩
theorem end_i {Q:Value->Hp->Prop} {v:Value} (hr:Res P X fn ρ h L v) (q:Q v h):retK P X fn Q .normal ρ h L:=⟨v,h,q,fun _ _ e=>e,hr⟩
end
theorem wr_app:∀ (vs c:List Value) (i:Nat),i + vs.length <= c.length->wr c i vs = c.take i++vs++c.drop (i + vs.length)
 | [],c,i,_=>by simp [wr]
 | v::vs,c,i,h=>by
  simp only [length_cons] at h;rw [wr,wr_app vs (c.set i v) (i + 1) (by simp; omega)];have e1:(c.set i v).take (i + 1) = c.take i++[v]:=by
   apply ext_getElem?;intro j;rw [List.getElem?_take,getElem?_set,List.getElem?_append,List.getElem?_take];simp only [List.length_take];by_cases h1:j < i
   ·rw [if_pos (by omega),if_neg (by omega),if_pos (by omega),if_pos h1]
   ·by_cases h2:j = i
    ·subst h2;rw [if_pos (by omega),if_pos rfl,if_pos (by omega),if_neg (by omega)];rw [show j - min j c.length = 0 from by omega]; rfl
    ·rw [if_neg (by omega),if_neg (by omega)]
     symm
     apply List.getElem?_eq_none;simp; omega
  have e2:(c.set i v).drop (i + 1 + vs.length) = c.drop (i + (vs.length + 1)):=by
   rw [show i + (vs.length + 1) = i + 1 + vs.length from by omega];apply ext_getElem?;intro j;rw [List.getElem?_drop,List.getElem?_drop,getElem?_set,if_neg (by omega)]
  rw [e1,e2];simp
theorem wr_all {vs c:List Value} (h:vs.length = c.length):wr c 0 vs = vs:=by
 rw [wr_app vs c 0 (by omega)];simp [h]
theorem to_stW {P:Program} {X:Cx} {ρ:Env} {h:Hp} {L:Bx} {ty:TypeId} {pos:String} {af:Array Edge} {g:Option (Nat × Bool)} {x y:Operand} {T T' k b n:Nat} {l vs:List Value} {v:Value} {N:Env->Hp->Bx->Prop} (hT:∃ i,P.info? T = some i/\i.size = n) (hx:ev ρ x = some (.pointer (some ⟨b,0,none⟩))) (hy:ev ρ y = some v)
  (hvs:v.cells.toList = vs) (hn:vs.length = n) (ho:ce vs = true) (hk:L[k]? = some (bx b T' l)) (hlen:l.length = n)
  (next:N ρ h (L.set k (bx b T' vs))):eG P X ⟨none,.store T x y,ty,pos,af,g⟩ ρ h L N :=
 to_stB hT hx hy hvs hn ho hk (by rw [hlen,Nat.zero_add]; simp [ble_eq]) (wr_all (by rw [hn,hlen])) next
abbrev Ptr:=Option (Nat × Nat)
structure Sl where
 a:Ptr
 len:Nat
 cap:Nat
 g:Option (List Value × List Value × TypeId × (Nat × Nat))
def pa (p:Ptr):Option Addr:=match p with | some q=>some ⟨q.1,q.2,none⟩ | none=>none
def pv (p:Ptr):Value:=.pointer (pa p)
def sv (s:Sl):Value:=.slice (pa s.a) s.len s.cap
theorem pv_some {p:Ptr} {q:Nat × Nat} (h:p = some q):pv p = .pointer (some ⟨q.1,q.2,none⟩):=by subst h; rfl
theorem cN {s:Sl} {q:Nat × Nat} (h:s.a = some q):sv s = .slice (some ⟨q.1,q.2,none⟩) s.len s.cap:=by unfold sv; rw [h]; rfl
theorem pa_none (p:Ptr):(pa p).isNone = p.isNone:=by cases p <;> rfl
def cI (k:IntKind) (x:Int):List Value:=[.int k x]
def cB (x:Bool):List Value:=[.bool x]
def cP (x:Ptr):List Value:=[pv x]
def cS (x:Sl):List Value:=[sv x]
def cT (x:ByteArray):List Value:=[.string x]
def cV (x:Value):List Value:=[x]
def br (c:Bool) (A B:Hp->Prop) (h:Hp):Prop:=(c = true->A h)/\(c = false->B h)
def gd (p:Prop) (A:Hp->Prop) (h:Hp):Prop:=p/\A h
def nn (p:Ptr) (K:Nat × Nat->Hp->Prop) (h:Hp):Prop:=∃ q,p = some q/\K q h
def ix (s:Sl) (i:Int) (K:Nat × Nat->Hp->Prop) (h:Hp):Prop:=∃ q,s.a = some q/\(0 <= i/\i < s.len)/\K q h
def cl {τ:Type} (P:Program) (f:FuncId) (args:List Value) (enc:τ->Value) (K:τ->Hp->Prop) (h:Hp):Prop :=
 Ct P f args.toArray h fun v h'=>∃ r,v = enc r/\K r h'
def clv {τ:Type} (P:Program) (c:Value) (args:List Value) (enc:τ->Value) (K:τ->Hp->Prop) (h:Hp):Prop :=
 CtV P c args h fun v h'=>∃ r,v = enc r/\K r h'
section
variable {P:Program} {X:Cx} {ops:Array Oper} {l:List Oper} {ρ:Env} {h:Hp} {L:Bx} {K:fH}
theorem evl_br {c:Bool} {A B:Hp->Prop} (H:br c A B h) (ht:c = true->A h->EvL P X ops l ρ h L K) (hf:c = false->B h->EvL P X ops l ρ h L K):EvL P X ops l ρ h L K:=by
 cases c
 ·exact hf rfl (H.2 rfl)
 ·exact ht rfl (H.1 rfl)
theorem mb {x y:Code} {o:Operand} {c:Bool} {A B:Hp->Prop} (hc:ev ρ o = some (.bool c)) (H:br c A B h) (ht:c = true->A h->Ev P X x ρ h L K) (hf:c = false->B h->Ev P X y ρ h L K):Ev P X (.cond o x y) ρ h L K :=
 ev_cond hc (fun e=>ht e (H.1 e)) (fun e=>hf e (H.2 e))
theorem ev_yes {x y:Code} {o:Operand} {c:Bool} (hc:ev ρ o = some (.bool c)) (e:c = true) (ht:Ev P X x ρ h L K):Ev P X (.cond o x y) ρ h L K :=
 ev_cond hc (fun _=>ht) (fun e'=>absurd (e.symm.trans e') (by decide))
theorem ev_no {x y:Code} {o:Operand} {c:Bool} (hc:ev ρ o = some (.bool c)) (e:c = false) (hf:Ev P X y ρ h L K):Ev P X (.cond o x y) ρ h L K :=
 ev_cond hc (fun e'=>absurd (e.symm.trans e') (by decide)) (fun _=>hf)
theorem evl_ix {s:Sl} {i:Int} {S:Nat × Nat->Hp->Prop} (H:ix s i S h) (next:∀ q,s.a = some q->(0 <= i/\i < s.len)->S q h->EvL P X ops l ρ h L K):EvL P X ops l ρ h L K:=by
 obtain ⟨q,hq,hb,hS⟩:=H;exact next q hq hb hS
theorem jA {d:Option Nat} {op:Op} {ty:TypeId} {pos:String} {af:Array Edge} (H:eG P X ⟨d,op,ty,pos,af,none⟩ ρ h L (fun ρ' h' L'=>EvL P X ops l ρ' h' L' K)) :
  EvL P X ops (⟨d,op,ty,pos,af,none⟩::l) ρ h L K:=evl_op (fun a _=>qD rfl a ops) H
def cutK {σ:Type} (J:σ->Hp->Prop) (emb:σ->Env) (embL:σ->Bx) (K:fH):fH
 | .normal,ρ,h,L=>∃ s g,J s g/\(∀ b o,g b = some o->h b = some o)/\Le (emb s) ρ/\(embL s).Sublist L
 | e,ρ,h,L=>K e ρ h L
theorem ev_cut {σ:Type} (J:σ->Hp->Prop) (emb:σ->Env) (embL:σ->Bx) {x y:Code} (body:Ev P X x ρ h L (cutK J emb embL K))
  (rest:∀ s h,J s h->Ev P X y (emb s) h (embL s) K):Ev P X (.seq x y) ρ h L K:=by
 refine dy (ev_mono body ?_);intro e ρ' h' L' hh;cases e with
 | normal =>
  obtain ⟨s,g,hJ,hs,hl,hb⟩:=hh;intro a w k i;exact rest s g hJ a w (k.le hl) ((i.drop hb).forget hs)
 | _=>exact hh
theorem cut_i {σ:Type} {J:σ->Hp->Prop} {emb:σ->Env} {embL:σ->Bx} (s:σ) (H:J s h) (hl:Le (emb s) ρ) (hb:(embL s).Sublist L):∃ s g,J s g/\(∀ b o,g b = some o->h b = some o)/\Le (emb s) ρ/\(embL s).Sublist L:=⟨s,h,H,fun _ _ e=>e,hl,hb⟩
theorem lp_i {σ:Type} {Rec:σ->Hp->Prop} {emb:σ->Env} {embL:σ->Bx} (s:σ) (H:Rec s h) (hl:Le (emb s) ρ) (hb:(embL s).Sublist L):∃ s g,Rec s g/\(∀ b o,g b = some o->h b = some o)/\Le (emb s) ρ/\(embL s).Sublist L:=⟨s,h,H,fun _ _ e=>e,hl,hb⟩
variable {d:Nat} {ty:TypeId} {pos:String} {af:Array Edge} {g:Option (Nat × Bool)} {N:Env->Hp->Bx->Prop}
theorem to_ld {τ:Type} {p:Nat × Nat} {enc:τ->List Value} {val:τ->Value} {S:τ->Hp->Prop} {x:Operand} {T:TypeId} (H:ld p enc S h) (hT:Sc P T) (hx:ev ρ x = some (.pointer (some ⟨p.1,p.2,none⟩)))
  (he:∀ y,enc y = [val y]) (hd:Nat.blt d X.n = true) (next:∀ y,S y h->N ((d,val y)::ρ) h L):eG P X ⟨some d,.load T x,ty,pos,af,g⟩ ρ h L N:=by
 obtain ⟨y,hc,hS⟩:=H;rw [he] at hc;exact wI (cv (v_ldH hT hx hc)) hd (next y hS)
theorem to_lds {τ:Type} {p:Nat × Nat} {enc:τ->List Value} {S:τ->Hp->Prop} {x:Operand} {T n:TypeId} (H:ld p enc S h) (hT:Ag P T n) (hx:ev ρ x = some (.pointer (some ⟨p.1,p.2,none⟩)))
  (he:∀ y,(enc y).length = n) (hd:Nat.blt d X.n = true) (next:∀ y,S y h->N ((d,.agg (enc y).toArray)::ρ) h L):eG P X ⟨some d,.load T x,ty,pos,af,g⟩ ρ h L N:=by
 obtain ⟨y,hc,hS⟩:=H;have hT':Ag P T (enc y).length:=by rw [he]; exact hT
 exact wI (cv (v_ldHs hT' hx hc)) hd (next y hS)
theorem to_cl {τ:Type} {f:FuncId} {xs:List Operand} {ts:Array TypeId} {vs:List Value} {enc:τ->Value} {S:τ->Hp->Prop} (H:cl P f vs enc S h) (he:iw P f) (hx:evs ρ xs = some vs) (hd:Nat.blt d X.n = true)
  (next:∀ r h',S r h'->N ((d,enc r)::ρ) h' L):eG P X ⟨some d,.call ⟨.value (.func f),xs.toArray,ts⟩,ty,pos,af,g⟩ ρ h L N :=
 opTo_call (fun _ _ k _=>vo (X:=X) he hx k) H fun _ _ h' k ⟨r,e,s⟩=>⟨(d,enc r)::ρ,by rw [e]; exact k.put hd _,next r h' s⟩
theorem to_cl0 {τ:Type} {f:FuncId} {xs:List Operand} {ts:Array TypeId} {vs:List Value} {enc:τ->Value} {S:τ->Hp->Prop} (H:cl P f vs enc S h) (he:iw P f) (hx:evs ρ xs = some vs)
  (next:∀ r h',S r h'->N ρ h' L):eG P X ⟨none,.call ⟨.value (.func f),xs.toArray,ts⟩,ty,pos,af,g⟩ ρ h L N :=
 opTo_call (fun _ _ k _=>vo (X:=X) he hx k) H fun _ _ h' k ⟨r,_,s⟩=>⟨ρ,k,next r h' s⟩
theorem to_clv {τ:Type} {t:Nat} {c:Value} {xs:List Operand} {ts:Array TypeId} {vs:List Value} {enc:τ->Value} {S:τ->Hp->Prop} (H:clv P c vs enc S h) (hc:ev ρ (.tmp t) = some c) (hx:evs ρ xs = some vs) (hd:Nat.blt d X.n = true)
  (next:∀ r h',S r h'->N ((d,enc r)::ρ) h' L):eG P X ⟨some d,.call ⟨.value (.tmp t),xs.toArray,ts⟩,ty,pos,af,g⟩ ρ h L N:=by
 obtain ⟨f,fi,ca,rfl,he,H⟩:=H;exact opTo_call (fun _ _ k _=>run_call_val (X:=X) he hc hx k) H fun _ _ h' k ⟨r,e,s⟩=>⟨(d,enc r)::ρ,by rw [e]; exact k.put hd _,next r h' s⟩
theorem to_clp {f:FuncId} {xs:List Operand} {ts:Array TypeId} {vs:List Value} {v:Value} (H:Ct P f vs.toArray h fun u h'=>u = v/\h' = h) (he:iw P f) (hx:evs ρ xs = some vs) (hd:Nat.blt d X.n = true)
  (next:N ((d,v)::ρ) h L):eG P X ⟨some d,.call ⟨.value (.func f),xs.toArray,ts⟩,ty,pos,af,g⟩ ρ h L N :=
 opTo_call (fun _ _ k _=>vo (X:=X) he hx k) H fun _ _ h' k ⟨e,e'⟩=>⟨(d,v)::ρ,by rw [e]; exact k.put hd _,by rw [e']; exact next⟩
theorem evl_guardc {f:FuncId} {xs:List Operand} {ts:Array TypeId} {vs:List Value} {v u:Value} {j s:Nat} {want c:Bool}
  (hj:(ops[j]?).bind (·.dst) = some s) (hs:get ρ s = some u) (hsn:Nat.blt s X.n = true) (hg:(asB u == some want) = c)
  (H:c = true->Ct P f vs.toArray h fun u h'=>u = v/\h' = h) (he:iw P f) (hx:c = true->evs ρ xs = some vs) (hd:Nat.blt d X.n = true)
  (next:EvL P X ops l ((d,gv c v)::ρ) h L K):EvL P X ops (⟨some d,.call ⟨.value (.func f),xs.toArray,ts⟩,ty,pos,af,some (j,want)⟩::l) ρ h L K:=by
 cases c with
 | true=>exact evl_op (fun a k=>by rw [lB k hj hs hsn,hg]) (to_clp (H rfl) he (hx rfl) hd next)
 | false=>exact evl_off hj hs hsn hg hd next
theorem b_not {e:Bool} (h:(!e) = true):e = false:=by cases e <;> simp_all
theorem b_l {c e:Bool} (h:(c && e) = true):c = true:=by cases c <;> simp_all
theorem b_r {c e:Bool} (h:(c && e) = true):e = true:=by cases c <;> cases e <;> simp_all
theorem uL {e:Bool} (h:e = false):(asB (.bool e) == some true) = false:=by subst h; rfl
theorem off_f {e:Bool} (h:e = true):(asB (.bool e) == some false) = false:=by subst h; rfl
theorem off_g {c:Bool} {v:Value} (w:Bool) (h:c = false):(asB (gv c v) == some w) = false:=by subst h; rfl
theorem b_not2 {e:Bool} (h:(!e) = false):e = true:=by cases e <;> simp_all
theorem b_ol {c e:Bool} (h:(c || e) = false):c = false:=by cases c <;> simp_all
theorem b_or {c e:Bool} (h:(c || e) = false):e = false:=by cases c <;> cases e <;> simp_all
theorem off_gt {c:Bool} {v:Value} {w:Bool} (h:c = true) (h2:(asB v == some w) = false):(asB (gv c v) == some w) = false:=by subst h; exact h2
theorem gv_and {c e:Bool} {v:Value} (h:c = true):gv (c && e) v = gv e v:=by subst h; rfl
theorem ga {ρ':Type} {c:Bool} {a b:ρ'} {K:ρ'->Hp->Prop} {A B:Hp->Prop} (hA:K a h->A h) (hB:K b h->B h) (k:K (bif c then a else b) h):br c A B h :=
 ⟨fun e=>hA (by rw [e] at k; exact k),fun e=>hB (by rw [e] at k; exact k)⟩
theorem dC {τ:Type} {f:FuncId} {args:Array Value} {enc:τ->Value} {r:τ} (H:Ct P f args h fun v h'=>∃ r',v = enc r'/\(r' = r/\h' = h)):Ct P f args h fun v h'=>v = enc r/\h' = h :=
 H.mono fun _ _ ⟨_,e,e1,e2⟩=>⟨by rw [e,e1],e2⟩
end
section
variable {P:Program} {X:Cx} {ρ:Env} {h:Hp} {L:Bx} {dst:Option Tmp} {ty:TypeId} {pos:String} {af:Array Edge} {g:Option (Nat × Bool)}
theorem rH {T n:Nat} (e:(P.info? T).map (·.size) = some n):∃ i,P.info? T = some i/\i.size = n:=by
 cases h:P.info? T with
 | none=>rw [h] at e; cases e
 | some i=>rw [h] at e; exact ⟨i,rfl,Option.some.inj e⟩
theorem zero_of {T:Nat} {v:Value} (e:(P.info? T).bind (·.zero) = some v):∃ i,P.info? T = some i/\i.zero = some v:=by
 cases h:P.info? T with
 | none=>rw [h] at e; cases e
 | some i=>rw [h] at e; exact ⟨i,rfl,e⟩
theorem fld_of {S i off m:Nat} {fs:Array Field} {f:Field} (h1:P.underlying S = some (.struct fs)) (h2:fs[i]? = some f) (h3:f.offset = off) (h4:(P.info? f.type).map (·.size) = some m) (h5:m ≠ 0):Fld P S i off:=by
 obtain ⟨j,h6,h7⟩:=rH h4;exact ⟨fs,f,h1,h2,h3,j,h6,by rw [h7]; exact h5⟩
theorem v_and2 {c x:Operand} {t u:Bool} (hc:ev ρ c = some (.bool t)) (hx:ev ρ x = some (.bool u)):bM P X ρ ⟨dst,.pick c x (.const (.bool false)),ty,pos,af,g⟩ (.bool (t && u)):=by
 cases t with
 | true=>exact nQ hc rfl hx
 | false=>exact nR hc rfl rfl
theorem v_or2 {c x:Operand} {t u:Bool} (hc:ev ρ c = some (.bool t)) (hx:ev ρ x = some (.bool u)):bM P X ρ ⟨dst,.pick c (.const (.bool true)) x,ty,pos,af,g⟩ (.bool (t || u)):=by
 cases t with
 | true=>exact nQ hc rfl rfl
 | false=>exact nR hc rfl hx
theorem v_peqT {x:Operand} {T U:TypeId} {p:Ptr} {E:TypeId} (hT:P.underlying T = some (.pointer E)) (hx:ev ρ x = some (pv p)):bM P X ρ ⟨dst,.binOp .eql T x (.const (.pointer none)) U,ty,pos,af,g⟩ (.bool p.isNone):=by
 rw [← pa_none]; exact v_peq hT hx
theorem v_pneT {x:Operand} {T U:TypeId} {p:Ptr} {E:TypeId} (hT:P.underlying T = some (.pointer E)) (hx:ev ρ x = some (pv p)):bM P X ρ ⟨dst,.binOp .neq T x (.const (.pointer none)) U,ty,pos,af,g⟩ (.bool (!p.isNone)):=by
 rw [← pa_none]; exact v_pne hT hx
theorem v_seqT {x:Operand} {T U:TypeId} {s:Sl} {E:TypeId} (hT:P.underlying T = some (.slice E)) (hx:ev ρ x = some (sv s)):bM P X ρ ⟨dst,.binOp .eql T x (.const (.slice none 0 0)) U,ty,pos,af,g⟩ (.bool s.a.isNone):=by
 rw [← pa_none]; exact v_seq hT hx
theorem v_sneT {x:Operand} {T U:TypeId} {s:Sl} {E:TypeId} (hT:P.underlying T = some (.slice E)) (hx:ev ρ x = some (sv s)):bM P X ρ ⟨dst,.binOp .neq T x (.const (.slice none 0 0)) U,ty,pos,af,g⟩ (.bool (!s.a.isNone)):=by
 rw [← pa_none]; exact v_sne hT hx
def mn (x y:Int):Int:=if y < x then y else x
def mx (x y:Int):Int:=if y > x then y else x
theorem v_minT {x y:Operand} {kd:IntKind} {m n:Int} {ts:Array TypeId} (hx:ev ρ x = some (.int kd m)) (hy:ev ρ y = some (.int kd n)):bM P X ρ ⟨dst,.call ⟨.builtin .min,#[x,y],ts⟩,ty,pos,af,g⟩ (.int kd (mn m n)):=v_min hx hy
theorem v_maxT {x y:Operand} {kd:IntKind} {m n:Int} {ts:Array TypeId} (hx:ev ρ x = some (.int kd m)) (hy:ev ρ y = some (.int kd n)):bM P X ρ ⟨dst,.call ⟨.builtin .max,#[x,y],ts⟩,ty,pos,af,g⟩ (.int kd (mx m n)):=v_max hx hy
theorem evs_nil:evs ρ [] = some []:=rfl
theorem evs_cons {x:Operand} {xs:List Operand} {v:Value} {vs:List Value} (hx:ev ρ x = some v) (hr:evs ρ xs = some vs):evs ρ (x::xs) = some (v::vs):=by
 simp [evs,hx,hr]
theorem kn_parts {a:Act} {n:Nat} (k:Kn a n ρ) {ps:List (Nat × Operand)} {vs:List Value} (hx:evs ρ (ps.map (·.2)) = some vs) :
  (ps.map fun (i,x)=>(i,a.eval x)) = (ps.map (·.1)).zip vs:=by
 have:=k.evs hx;rw [List.map_map] at this;rw [← this];clear this hx
 induction ps with
 | nil=>rfl
 | cons p ps ih=>simp [ih]
theorem v_build {T:TypeId} {ps:List (Nat × Operand)} {vs:List Value} {v:Value} (hx:evs ρ (ps.map (·.2)) = some vs) (H:∀ w,(Instr.build T ((ps.map (·.1)).zip vs).toArray).run P w = .ok v w) :
  bM P X ρ ⟨dst,.build T ps.toArray,ty,pos,af,g⟩ v:=by
 intro a w k;have e:=kn_parts k hx;simp [execOp,e,H]
theorem v_func {f:FuncId} {fi ca:List Operand} {vf vc:List Value} (h1:evs ρ fi = some vf) (h2:evs ρ ca = some vc):bM P X ρ ⟨dst,.makeFunc (.func f) fi.toArray ca.toArray,ty,pos,af,g⟩ (.func (.func f) vf.toArray vc.toArray):=by
 intro a w k;have e1:=k.evs h1;have e2:=k.evs h2;simp [execOp,Instr.makeFunc,e1,e2]
end
end Mb
end
end Go.Proofs.YtjcamacgclipiaaGreatDoor
