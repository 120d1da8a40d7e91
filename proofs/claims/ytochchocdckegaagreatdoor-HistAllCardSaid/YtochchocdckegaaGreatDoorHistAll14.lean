/- Part of the proof of: The law HistAll returns true for every input, and leaves its arguments as they were. -/
import Derived.Test.YtochchocdckegaaGreatDoorHistAll13
set_option linter.all false
set_option maxRecDepth 20000
namespace Go.Proofs.YtochchocdckegaaGreatDoor
open Go.Proofs.Tryz
open Go.IntKind (i64 u64)
open _root_.Nat (le_refl)
section
open Go Mb
namespace KK
def drain (c:Int):Nat->KK->KK
 | 0,k=>k
 | n + 1,k=>if 0 < mail k c then drain c n (post k c).2 else k
def turn1 (k:KK) (c:Int):KK × Bool:=if busy (drain c 5000 k) c = true then ((step (drain c 5000 k) c).2,true) else (drain c 5000 k,false)
def sweep:Nat->Int->KK->Bool->KK × Bool
 | 0,_,k,b=>(k,b)
 | n + 1,c,k,b=>sweep n (c + 1) (turn1 k c).1 ((turn1 k c).2 || b)
def anyBusy (k:KK):Nat->Int->Bool
 | 0,_=>false
 | n + 1,c=>busy k c || anyBusy k n (c + 1)
def settle (cores:Nat):Nat->KK->Bool × KK
 | 0,k=>(!anyBusy k cores 0,k)
 | n + 1,k=>if (sweep cores 0 k false).2 = false then (true,(sweep cores 0 k false).1) else settle cores n (sweep cores 0 k false).1
def lastA (core:Int) (es:List bC):Nat->gZ × Bool
 | 0=>(⟨0,0⟩,false)
 | n + 1=>match es[n]? with
  | some e=>if e.fJa = core then (e.fWa,decide (e.fGa > 0)) else lastA core es n
  | none=>(⟨0,0⟩,false)
def run (k:KK) (core env:Int) (c:kl):(gZ × Bool) × KK :=
 if (begin_ k core env c).1 = false then ((⟨0,0⟩,false),(begin_ k core env c).2)
 else if (settle 8 1000 (begin_ k core env c).2).1 = false then ((⟨0,0⟩,false),(settle 8 1000 (begin_ k core env c).2).2)
 else (lastA core (settle 8 1000 (begin_ k core env c).2).2.events (settle 8 1000 (begin_ k core env c).2).2.events.length,(settle 8 1000 (begin_ k core env c).2).2)
theorem access_now (k:KK) (c:Int) (x:KC):(access k c x).2.now = k.now:=by unfold access; split; rfl; split <;> rfl
theorem work_now (k:KK) (c:Int) (x:KC):(work k c x).now = k.now:=by
 unfold work;split
 ·exact access_now k c x
 ·split
  ·rfl
  ·split
   ·rfl
   ·split <;> rfl
theorem step_now {k:KK} (h0:0 <= k.now) (h:k.now < 2 ^ 38) (c:Int):k.now <= (step k c).2.now/\(step k c).2.now <= k.now + 1:=by
 have hw:=wrapN h0 (by omega);unfold step;split
 ·exact ⟨Int.le_refl _,by show k.now <= k.now + 1; omega⟩
 ·split
  ·exact ⟨Int.le_refl _,by show k.now <= k.now + 1; omega⟩
  ·show _ <= (work _ _ _).now/\(work _ _ _).now <= _;rw [work_now];simp only [tick,hw]; omega
theorem post_now {k:KK} (h0:0 <= k.now) (h:k.now < 2 ^ 38) (c:Int):k.now <= (post k c).2.now/\(post k c).2.now <= k.now + 1:=by
 have hw:=wrapN h0 (by omega);unfold post;split
 ·exact ⟨Int.le_refl _,by show k.now <= k.now + 1; omega⟩
 ·split
  ·exact ⟨Int.le_refl _,by show k.now <= k.now + 1; omega⟩
  ·show _ <= (tick k).now/\(tick k).now <= _;simp only [tick,hw]; omega
theorem begin_now {k:KK} (h0:0 <= k.now) (h:k.now < 2 ^ 38) (core env:Int) (c:kl):k.now <= (begin_ k core env c).2.now/\(begin_ k core env c).2.now <= k.now + 1:=by
 have hw:=wrapN h0 (by omega);unfold begin_;split
 ·exact ⟨Int.le_refl _,by show k.now <= k.now + 1; omega⟩
 ·simp only [hw]; omega
end KK
section
variable {x:Ptr} {l:List As}
theorem kern_n0 {k:KK} {h:Hp} (s:ay (dM x k::l) h):0 <= k.now/\k.events.length <= k.now:=by
 obtain ⟨z,_,_,ok,_⟩:=vn s;exact ⟨ok.n0,ok.evn⟩
theorem settle_l3 {Rec:Bool × Int->Hp->Prop} {k:KK} {b:Bool} {c:Int} {h:Hp} (h0:0 <= c) (hc:c < 100) (hn:k.now + 5001 < 2 ^ 37) (st:ay (dM x k::l) h)
  (kk:∀ h',(KK.turn1 k c).1.now <= k.now + 5001->ay (dM x (KK.turn1 k c).1::l) h'->Rec ((KK.turn1 k c).2 || b,c + 1) h'):Lp (gO x Rec (b,c)) 0 h:=by
 have hj:∀ d h',KK.drain c 5000 k = d->d.now <= k.now + 5000->ay (dM x d::l) h'->fG x Rec (b,c) () h':=by
  intro d h' e hd s1;unfold fG;refine cc (i:=0) (pb x d c) rfl s1 fun r h2 hr s2=>?_;refine cc (i:=0) (pb x d c) rfl s2 fun r' h3 hr' s3=>?_;subst hr; subst hr';have hw:i64.wrap (c + 1) = c + 1:=bp (by omega) (by omega);simp only [hw];refine aX (fun k2=>?_) (fun k2=>?_)
  ·refine cc (i:=0) (sp_kern_Step x d c (by omega)) rfl s3 fun r h4 hr s4=>?_;have e2:KK.turn1 k c = ((KK.step d c).2,true):=by unfold KK.turn1; rw [e,if_pos k2]
   have n1:=kern_n0 s3;have n2:=KK.step_now n1.1 (by omega) c;rw [e2] at kk;rw [k2];exact kk h4 (by show (KK.step d c).2.now <= _; omega) s4
  ·have e2:KK.turn1 k c = (d,false):=by unfold KK.turn1; rw [e,if_neg (by rw [k2]; exact Bool.false_ne_true)]
   rw [e2] at kk;rw [k2];exact kk h3 (by show d.now <= _; omega) s3
 refine Lp.intro (fun (m:Int) h=>∃ (n:Nat) (d:KK),m = 5000 - n/\n <= 5000/\KK.drain c n d = KK.drain c 5000 k/\d.now <= k.now + (5000 - n)/\ay (dM x d::l) h) (fun m _=>(5000 - m).toNat) ⟨5000,k,rfl,le_refl _,rfl,by omega,st⟩ ?_;rintro m h1 ⟨n,d,rfl,hm,e,hd,s1⟩;unfold gO;refine aX (fun k1=>?_) (fun k1=>?_)
 ·have hlt:0 < n:=by have:=of_decide_eq_true k1; omega
  obtain ⟨n,rfl⟩:∃ j,n = j + 1:=⟨n - 1,by omega⟩
  refine cc (i:=0) (sp_kern_Mail x d c) rfl s1 fun r h2 hr s2=>?_;subst hr;refine aX (fun k2=>?_) (fun k2=>?_)
  ·have k2':0 < KK.mail d c:=of_decide_eq_true k2;refine cc (i:=0) (sp_kern_Post x d c (by omega)) rfl s2 fun r h3 hr s3=>?_;have n1:=kern_n0 s2;have n2:=KK.post_now n1.1 (by omega) c;have hw:i64.wrap ((5000:Int) - ((n + 1:Nat):Int) + 1) = 5000 - (n:Int):=by rw [bp (by omega) (by omega)]; omega
   rw [hw];refine ⟨⟨n,_,rfl,by omega,?_,by omega,s3⟩,by show (5000 - (5000 - (n:Int))).toNat < (5000 - (5000 - ((n + 1:Nat):Int))).toNat; omega⟩;rw [← e];exact (if_pos k2').symm
  ·have k2':¬ 0 < KK.mail d c:=of_decide_eq_false k2;exact hj d h2 (by rw [← e]; exact if_neg k2') (by omega) s2
 ·have hz:n = 0:=by have:=of_decide_eq_false k1; omega
  subst hz;exact hj d h1 e.symm (by omega) s1
theorem settle_l2 {Rec2:Int->Hp->Prop} {K:Bool->Hp->Prop} {k:KK} {m:Int} {cores:Nat} {h:Hp} (hc:cores <= 8) (hn:k.now + cores * 5001 < 2 ^ 37) (st:ay (dM x k::l) h)
  (kt:∀ h',(KK.sweep cores 0 k false).2 = false->(KK.sweep cores 0 k false).1.now <= k.now + cores * 5001->ay (dM x (KK.sweep cores 0 k false).1::l) h'->K true h')
  (kf:∀ h',(KK.sweep cores 0 k false).2 = true->(KK.sweep cores 0 k false).1.now <= k.now + cores * 5001->ay (dM x (KK.sweep cores 0 k false).1::l) h'->Rec2 (i64.wrap (m + 1)) h') :
  Lp (gP x cores K Rec2 m) (false,0) h:=by
 refine Lp.intro (fun (s:Bool × Int) h=>∃ (n:Nat) (d:KK),s.2 = (cores:Int) - n/\n <= cores/\KK.sweep n s.2 d s.1 = KK.sweep cores 0 k false/\d.now <= k.now + (cores - n) * 5001/\ay (dM x d::l) h) (fun s _=>cores - s.2.toNat)
  ⟨cores,k,by simp,le_refl _,rfl,by simp,st⟩ ?_
 rintro ⟨b,c⟩ h1 ⟨n,d,e0,hm,e,hd,s1⟩;simp only at e0 e;subst e0;unfold gP;refine aX (fun k1=>?_) (fun k1=>?_)
 ·have hlt:0 < n:=by have:=of_decide_eq_true k1; simp only at this; omega
  obtain ⟨n,rfl⟩:∃ j,n = j + 1:=⟨n - 1,by omega⟩
  have hq:(((cores:Int) - ((n + 1:Nat):Int)) * 5001) + 5001 = ((cores:Int) - n) * 5001:=by omega
  have hq2:((cores:Int) - n) * 5001 <= cores * 5001:=by omega
  refine settle_l3 (by omega) (by omega) (by omega) s1 fun h' hnow s2=>?_;have hw:(cores:Int) - ((n + 1:Nat):Int) + 1 = (cores:Int) - n:=by omega
  refine ⟨⟨n,_,hw,by omega,?_,by omega,s2⟩,?_⟩
  ·rw [← e]; rfl
  ·show cores - ((cores:Int) - ((n + 1:Nat):Int) + 1).toNat < cores - ((cores:Int) - ((n + 1:Nat):Int)).toNat;omega
 ·have hz:n = 0:=by have:=of_decide_eq_false k1; simp only at this; omega
  subst hz;have e':(d,b) = KK.sweep cores 0 k false:=e;refine aX (fun k2=>?_) (fun k2=>?_)
  ·have hb:b = false:=by simpa using k2
   rw [← e'] at kt;exact kt h1 hb (by show d.now <= _; simpa using hd) s1
  ·have hb:b = true:=by simpa using k2
   rw [← e'] at kf;exact kf h1 hb (by show d.now <= _; simpa using hd) s1
theorem settle_l4 {K:Bool->Hp->Prop} {k:KK} {cores:Nat} {h:Hp} (hc:cores <= 8) (st:ay (dM x k::l) h)
  (kk:∀ h',ay (dM x k::l) h'->K (!KK.anyBusy k cores 0) h'):Lp (gN x cores K) 0 h:=by
 refine Lp.intro (fun (c:Int) h=>∃ n:Nat,c = (cores:Int) - n/\n <= cores/\KK.anyBusy k n c = KK.anyBusy k cores 0/\ay (dM x k::l) h) (fun s _=>cores - s.toNat) ⟨cores,by simp,le_refl _,rfl,st⟩ ?_;rintro c h1 ⟨n,rfl,hm,e,s1⟩;unfold gN;refine aX (fun k1=>?_) (fun k1=>?_)
 ·have hlt:0 < n:=by have:=of_decide_eq_true k1; omega
  obtain ⟨n,rfl⟩:∃ j,n = j + 1:=⟨n - 1,by omega⟩
  refine cc (i:=0) (pb x k _) rfl s1 fun r h2 hr s2=>?_;subst hr;have e':(KK.busy k ((cores:Int) - ((n + 1:Nat):Int)) || KK.anyBusy k n ((cores:Int) - ((n + 1:Nat):Int) + 1)) = KK.anyBusy k cores 0:=e;refine aX (fun k2=>?_) (fun k2=>?_)
  ·rw [k2,Bool.true_or] at e';rw [← e'] at kk;exact kk h2 s2
  ·rw [k2,Bool.false_or] at e';have hw:i64.wrap ((cores:Int) - ((n + 1:Nat):Int) + 1) = (cores:Int) - ((n + 1:Nat):Int) + 1:=bp (by omega) (by omega);rw [hw];refine ⟨⟨n,by omega,by omega,e',s2⟩,by omega⟩
 ·have hz:n = 0:=by have:=of_decide_eq_false k1; omega
  subst hz;have e':false = KK.anyBusy k cores 0:=e;rw [← e'] at kk;exact kk h1 s1
end
theorem sp_Settle (x:Ptr) (k:KK) (cores most:Nat) (hc:cores <= 8) (hm:most <= 1000) (hn:k.now < 2 ^ 36):Sp prog io [pv x,.int .i64 cores,.int .i64 most] aD [dM x k]
  (fun r=>pa_ (r = (KK.settle cores most k).1/\(KK.settle cores most k).2.now <= k.now + most * 40008) [dM x (KK.settle cores most k).2]):=by
 intro h st;refine vD _ _ _ ?_;unfold oD;refine Lp.intro (fun (m:Int) h=>∃ (n:Nat) (d:KK),m = (most:Int) - n/\n <= most/\KK.settle cores n d = KK.settle cores most k/\d.now <= k.now + (most - n) * 40008/\ay [dM x d] h) (fun m _=>most - m.toNat)
  ⟨most,k,by simp,le_refl _,rfl,by simp,st⟩ ?_
 rintro m h1 ⟨n,d,rfl,hnm,e,hd,s1⟩;unfold ke;have hq:((most:Int) - n) * 40008 <= 1000 * 40008:=by omega
 have hq2:(cores:Int) * 5001 <= 40008:=by omega
 refine aX (fun k1=>?_) (fun k1=>?_)
 ·have hlt:0 < n:=by have:=of_decide_eq_true k1; omega
  obtain ⟨n,rfl⟩:∃ j,n = j + 1:=⟨n - 1,by omega⟩
  have e':(if (KK.sweep cores 0 d false).2 = false then (true,(KK.sweep cores 0 d false).1) else KK.settle cores n (KK.sweep cores 0 d false).1) = KK.settle cores most k:=e;refine settle_l2 hc (by omega) s1 (fun h' hb hnow s2=>?_) (fun h' hb hnow s2=>?_)
  ·rw [if_pos hb] at e';rw [← e'];exact ba ⟨rfl,by show (KK.sweep cores 0 d false).1.now <= _; omega⟩ s2
  ·rw [if_neg (by rw [hb]; decide)] at e';have hw:i64.wrap ((most:Int) - ((n + 1:Nat):Int) + 1) = (most:Int) - n:=by rw [bp (by omega) (by omega)]; omega
   rw [hw];exact ⟨⟨n,_,rfl,by omega,e',by omega,s2⟩,by omega⟩
 ·have hz:n = 0:=by have:=of_decide_eq_false k1; omega
  subst hz;have e':(!KK.anyBusy d cores 0,d) = KK.settle cores most k:=e;refine settle_l4 hc s1 fun h' s2=>?_;rw [← e'];exact ba ⟨rfl,by show d.now <= _; simpa using hd⟩ s2
theorem run_yes {k:KK} {core env:Int} {c:kl} {d e:KK} (h1:(KK.begin_ k core env c) = (true,d)) (h2:KK.settle 8 1000 d = (true,e)):KK.run k core env c = (KK.lastA core e.events e.events.length,e):=by
 unfold KK.run;rw [h1]
 dsimp only
 rw [if_neg (by decide),h2]
 dsimp only
 rw [if_neg (by decide)]
theorem run_l1 {s:Sl} {es:List bC} {l:List As} {core:Int} {K:gZ × Bool->Hp->Prop} {h:Hp} (hb:es.length < 2 ^ 38) (st:ay (vE s es::l) h)
  (kk:∀ h',ay (vE s es::l) h'->K (KK.lastA core es es.length) h'):Lp (gD core K s) (i64.wrap ((s.len:Int) - 1),⟨0,0⟩) h:=by
 have hl:=(bY (j:=0) st rfl).1;have hw0:i64.wrap ((s.len:Int) - 1) = (es.length:Int) - 1:=by rw [hl,bp (by omega) (by omega)]
 rw [hw0];refine Lp.intro (fun (z:Int × gZ) h=>∃ n:Nat,z = ((n:Int) - 1,⟨0,0⟩)/\n <= es.length/\KK.lastA core es n = KK.lastA core es es.length/\ay (vE s es::l) h) (fun z _=>(z.1 + 1).toNat) ⟨_,rfl,le_refl _,rfl,st⟩ ?_;rintro _ h1 ⟨n,rfl,hn,e,s1⟩;unfold gD;refine aX (fun k1=>?_) (fun k1=>?_)
 ·have hlt:0 < n:=by have:=of_decide_eq_true k1; simp only at this; omega
  obtain ⟨n,rfl⟩:∃ j,n = j + 1:=⟨n - 1,by omega⟩
  have hn':n < es.length:=by omega
  have hi:((n + 1:Nat):Int) - 1 = (n:Int):=by omega
  simp only [hi];have e':(match es[n]? with
   | some e=>if e.fJa = core then (e.fWa,decide (e.fGa > 0)) else KK.lastA core es n
   | none=>(⟨0,0⟩,false)) = KK.lastA core es es.length:=e
  rw [aB hn'] at e';simp only at e';refine cU s1 (j:=0) rfl (by omega) (by show (n:Int) < _; omega) fun q hq=>?_;have lk:∀ {σ:Type} {enc:σ->List Value} {K:σ->Hp->Prop} (y:σ) (o:Nat),(∀ i v,(enc y)[i]? = some v->(es[n].C)[o + i]? = some v)->K y h1->ld (q.1,q.2 + Int.toNat (n:Int) * 16 + o) enc K h1:=by
   intro σ enc K y o he k;exact cX (j:=0) (i:=n) (k:=o) y eK s1 rfl hq (by simp) (aB hn') he k
  refine lk es[n].fJa 0 (fun i v hv=>?_) ?_
  ·rcases i with _ | i <;> first | exact hv | simp [cI] at hv
  refine aX (fun k2=>?_) (fun k2=>?_)
  ·have k2':es[n].fJa = core:=by simpa using k2
   rw [if_pos k2'] at e';have hA:∀ i v,(ac.C es[n].fWa)[i]? = some v->(es[n].C)[10 + i]? = some v:=by
    intro i v hv;rcases i with _ | _ | i <;> first | exact hv | simp [ac.C] at hv
   have hE:∀ i v,((cI .i64) es[n].fGa)[i]? = some v->(es[n].C)[9 + i]? = some v:=by
    intro i v hv;rcases i with _ | i <;> first | exact hv | simp [cI] at hv
   refine ⟨lk _ 10 hA (lk _ 9 hE ?_),lk _ 9 hE (lk _ 10 hA ?_)⟩
   ·rw [e']; exact kk h1 s1
   ·rw [e']; exact kk h1 s1
  ·have k2':¬ es[n].fJa = core:=by simpa using k2
   rw [if_neg k2'] at e';rw [bp (by omega) (by omega)];exact ⟨⟨n,rfl,by omega,e',s1⟩,by show ((n:Int) - 1 + 1).toNat < ((n:Int) + 1).toNat; omega⟩
 ·have hz:n = 0:=by have:=of_decide_eq_false k1; simp only at this; omega
  subst hz;have e':((⟨0,0⟩,false):gZ × Bool) = KK.lastA core es es.length:=e;rw [← e'] at kk;exact kk h1 s1
theorem run_no {k:KK} {core env:Int} {c:kl} {d e:KK} (h1:(KK.begin_ k core env c) = (true,d)) (h2:KK.settle 8 1000 d = (false,e)):KK.run k core env c = ((⟨0,0⟩,false),e):=by
 unfold KK.run;rw [h1]
 dsimp only
 rw [if_neg (by decide),h2]
 dsimp only
 rw [if_pos rfl]
theorem run_tail (x:Ptr) (k:KK) (core env:Int) (c:kl) (d:KK) (h1:KK.begin_ k core env c = (true,d)) (hn:d.now <= k.now + 1) (hk:k.now < 2 ^ 35) {h:Hp} (s1:ay [dM x d] h) :
  (cl prog io [(pv x),(.int .i64 8),(.int .i64 1000)] aD fun r20 =>
   br (!r20) ((fun r h'=>pa_ (r = (KK.run k core env c).1/\(KK.run k core env c).2.now <= k.now + 40008001) [dM x (KK.run k core env c).2] h') (⟨0,0⟩,false)) (
   cl prog iM [(pv x)] eV fun r24 =>
   Lp (gD core (fun r h'=>pa_ (r = (KK.run k core env c).1/\(KK.run k core env c).2.now <= k.now + 40008001) [dM x (KK.run k core env c).2] h') r24) ((i64.wrap ((r24.len:Int) - 1)),(⟨0,0⟩:ac)))) h:=by
 have c8:=sp_Settle x d 8 1000 (le_refl _) (le_refl _) (by omega);generalize hz:KK.settle 8 1000 d = z at c8;obtain ⟨b,e⟩:=z;refine cc (i:=0) c8 rfl s1 fun r h2 hr s2=>?_;obtain ⟨hr,hs⟩:=hr;have hs':e.now <= d.now + 40008000:=hs;have n2:=kern_n0 s2;have hr':r = b:=hr;rw [hr'];cases b
 ·rw [run_no h1 hz];exact eG rfl (ba ⟨rfl,by show e.now <= _; omega⟩ s2)
 ·refine dN rfl ?_;refine ui (i:=0) (sp_kern_Events x _ (by show e.now < _; omega)) rfl s2 fun s h3 s3=>?_;refine run_l1 (by show e.events.length < _; have:(e.events.length:Int) <= e.now:=n2.2; omega) s3 fun h4 s4=>?_;rw [run_yes h1 hz];exact ba ⟨rfl,by show e.now <= _; omega⟩ (ce (l:=[_]) s4)
theorem sp_Run (x:Ptr) (k:KK) (core env:Int) (c:kl) (hn:k.now < 2 ^ 35):Sp prog eY [pv x,.int .i64 core,.int .i64 env,.agg c.C.toArray] bq [dM x k]
  (fun r=>pa_ (r = (KK.run k core env c).1/\(KK.run k core env c).2.now <= k.now + 40008001) [dM x (KK.run k core env c).2]):=by
 intro h st;have n0:=kern_n0 st;have nb:=KK.begin_now n0.1 (by omega) core env c;refine sim_messuagelaw16_Run _ _ _ _ ?_;unfold ry;refine cc (i:=0) (sp_kern_Begin x k core env c (by omega)) rfl st fun r h1 hr s1=>?_;subst hr;refine aX (fun k1=>?_) (fun k1=>?_)
 ·have k1':(KK.begin_ k core env c).1 = false:=by simpa using k1
  have e:KK.run k core env c = ((⟨0,0⟩,false),(KK.begin_ k core env c).2):=if_pos k1';rw [e];exact ba ⟨rfl,by show (KK.begin_ k core env c).2.now <= _; omega⟩ s1
 ·have k1':(KK.begin_ k core env c).1 = true:=by simpa using k1
  exact run_tail x k core env c (KK.begin_ k core env c).2 (by rw [← k1']) (by omega) hn s1
end
section
open Go Mb
def errors_as_l2 (a1:Value) (a2:aQ) (a3:Value) (K:kT Bool) (v48:Sl) (Rec25:kT Int) (s24:Int):hT:=br (decide (s24 < (v48.len:Int))) ( ix v48 s24 fun q52=>ld (q52.1,q52.2 + Int.toNat s24 * 1) cV fun x53=>hpv prog (do eqGuard .eql 159 (.tmp 54) (.const Value.nilIface) x53 Value.nilIface; binOp .eql 159 x53 Value.nilIface:Sem Value) aD fun (v55:Bool)=>br v55 ( Rec25 (i64.wrap (s24 + 1))) ( cl prog vh [x53,a1,(.agg (aQ.C a2).toArray),a3] aD fun r60=>br r60 ( K true) ( Rec25 (i64.wrap (s24 + 1))))) ( K false)
def xZ (a1:Value) (a2:aQ) (a3:Value) (K:kT Bool) (Rec2:kT Value) (s1:Value) (s11:Unit):hT:=hpv prog (Instr.typeAssert s1 gM jA true) gJ fun (v37:Value × Bool)=>br v37.2 ( cln prog (callMethod v37.1 "Unwrap" #[]) encV fun (v41:Value)=>hpv prog (do eqGuard .eql 159 (.tmp 42) (.const Value.nilIface) v41 Value.nilIface; binOp .eql 159 v41 Value.nilIface:Sem Value) aD fun (v43:Bool)=>br v43 ( K false) ( Rec2 v41)) ( hpv prog (Instr.typeAssert s1 gM iZ true) gt fun (v44:Value × Bool)=>br v44.2 ( cln prog (callMethod v44.1 "Unwrap" #[]) R_Serror fun (v48:Sl)=>Lp (errors_as_l2 a1 a2 a3 K v48) 0) ( K false))
def xY (a1:Value) (a2:aQ) (a3:Value) (K:kT Bool) (Rec2:kT Value) (s1:Value):hT:=cln prog (callFunc gC #[s1]) encV fun (v17:Value)=>cln prog (callMethod v17 "AssignableTo" #[a3]) aD fun (v19:Bool)=>br v19 ( cln prog (callFunc fK #[(.agg (aQ.C a2).toArray)]) fV fun (v21:aQ)=>cln prog (callFunc de #[s1]) fV fun (v23:aQ)=>cln prog (callFunc fQ #[(.agg (aQ.C v21).toArray),(.agg (aQ.C v23).toArray)]) R_ fun (v24:Unit)=>K true) ( hpv prog (Instr.typeAssert s1 gM rj true) ou fun (v27:Value × Bool)=>br v27.2 ( cln prog (callMethod v27.1 "As" #[a1]) aD fun (v34:Bool)=>br v34 ( K true) ( xZ a1 a2 a3 K Rec2 s1 ())) ( xZ a1 a2 a3 K Rec2 s1 ()))
def sh_errors_as (a0:Value) (a1:Value) (a2:aQ) (a3:Value) (K:kT Bool):hT:=Lp (xY a1 a2 a3 K) a0
theorem sim_errors_as (a0:Value) (a1:Value) (a2:aQ) (a3:Value) {K:kT Bool} {h:Hp} (H:sh_errors_as a0 a1 a2 a3 K h):cl prog vh [a0,a1,(.agg (aQ.C a2).toArray),a3] aD K h:=z_i func191 p p fun _=>O<|aa<|cz (l:=aQ.C a2) p p p fun b6=>U p<|aw<|bv (step:=xY a1 a2 a3 K) (fun s1=>[(0,s1),(1,a1),(3,a3),(6,(.pointer (some ⟨b6,0,none⟩)))]) (fun s1=>[bx b6 262 (aQ.C a2)]) H (.cons p<|.cons p<|.cons p<|.cons p<|.nil _) (.cons_cons _ .slnil) fun Rec2 s1 _ H3=>aw<|ai<|O<|M p<|aa<|gy H3 (sJ (vs:=[s1]) p) p fun v17 _ H4=>M p<|aa<|gy H4 (gx (vs:=[a3]) p p) p fun v19 _ H5=>ad<|av p H5 (fun k6 H7=>O<|bo (bK (k:=0) ag_262 p p p p) p<|aa<|gy H7 (sJ (vs:=[(.agg (aQ.C a2).toArray)]) p) p fun v21 _ H8=>M p<|aa<|gy H8 (sJ (vs:=[s1]) p) p fun v23 _ H9=>aa<|gy H9 (sJ (vs:=[(.agg (aQ.C v21).toArray),(.agg (aQ.C v23).toArray)]) p) p fun v24 _ H10=>ad<|O<|U p<|ah<|F ⟨true,p,H10⟩) fun k6 H7=>ak<|dY (xZ a1 a2 a3 K Rec2 s1) (fun s11=>[(0,s1),(1,a1),(3,a3),(6,(.pointer (some ⟨b6,0,none⟩)))]) (fun s11=>[bx b6 262 (aQ.C a2)]) (O<|M p<|aa<|aF H7 (gu p) p fun v27 _ H39=>M p<|J (aj p p)<|J (aj p p)<|J (ar p)<|U p<|O<|M p<|M p<|W p p (aA _) (fun g40=>wv<|ag p)<|W p p (aA _) (fun g41=>wv<|ag p)<|bS H39 (fun k43 H44=>z_O (Z k43)<|gy H44 (gx (vs:=[a1]) (aC p k43)<|aZ (aC p k43) bX) p fun v34 _ H45=>J (aI p k43 p)<|ad<|av p H45 (fun k46 H47=>O<|U p<|ah<|F ⟨true,p,H47⟩) fun k46 H47=>ak<|ct () H47 (.cons p<|.cons p<|.cons p<|.cons p<|.nil _)<|.cons_cons _ .slnil) fun k43 H44=>Y (ax k43)<|J (ap p k43 p)<|ad<|rH p p<|ak<|ct () H44 (.cons p<|.cons p<|.cons p<|.cons p<|.nil _)<|.cons_cons _ .slnil) fun s11 _ H12=>O<|M p<|ad<|aw<|O<|aa<|aF H12 (gu p) p fun v37 _ H13=>J (aj p p)<|J (aj p p)<|ad<|av p H13 (fun k14 H15=>O<|U p<|O<|M p<|aa<|gy H15 (gx (vs:=[]) p p) p fun v41 _ H16=>U p<|O<|M p<|aa<|aF H16 (gL p p) p fun v43 _ H17=>ad<|av p H17 (fun k18 H19=>O<|U p<|ah<|F ⟨false,p,H19⟩) fun k18 H19=>ak<|bU v41 H19 (.cons p<|.cons p<|.cons p<|.cons p<|.nil _)<|.cons_cons _ .slnil) fun k14 H15=>O<|aa<|aF H15 (gu p) p fun v44 _ H20=>J (aj p p)<|J (aj p p)<|ad<|av p H20 (fun k21 H22=>O<|U p<|ai<|O<|M p<|aa<|gy H22 (gx (vs:=[]) p p) p fun v48 _ H23=>J (dh p underlying244 p)<|M p<|ad<|aw<|bv (step:=errors_as_l2 a1 a2 a3 K v48) (fun s24=>[(1,a1),(3,a3),(6,(.pointer (some ⟨b6,0,none⟩))),(48,(sv v48)),(49,(.int .i64 (v48.len:Int))),(50,(.int .i64 s24))]) (fun s24=>[bx b6 262 (aQ.C a2)]) H23 (.cons p<|.cons p<|.cons p<|.cons p<|.cons p<|.cons p<|.nil _) (.cons_cons _ .slnil) fun Rec25 s24 _ H26=>O<|J (bZ p p)<|ad<|ai<|av p H26 (fun k27 H28=>ak<|ai<|aw<|O<|cm H28 fun q52 e29 h30 H31=>J (aW slc_244 (aJ p<|aM e29) p h30)<|aa<|aY H31 sc_159 p (fun _=>p) p fun x53 H32=>U p<|ai<|O<|M p<|aa<|aF H32 (gL p p) p fun v55 _ H33=>ad<|av p H33 (fun k34 H35=>bf<|am<|J (bb p p)<|M p<|ad<|bU (i64.wrap (s24 + 1)) H35 (.cons p<|.cons p<|.cons p<|.cons p<|.cons p<|.cons p<|.nil _)<|.cons_cons _ .slnil) fun k34 H35=>ak<|O<|M p<|M p<|bo (bK (k:=0) ag_262 p p p p) p<|M p<|aa<|G H35 en_191 fun r60 _ H36=>ad<|av p H36 (fun k37 H38=>O<|U p<|ah<|F ⟨true,p,H38⟩) fun k37 H38=>ak<|am<|J (bb p p)<|M p<|ad<|bU (i64.wrap (s24 + 1)) H38 (.cons p<|.cons p<|.cons p<|.cons p<|.cons p<|.cons p<|.nil _)<|.cons_cons _ .slnil) fun k27 H28=>bf<|O<|U p<|ah<|F ⟨false,p,H28⟩) fun k21 H22=>O<|U p<|O<|U p<|ah<|F ⟨false,p,H22⟩
def ta (a0:Value) (a1:Value) (K:kT Bool) (v14:aQ) (v26:Value) (s11:Unit):hT:=cl prog vh [a0,a1,(.agg (aQ.C v14).toArray),v26] aD fun r41=>K r41
def ya (a0:Value) (a1:Value) (K:kT Bool) (v14:aQ) (v16:Value) (s8:Unit):hT:=cln prog (callMethod v16 "Elem" #[]) encV fun (v26:Value)=>cln prog (callMethod v26 "Kind" #[]) R_abi_Kind fun (v28:Int)=>br (v28 != 20) ( ld (0,0) cV fun x32=>cln prog (callMethod v26 "Implements" #[x32]) aD fun (v33:Bool)=>br (!v33) ( hpv prog (Instr.makeInterface vY (.string str_6ae768b9)) encV fun (v36:Value)=>nope) ( ta a0 a1 K v14 v26 ())) ( ta a0 a1 K v14 v26 ())
def yb (a0:Value) (a1:Value) (K:kT Bool) (s4:Unit):hT:=cln prog (callFunc de #[a1]) fV fun (v14:aQ)=>cln prog (callFunc iY #[(.agg (aQ.C v14).toArray)]) encV fun (v16:Value)=>cln prog (callMethod v16 "Kind" #[]) R_abi_Kind fun (v18:Int)=>br (!(v18 != 22)) ( cln prog (callFunc fB #[(.agg (aQ.C v14).toArray)]) aD fun (v22:Bool)=>br v22 ( hpv prog (Instr.makeInterface vY (.string str_ae9b7a08)) encV fun (v24:Value)=>nope) ( ya a0 a1 K v14 v16 ())) ( hpv prog (Instr.makeInterface vY (.string str_ae9b7a08)) encV fun (v24:Value)=>nope)
def xF (a0:Value) (a1:Value) (K:kT Bool):hT:=hpv prog (do eqGuard .eql 159 (.tmp 8) (.const Value.nilIface) a0 Value.nilIface; binOp .eql 159 a0 Value.nilIface:Sem Value) aD fun (v9:Bool)=>br v9 ( K false) ( hpv prog (do eqGuard .eql 20 (.tmp 10) (.const Value.nilIface) a1 Value.nilIface; binOp .eql 20 a1 Value.nilIface:Sem Value) aD fun (v11:Bool)=>br v11 ( hpv prog (Instr.makeInterface vY (.string str_53947bae)) encV fun (v12:Value)=>nope) ( yb a0 a1 K ()))
theorem sim_errors_As (a0:Value) (a1:Value) {K:kT Bool} {h:Hp} (H:xF a0 a1 K h):cl prog vi [a0,a1] aD K h:=z_i func186 p p fun _=>O<|U p<|ai<|O<|M p<|aa<|aF H (gL p p) p fun v9 _ H1=>ad<|av p H1 (fun k2 H3=>O<|U p<|ah<|F ⟨false,p,H3⟩) fun k2 H3=>ak<|dY (yb a0 a1 K) (fun s4=>[(0,a0),(1,a1)]) (fun s4=>[]) (O<|M p<|aa<|aF H3 (gL p p) p fun v11 _ H34=>ad<|av p H34 (fun k35 H36=>am<|aa<|aF H36 (gR p) p fun v12 _ H37=>evlNo H37) fun k35 H36=>ak<|ct () H36 (.cons p<|.cons p<|.nil _) .slnil) fun s4 _ H5=>O<|M p<|aa<|gy H5 (sJ (vs:=[a1]) p) p fun v14 _ H6=>aa<|aT (l:=aQ.C (⟨none,none,0⟩:aQ)) zero_262 p p fun b5=>aa<|aV (k:=0) (vs:=aQ.C v14) inf_262 p p p p p p p<|ad<|O<|bo (bK (k:=0) ag_262 p p p p) p<|aa<|gy H6 (sJ (vs:=[(.agg (aQ.C v14).toArray)]) p) p fun v16 _ H7=>U p<|dY (ya a0 a1 K v14 v16) (fun s8=>[(0,a0),(1,a1),(5,(.pointer (some ⟨b5,0,none⟩))),(6,v16)]) (fun s8=>[bx b5 262 (aQ.C v14)]) (O<|M p<|aa<|gy H7 (gx (vs:=[]) p p) p fun v18 _ H24=>J (nS p p)<|M p<|W p p (aL _) (fun g25=>cv<|bK (k:=0) ag_262 p p p p)<|bS H24 (fun k27 H28=>z_O (Z<|cg k27)<|gy H28 (sJ (vs:=[(.agg (aQ.C v14).toArray)])<|aZ (aC p k27) bX) p fun v22 _ H29=>J (ap p (cg k27) p)<|ad<|av p H29 (fun k30 H31=>am<|aa<|aF H31 (gR p) p fun v24 _ H32=>evlNo H32) fun k30 H31=>ak<|ct () H31 (.cons p<|.cons p<|.cons p<|.cons p<|.nil _)<|.cons_cons _ .slnil) fun k27 H28=>Y (be<|bG k27)<|J (aI p (bG k27) p)<|ad<|gc p p<|am<|aa<|aF H28 (gR p) p fun v24 _ H33=>evlNo H33) fun s8 _ H9=>O<|M p<|aa<|gy H9 (gx (vs:=[]) p p) p fun v26 _ H10=>U p<|dY (ta a0 a1 K v14 v26) (fun s11=>[(0,a0),(1,a1),(5,(.pointer (some ⟨b5,0,none⟩))),(7,v26)]) (fun s11=>[bx b5 262 (aQ.C v14)]) (O<|M p<|aa<|gy H10 (gx (vs:=[]) p p) p fun v28 _ H14=>J (nS p p)<|M p<|W p p (aA _) (fun g15=>wv<|ag p)<|bS H14 (fun k17 H18=>z_O (Z k17)<|aY H18 sc_211 p (fun _=>p) p fun x32 H19=>z_O (Z k17)<|gy H19 (gx (vs:=[x32]) (aC p k17) p) p fun v33 _ H20=>z_O (Z k17)<|z_p (cw p)<|J (aI p k17 p)<|ad<|av p H20 (fun k21 H22=>am<|aa<|aF H22 (gR p) p fun v36 _ H23=>evlNo H23) fun k21 H22=>ak<|ct () H22 (.cons p<|.cons p<|.cons p<|.cons p<|.nil _)<|.cons_cons _ .slnil) fun k17 H18=>Y (ax k17)<|Y (ax k17)<|Y (ax k17)<|J (ap p k17 p)<|ad<|rH p p<|ak<|ct () H18 (.cons p<|.cons p<|.cons p<|.cons p<|.nil _)<|.cons_cons _ .slnil) fun s11 _ H12=>O<|M p<|M p<|bo (bK (k:=0) ag_262 p p p p) p<|M p<|aa<|G H12 en_191 fun r41 _ H13=>U p<|ah<|F ⟨r41,p,H13⟩
def errors_is_l2 (a1:Value) (a2:Bool) (K:kT Bool) (v43:Sl) (Rec26:kT Int) (s25:Int):hT:=br (decide (s25 < (v43.len:Int))) ( ix v43 s25 fun q47=>ld (q47.1,q47.2 + Int.toNat s25 * 1) cV fun x48=>cl prog oG [x48,a1,(.bool a2)] aD fun r52=>br r52 ( K true) ( Rec26 (i64.wrap (s25 + 1)))) ( K false)
def sZ (a1:Value) (a2:Bool) (K:kT Bool) (Rec2:kT Value) (s1:Value) (s12:Unit):hT:=hpv prog (Instr.typeAssert s1 gM jA true) gJ fun (v32:Value × Bool)=>br v32.2 ( cln prog (callMethod v32.1 "Unwrap" #[]) encV fun (v36:Value)=>hpv prog (do eqGuard .eql 159 (.tmp 37) (.const Value.nilIface) v36 Value.nilIface; binOp .eql 159 v36 Value.nilIface:Sem Value) aD fun (v38:Bool)=>br v38 ( K false) ( Rec2 v36)) ( hpv prog (Instr.typeAssert s1 gM iZ true) gt fun (v39:Value × Bool)=>br v39.2 ( cln prog (callMethod v39.1 "Unwrap" #[]) R_Serror fun (v43:Sl)=>Lp (errors_is_l2 a1 a2 K v43) 0) ( K false))
def errors_is_l3 (a1:Value) (a2:Bool) (K:kT Bool) (v43:Sl) (Rec60:kT Int) (s59:Int):hT:=br (decide (s59 < (v43.len:Int))) ( ix v43 s59 fun q47=>ld (q47.1,q47.2 + Int.toNat s59 * 1) cV fun x48=>cl prog oG [x48,a1,(.bool a2)] aD fun r52=>br r52 ( K true) ( Rec60 (i64.wrap (s59 + 1)))) ( K false)
def xX (a1:Value) (a2:Bool) (K:kT Bool) (Rec2:kT Value) (s1:Value) (s46:Unit):hT:=hpv prog (Instr.typeAssert s1 gM jA true) gJ fun (v32:Value × Bool)=>br v32.2 ( cln prog (callMethod v32.1 "Unwrap" #[]) encV fun (v36:Value)=>hpv prog (do eqGuard .eql 159 (.tmp 37) (.const Value.nilIface) v36 Value.nilIface; binOp .eql 159 v36 Value.nilIface:Sem Value) aD fun (v38:Bool)=>br v38 ( K false) ( Rec2 v36)) ( hpv prog (Instr.typeAssert s1 gM iZ true) gt fun (v39:Value × Bool)=>br v39.2 ( cln prog (callMethod v39.1 "Unwrap" #[]) R_Serror fun (v43:Sl)=>Lp (errors_is_l3 a1 a2 K v43) 0) ( K false))
def sY (a1:Value) (a2:Bool) (K:kT Bool) (Rec2:kT Value) (s1:Value):hT:=br a2 ( hpv prog (do eqGuard .eql 159 (.tmp 16) (.tmp 17) s1 a1; binOp .eql 159 s1 a1:Sem Value) aD fun (v18:Bool)=>br v18 ( K true) ( hpv prog (Instr.typeAssert s1 gM mW true) kj fun (v22:Value × Bool)=>br v22.2 ( cln prog (callMethod v22.1 "Is" #[a1]) aD fun (v29:Bool)=>br v29 ( K true) ( sZ a1 a2 K Rec2 s1 ())) ( sZ a1 a2 K Rec2 s1 ()))) ( hpv prog (Instr.typeAssert s1 gM mW true) kj fun (v22:Value × Bool)=>br v22.2 ( cln prog (callMethod v22.1 "Is" #[a1]) aD fun (v29:Bool)=>br v29 ( K true) ( xX a1 a2 K Rec2 s1 ())) ( xX a1 a2 K Rec2 s1 ()))
def xD (a0:Value) (a1:Value) (a2:Bool) (K:kT Bool):hT:=Lp (sY a1 a2 K) a0
theorem sim_errors_is (a0:Value) (a1:Value) (a2:Bool) {K:kT Bool} {h:Hp} (H:xD a0 a1 a2 K h):cl prog oG [a0,a1,(.bool a2)] aD K h:=z_i func149 p p fun _=>O<|U p<|aw<|bv (step:=sY a1 a2 K) (fun s1=>[(0,s1),(1,a1),(2,(.bool a2))]) (fun s1=>[]) H (.cons p<|.cons p<|.cons p<|.nil _) .slnil fun Rec2 s1 _ H3=>aw<|ai<|O<|M p<|M p<|W p p (aA _) (fun g4=>wv<|ag p)<|W p p (aA _) (fun g5=>wv<|ag p)<|bS H3 (fun k7 H8=>z_O (Z k7)<|aF H8 (gL (aC p k7)<|aC p k7) p fun v18 _ H9=>J (aI p k7 p)<|ad<|av p H9 (fun k10 H11=>O<|U p<|ah<|F ⟨true,p,H11⟩) fun k10 H11=>ak<|dY (sZ a1 a2 K Rec2 s1) (fun s12=>[(0,s1),(1,a1),(2,(.bool a2))]) (fun s12=>[]) (O<|M p<|aa<|aF H11 (gu p) p fun v22 _ H37=>M p<|J (aj p p)<|J (aj p p)<|J (ar p)<|U p<|O<|M p<|M p<|W p p (aA _) (fun g38=>wv<|ag p)<|W p p (aA _) (fun g39=>wv<|ag p)<|bS H37 (fun k41 H42=>z_O (Z k41)<|gy H42 (gx (vs:=[a1]) (aC p k41)<|aZ (aC p k41) bX) p fun v29 _ H43=>J (aI p k41 p)<|ad<|av p H43 (fun k44 H45=>O<|U p<|ah<|F ⟨true,p,H45⟩) fun k44 H45=>ak<|ct () H45 (.cons p<|.cons p<|.cons p<|.nil _) .slnil) fun k41 H42=>Y (ax k41)<|J (ap p k41 p)<|ad<|rH p p<|ak<|ct () H42 (.cons p<|.cons p<|.cons p<|.nil _) .slnil) fun s12 _ H13=>O<|M p<|ad<|aw<|O<|aa<|aF H13 (gu p) p fun v32 _ H14=>J (aj p p)<|J (aj p p)<|ad<|av p H14 (fun k15 H16=>O<|U p<|O<|M p<|aa<|gy H16 (gx (vs:=[]) p p) p fun v36 _ H17=>U p<|O<|M p<|aa<|aF H17 (gL p p) p fun v38 _ H18=>ad<|av p H18 (fun k19 H20=>O<|U p<|ah<|F ⟨false,p,H20⟩) fun k19 H20=>ak<|bU v36 H20 (.cons p<|.cons p<|.cons p<|.nil _) .slnil) fun k15 H16=>O<|aa<|aF H16 (gu p) p fun v39 _ H21=>J (aj p p)<|J (aj p p)<|ad<|av p H21 (fun k22 H23=>O<|U p<|ai<|O<|M p<|aa<|gy H23 (gx (vs:=[]) p p) p fun v43 _ H24=>J (dh p underlying244 p)<|M p<|ad<|aw<|bv (step:=errors_is_l2 a1 a2 K v43) (fun s25=>[(1,a1),(2,(.bool a2)),(43,(sv v43)),(44,(.int .i64 (v43.len:Int))),(45,(.int .i64 s25))]) (fun s25=>[]) H24 (.cons p<|.cons p<|.cons p<|.cons p<|.cons p<|.nil _) .slnil fun Rec26 s25 _ H27=>O<|J (bZ p p)<|ad<|ai<|av p H27 (fun k28 H29=>ak<|ai<|aw<|O<|cm H29 fun q47 e30 h31 H32=>J (aW slc_244 (aJ p<|aM e30) p h31)<|aa<|aY H32 sc_159 p (fun _=>p) p fun x48 H33=>U p<|O<|M p<|M p<|M p<|aa<|G H33 en_149 fun r52 _ H34=>ad<|av p H34 (fun k35 H36=>O<|U p<|ah<|F ⟨true,p,H36⟩) fun k35 H36=>ak<|am<|J (bb p p)<|M p<|ad<|bU (i64.wrap (s25 + 1)) H36 (.cons p<|.cons p<|.cons p<|.cons p<|.cons p<|.nil _) .slnil) fun k28 H29=>bf<|O<|U p<|ah<|F ⟨false,p,H29⟩) fun k22 H23=>O<|U p<|O<|U p<|ah<|F ⟨false,p,H23⟩) fun k7 H8=>Y (ax k7)<|J (ap p k7 p)<|ad<|rH p p<|ak<|dY (xX a1 a2 K Rec2 s1) (fun s46=>[(0,s1),(1,a1),(2,(.bool a2))]) (fun s46=>[]) (O<|M p<|aa<|aF H8 (gu p) p fun v22 _ H71=>M p<|J (aj p p)<|J (aj p p)<|J (ar p)<|U p<|O<|M p<|M p<|W p p (aA _) (fun g72=>wv<|ag p)<|W p p (aA _) (fun g73=>wv<|ag p)<|bS H71 (fun k75 H76=>z_O (Z k75)<|gy H76 (gx (vs:=[a1]) (aC p k75)<|aZ (aC p k75) bX) p fun v29 _ H77=>J (aI p k75 p)<|ad<|av p H77 (fun k78 H79=>O<|U p<|ah<|F ⟨true,p,H79⟩) fun k78 H79=>ak<|ct () H79 (.cons p<|.cons p<|.cons p<|.nil _) .slnil) fun k75 H76=>Y (ax k75)<|J (ap p k75 p)<|ad<|rH p p<|ak<|ct () H76 (.cons p<|.cons p<|.cons p<|.nil _) .slnil) fun s46 _ H47=>O<|M p<|ad<|aw<|O<|aa<|aF H47 (gu p) p fun v32 _ H48=>J (aj p p)<|J (aj p p)<|ad<|av p H48 (fun k49 H50=>O<|U p<|O<|M p<|aa<|gy H50 (gx (vs:=[]) p p) p fun v36 _ H51=>U p<|O<|M p<|aa<|aF H51 (gL p p) p fun v38 _ H52=>ad<|av p H52 (fun k53 H54=>O<|U p<|ah<|F ⟨false,p,H54⟩) fun k53 H54=>ak<|bU v36 H54 (.cons p<|.cons p<|.cons p<|.nil _) .slnil) fun k49 H50=>O<|aa<|aF H50 (gu p) p fun v39 _ H55=>J (aj p p)<|J (aj p p)<|ad<|av p H55 (fun k56 H57=>O<|U p<|ai<|O<|M p<|aa<|gy H57 (gx (vs:=[]) p p) p fun v43 _ H58=>J (dh p underlying244 p)<|M p<|ad<|aw<|bv (step:=errors_is_l3 a1 a2 K v43) (fun s59=>[(1,a1),(2,(.bool a2)),(43,(sv v43)),(44,(.int .i64 (v43.len:Int))),(45,(.int .i64 s59))]) (fun s59=>[]) H58 (.cons p<|.cons p<|.cons p<|.cons p<|.cons p<|.nil _) .slnil fun Rec60 s59 _ H61=>O<|J (bZ p p)<|ad<|ai<|av p H61 (fun k62 H63=>ak<|ai<|aw<|O<|cm H63 fun q47 e64 h65 H66=>J (aW slc_244 (aJ p<|aM e64) p h65)<|aa<|aY H66 sc_159 p (fun _=>p) p fun x48 H67=>U p<|O<|M p<|M p<|M p<|aa<|G H67 en_149 fun r52 _ H68=>ad<|av p H68 (fun k69 H70=>O<|U p<|ah<|F ⟨true,p,H70⟩) fun k69 H70=>ak<|am<|J (bb p p)<|M p<|ad<|bU (i64.wrap (s59 + 1)) H70 (.cons p<|.cons p<|.cons p<|.cons p<|.cons p<|.nil _) .slnil) fun k62 H63=>bf<|O<|U p<|ah<|F ⟨false,p,H63⟩) fun k56 H57=>O<|U p<|O<|U p<|ah<|F ⟨false,p,H57⟩
def xE (a0:Value) (a1:Value) (K:kT Bool):hT:=hpv prog (do eqGuard .eql 159 (.tmp 6) (.const Value.nilIface) a0 Value.nilIface; binOp .eql 159 a0 Value.nilIface:Sem Value) aD fun (v7:Bool)=>br (!v7) ( hpv prog (do eqGuard .eql 159 (.tmp 9) (.const Value.nilIface) a1 Value.nilIface; binOp .eql 159 a1 Value.nilIface:Sem Value) aD fun (v10:Bool)=>br v10 ( hpv prog (do eqGuard .eql 159 (.tmp 12) (.tmp 13) a0 a1; binOp .eql 159 a0 a1:Sem Value) aD fun (v14:Bool)=>K v14) ( cln prog (callFunc gC #[a1]) encV fun (v16:Value)=>cln prog (callMethod v16 "Comparable" #[]) aD fun (v17:Bool)=>cl prog oG [a0,a1,(.bool v17)] aD fun r21=>K r21)) ( hpv prog (do eqGuard .eql 159 (.tmp 12) (.tmp 13) a0 a1; binOp .eql 159 a0 a1:Sem Value) aD fun (v14:Bool)=>K v14)
theorem sim_errors_Is (a0:Value) (a1:Value) {K:kT Bool} {h:Hp} (H:xE a0 a1 K h):cl prog oH [a0,a1] aD K h:=z_i func106 p p fun _=>O<|U p<|ai<|O<|M p<|aa<|aF H (gL p p) p fun v7 _ H1=>M p<|W p p (aL _) (fun g2=>wv<|ag p)<|bS H1 (fun k4 H5=>z_O (Z<|cg k4)<|aF H5 (gL (aC p k4) p) p fun v10 _ H6=>J (ap p (cg k4) p)<|ad<|av p H6 (fun k7 H8=>O<|M p<|M p<|aa<|aF H8 (gL p p) p fun v14 _ H9=>U p<|ah<|F ⟨v14,p,H9⟩) fun k7 H8=>ak<|O<|M p<|aa<|gy H8 (sJ (vs:=[a1]) p) p fun v16 _ H10=>aa<|gy H10 (gx (vs:=[]) p p) p fun v17 _ H11=>U p<|O<|M p<|M p<|M p<|aa<|G H11 en_149 fun r21 _ H12=>U p<|ah<|F ⟨r21,p,H12⟩) fun k4 H5=>Y (be<|bG k4)<|J (aI p (bG k4) p)<|ad<|gc p p<|O<|M p<|M p<|aa<|aF H5 (gL p p) p fun v14 _ H13=>U p<|ah<|F ⟨v14,p,H13⟩
end
section
open Go Mb
def sh_trap_Of (a0:Int) (K:kT Value):hT:=br (a0 == 0) ( K Value.nilIface) ( nw ow (ci.C (⟨a0,(-1),(⟨0,0,0,0,0⟩:al),Value.nilIface⟩:ci)) fun b7=>hpv prog (Instr.makeInterface bj (.pointer (some ⟨b7,0,none⟩))) encV fun (v8:Value)=>K v8)
theorem sim_trap_Of (a0:Int) {K:kT Value} {h:Hp} (H:sh_trap_Of a0 K h):cl prog kW [(.int .i64 a0)] iW K h:=z_i func107 p p fun _=>O<|U p<|ai<|O<|M p<|J (bM p p)<|ad<|av p H (fun k1 H2=>O<|U p<|ah<|F ⟨Value.nilIface,p,H2⟩) fun k1 H2=>ak<|O<|M p<|J (bg p<|build_216_0_1 a0 (-1))<|aa<|iF p p p H2 fun b7 _ H3=>aa<|aF H3 (gR p) p fun v8 _ H4=>U p<|ah<|F ⟨v8,p,H4⟩
def nr (K:kT (Ptr × Bool)) (b4:Nat) (s2:Bool):hT:=br s2 ( K (none,false)) ( ld (b4,0) cP fun x13=>K (x13,true))
def vF (a0:Value) (K:kT (Ptr × Bool)):hT:=nw bj [pv none] fun b4=>hpv prog (Instr.makeInterface bI (.pointer (some ⟨b4,0,none⟩))) encV fun (v6:Value)=>cl prog vi [a0,v6] aD fun r7=>br (!(!r7)) ( ld (b4,0) cP fun x10=>nr K b4 x10.isNone) ( nr K b4 true)
theorem sim_trap_First (a0:Value) {K:kT (Ptr × Bool)} {h:Hp} (H:vF a0 K h):cl prog kA [a0] ff K h:=z_i func181 p p fun _=>O<|J (ar p)<|U p<|O<|aa<|to_alloc zero_214 p p H fun b4 _ H1=>ad<|ai<|dY (nr K b4) (fun s2=>[(4,(.pointer (some ⟨b4,0,none⟩))),(12,(.bool s2))]) (fun s2=>[]) (am<|M p<|aa<|aF H1 (gR p) p fun v6 _ H7=>aa<|G H7 en_186 fun r7 _ H8=>J (cw p)<|M p<|bS H8 (fun k10 H11=>z_O (Z<|cg k10)<|aY H11 sc_214 p (fun _=>p) p fun x10 H12=>z_O (Z<|cg k10)<|z_p (cy underlying214 p)<|J (ap p (cg k10) p)<|ad<|ct x10.isNone H12 (.cons p<|.cons p<|.nil _) .slnil) fun k10 H11=>Y (be<|bG k10)<|Y (be<|bG k10)<|J (aI p (bG k10) p)<|ad<|ct true H11 (.cons p<|.cons p<|.nil _) .slnil) fun s2 _ H3=>av p H3 (fun k4 H5=>O<|J (ar p)<|U p<|ah<|bE (bW p (cj p)<|cj p) ⟨(none,false),p,H5⟩) fun k4 H5=>ak<|O<|aa<|aY H5 sc_214 p (fun _=>p) p fun x13 H6=>J (ar p)<|U p<|ah<|bE (bW p (cj p)<|cj p) ⟨(x13,true),p,H6⟩
def sh_trap_Code (a0:Value) (K:kT Int):hT:=hpv prog (do eqGuard .eql 159 (.tmp 5) (.const Value.nilIface) a0 Value.nilIface; binOp .eql 159 a0 Value.nilIface:Sem Value) aD fun (v6:Bool)=>br v6 ( K 0) ( cl prog kA [a0] ff fun r9=>br r9.2 ( nn r9.1 fun q14=>ld (q14.1,q14.2 + 0) (cI .i64) fun x16=>K x16) ( K 9))
theorem sim_trap_Code (a0:Value) {K:kT Int} {h:Hp} (H:sh_trap_Code a0 K h):cl prog uZ [a0] bn K h:=z_i func166 p p fun _=>O<|U p<|ai<|O<|M p<|aa<|aF H (gL p p) p fun v6 _ H1=>ad<|av p H1 (fun k2 H3=>O<|U p<|ah<|F ⟨0,p,H3⟩) fun k2 H3=>ak<|ai<|O<|M p<|aa<|G H3 en_181 fun r9 _ H4=>M p<|J (aj p p)<|J (aj p p)<|J (ar p)<|U p<|O<|M p<|ad<|av p H4 (fun k5 H6=>O<|M p<|bL H6 fun q14 e7 H8=>J (aP<|aJ p<|au e7)<|J (ae wL p)<|aa<|aY H8 py p (fun _=>p) p fun x16 H9=>U p<|ah<|F ⟨x16,p,H9⟩) fun k5 H6=>ak<|O<|U p<|ah<|F ⟨9,p,H6⟩
def sh_trap_In (a0:Int) (a1:al) (a2:Value) (K:kT Value):hT:=hpv prog (do eqGuard .eql 159 (.tmp 7) (.const Value.nilIface) a2 Value.nilIface; binOp .eql 159 a2 Value.nilIface:Sem Value) aD fun (v8:Bool)=>br v8 ( K Value.nilIface) ( cl prog uZ [a2] bn fun r10=>hpv prog (Instr.build ow #[(0,(.int .i64 r10)),(1,(.int .i64 a0)),(2,(.agg (al.C a1).toArray)),(3,a2)]) R_trap_Trap fun (v14:ci)=>nw ow (ci.C v14) fun b15=>hpv prog (Instr.makeInterface bj (.pointer (some ⟨b15,0,none⟩))) encV fun (v16:Value)=>K v16)
theorem sim_trap_In (a0:Int) (a1:al) (a2:Value) {K:kT Value} {h:Hp} (H:sh_trap_In a0 a1 a2 K h):cl prog n_trap_In [(.int .i64 a0),(.agg (al.C a1).toArray),a2] iW K h:=z_i func143 p p fun _=>O<|aa<|cz (l:=al.C a1) p p p fun b4=>U p<|ai<|O<|M p<|aa<|aF H (gL p p) p fun v8 _ H1=>ad<|av p H1 (fun k2 H3=>O<|U p<|ah<|F ⟨Value.nilIface,p,H3⟩) fun k2 H3=>ak<|ai<|bk (n:=9) [bx b4 33 (al.C a1)] ch p (.cons_cons _ .slnil)<|V 0 p (ag p)<|V 2 p (ag p)<|z_E 3 p (eP (k:=0) fS p p p p)<|V 4 p (ag p)<|R 1 p<|G H3 en_166 fun r10 _ H4=>⟨.cons_cons _ .slnil,R 5 p<|aF H4 (x_build (vs:=[(.int .i64 r10),(.int .i64 a0),(.agg (al.C a1).toArray),a2]) p) p fun v14 _ H5=>⟨.cons_cons _ .slnil,R 6 p<|iF p p p H5 fun b15 _ H6=>⟨.cons_cons _ .slnil,R 7 p<|aF H6 (gR p) p fun v16 _ H7=>⟨.cons_cons _ .slnil,V 8 p (ar p)<|aG (by kernel_rfl)<|ah<|F ⟨v16,p,H7⟩⟩⟩⟩⟩
def ns (K:kT Int) (Rec3:kT (Int × Ptr × Bool)) (s2:Int × Ptr × Bool):hT:=br s2.2.2 ( nn s2.2.1 fun q14=>ld (q14.1,q14.2 + 7) cV fun x16=>cl prog kA [x16] ff fun r17=>Rec3 ((i64.wrap (s2.1 + 1)),r17.1,r17.2)) ( K s2.1)
def sh_trap_Depth (a0:Value) (K:kT Int):hT:=cl prog kA [a0] ff fun r8=>Lp (ns K) (0,r8.1,r8.2)
theorem sim_trap_Depth (a0:Value) {K:kT Int} {h:Hp} (H:sh_trap_Depth a0 K h):cl prog xL [a0] eN K h:=z_i func187 p p fun _=>O<|U p<|O<|U p<|ai<|O<|M p<|aa<|G H en_181 fun r8 _ H1=>M p<|J (aj p p)<|J (aj p p)<|J (ar p)<|U p<|aw<|bv (step:=ns K) (fun s2=>[(3,(.int .i64 s2.1)),(4,(pv s2.2.1)),(5,(.bool s2.2.2))]) (fun s2=>[]) H1 (.cons p<|.cons p<|.cons p<|.nil _) .slnil fun Rec3 s2 _ H4=>ai<|O<|M p<|ad<|av p H4 (fun k5 H6=>ak<|ai<|aw<|am<|M p<|J (bb p p)<|U p<|am<|M p<|bL H6 fun q14 e7 H8=>J (aP<|aJ p<|au e7)<|J (ae fld_216_3 p)<|aa<|aY H8 sc_159 p (fun _=>p) p fun x16 H9=>aa<|G H9 en_181 fun r17 _ H10=>M p<|J (aj p p)<|J (aj p p)<|J (ar p)<|U p<|bU ((i64.wrap (s2.1 + 1)),r17.1,r17.2) H10 (.cons p<|.cons p<|.cons p<|.nil _) .slnil) fun k5 H6=>bf<|O<|M p<|U p<|ah<|F ⟨s2.1,p,H6⟩
def nT (a0:Ptr) (K:kT ByteArray):hT:=br a0.isNone ( K (⟨#[]⟩:ByteArray)) ( nn a0 fun q7=>ld (q7.1,q7.2 + 0) (cI .i64) fun x9=>cl prog tQ [(.int .i64 x9)] eJ fun r10=>hpv prog (do eqGuard .add 9 (.const (.string (⟨#[116,114,97,112,32]⟩:ByteArray))) (.tmp 10) (.string (⟨#[116,114,97,112,32]⟩:ByteArray)) (.string r10); binOp .add 9 (.string (⟨#[116,114,97,112,32]⟩:ByteArray)) (.string r10):Sem Value) eJ fun (v11:ByteArray)=>ld (q7.1,q7.2 + 7) cV fun x15=>hpv prog (do eqGuard .neq 159 (.tmp 15) (.const Value.nilIface) x15 Value.nilIface; binOp .neq 159 x15 Value.nilIface:Sem Value) aD fun (v16:Bool)=>br v16 ( ld (q7.1,q7.2 + 7) cV fun x21=>cln prog (callMethod x21 "Error" #[]) eJ fun (v22:ByteArray)=>hpv prog (do eqGuard .add 9 (.const (.string (⟨#[58,32]⟩:ByteArray))) (.tmp 22) (.string (⟨#[58,32]⟩:ByteArray)) (.string v22); binOp .add 9 (.string (⟨#[58,32]⟩:ByteArray)) (.string v22):Sem Value) eJ fun (v23:ByteArray)=>hpv prog (do eqGuard .add 9 (.tmp 17) (.tmp 23) (.string v11) (.string v23); binOp .add 9 (.string v11) (.string v23):Sem Value) eJ fun (v24:ByteArray)=>K v24) ( K v11))
theorem sf (a0:Ptr) {K:kT ByteArray} {h:Hp} (H:nT a0 K h):cl prog jo [(pv a0)] eJ K h:=z_i func213 p p fun _=>O<|U p<|ai<|O<|M p<|J (cy underlying214 p)<|ad<|av p H (fun k1 H2=>O<|U p<|ah<|F ⟨(⟨#[]⟩:ByteArray),p,H2⟩) fun k1 H2=>ak<|O<|M p<|bL H2 fun q7 e3 H4=>J (aP<|aJ p<|au e3)<|J (ae wL p)<|aa<|aY H4 py p (fun _=>p) p fun x9 H5=>aa<|G H5 en_216 fun r10 _ H6=>aa<|aF H6 (gL p p) p fun v11 _ H7=>U p<|ai<|O<|M (aJ p<|au e3)<|J (aP p)<|J (ae fld_216_3 p)<|aa<|aY H7 sc_159 p (fun _=>p) p fun x15 H8=>aa<|aF H8 (gL p p) p fun v16 _ H9=>ad<|av p H9 (fun k10 H11=>am<|M p<|M (aJ p<|au e3)<|J (aP p)<|J (ae fld_216_3 p)<|aa<|aY H11 sc_159 p (fun _=>p) p fun x21 H12=>aa<|gy H12 (gx (vs:=[]) p p) p fun v22 _ H13=>aa<|aF H13 (gL p p) p fun v23 _ H14=>aa<|aF H14 (gL p p) p fun v24 _ H15=>U p<|O<|M p<|U p<|ah<|F ⟨v24,p,H15⟩) fun k10 H11=>ak<|O<|M p<|U p<|ah<|F ⟨v11,p,H11⟩
def sh_trap_Trap_Is (a0:Ptr) (a1:Value) (K:kT Bool):hT:=hpv prog (Instr.typeAssert a1 gM bj true) ff fun (v9:Ptr × Bool)=>br v9.2 ( br (!a0.isNone) ( br (!v9.1.isNone) ( nn a0 fun q23=>nn v9.1 fun q27=>ld (q23.1,q23.2 + 0) (cI .i64) fun x25=>ld (q27.1,q27.2 + 0) (cI .i64) fun x29=>K (x25 == x29)) ( K false)) ( K false)) ( K false)
theorem sim_trap_Trap_Is (a0:Ptr) (a1:Value) {K:kT Bool} {h:Hp} (H:sh_trap_Trap_Is a0 a1 K h):cl prog tO [(pv a0),a1] aD K h:=z_i func214 p p fun _=>O<|U p<|O<|M p<|aa<|aF H (gu p) p fun v9 _ H1=>M p<|J (aj p p)<|J (aj p p)<|J (ar p)<|U p<|ai<|bk (n:=21) [] ch p .slnil<|V 0 p (ag p)<|V 1 p (ag p)<|dX H1 (fun k2 H3=>I 2 p (Z k2) (ve<|ag p)<|I 3 p (Z k2) (ve<|v_pneT underlying214 p)<|V 4 p (aI p k2 p)<|V 5 p (ag p)<|dX H3 (fun k4 H5=>I 6 p (Z k4) (ve<|ag p)<|I 7 p (Z k4) (ve<|v_pneT underlying214 p)<|V 8 p (aI p k4 p)<|V 9 p (ag p)<|dX H5 (fun k6 H7=>I 10 p (Z k6) (ve<|ag p)<|I 14 p (Z k6) (ve<|ag p)<|ip H7 fun q23 e8 H9=>I 11 p (Z k6) (ve<|aP<|aJ p<|au e8)<|I 12 p (Z k6) (ve<|ae wL p)<|ip H9 fun q27 e10 H11=>I 15 p (Z k6) (ve<|aP<|aJ p<|au e10)<|I 16 p (Z k6) (ve<|ae wL p)<|cD (i:=13) (fun _ _ _ _ hh=>hh) H11 p (by kernel_rfl) p p p (Z k6) py p (fun _=>p) p fun x25 H12=>cD (i:=17) (fun _ _ _ _ hh=>hh) H12 p (by kernel_rfl) p p p (Z k6) py p (fun _=>p) p fun x29 H13=>I 18 p (Z k6) (ve<|bM p p)<|V 19 p (aI p k6 p)<|V 20 p (ar p)<|aG (by kernel_rfl)<|ah<|F ⟨(x25 == x29),p,H13⟩) fun k6 H7=>D 10 p (ax k6)<|D 11 p (ax k6)<|D 12 p (ax k6)<|D 13 p (ax k6)<|D 14 p (ax k6)<|D 15 p (ax k6)<|D 16 p (ax k6)<|D 17 p (ax k6)<|D 18 p (ax k6)<|V 19 p (ap p k6 p)<|V 20 p (ar p)<|aG (by kernel_rfl)<|ah<|F ⟨false,p,H7⟩) fun k4 H5=>D 6 p (ax k4)<|D 7 p (ax k4)<|V 8 p (ap p k4 p)<|V 9 p (ag p)<|D 10 p p<|D 11 p p<|D 12 p p<|D 13 p p<|D 14 p p<|D 15 p p<|D 16 p p<|D 17 p p<|D 18 p p<|V 19 p (ap p p p)<|V 20 p (ar p)<|aG (by kernel_rfl)<|ah<|F ⟨false,p,H5⟩) fun k2 H3=>D 2 p (ax k2)<|D 3 p (ax k2)<|V 4 p (ap p k2 p)<|V 5 p (ag p)<|D 6 p p<|D 7 p p<|V 8 p (ap p p p)<|V 9 p (ag p)<|D 10 p p<|D 11 p p<|D 12 p p<|D 13 p p<|D 14 p p<|D 15 p p<|D 16 p p<|D 17 p p<|D 18 p p<|V 19 p (ap p p p)<|V 20 p (ar p)<|aG (by kernel_rfl)<|ah<|F ⟨false,p,H3⟩
def sg (a0:Ptr) (K:kT Value):hT:=br a0.isNone ( K Value.nilIface) ( nn a0 fun q6=>ld (q6.1,q6.2 + 7) cV fun x8=>K x8)
theorem sim_trap_Trap_Unwrap (a0:Ptr) {K:kT Value} {h:Hp} (H:sg a0 K h):cl prog nV [(pv a0)] iW K h:=z_i func215 p p fun _=>O<|U p<|ai<|O<|M p<|J (cy underlying214 p)<|ad<|av p H (fun k1 H2=>O<|U p<|ah<|F ⟨Value.nilIface,p,H2⟩) fun k1 H2=>ak<|O<|M p<|bL H2 fun q6 e3 H4=>J (aP<|aJ p<|au e3)<|J (ae fld_216_3 p)<|aa<|aY H4 sc_159 p (fun _=>p) p fun x8 H5=>U p<|ah<|F ⟨x8,p,H5⟩
end
section
open Go Mb
variable {ET:Nat} {EF:Nat × Nat}
abbrev dK (b:Nat):Value:=.iface bj (.pointer (some ⟨b,0,none⟩))
theorem g0:prog.globals.size = 4:=by kernel_rfl
theorem g1:typeHandle prog bj = pv (some (4,bj)):=by kernel_rfl
theorem g2:(prog.globals[0]?).map (·.type) = some 211:=by kernel_rfl
theorem oneErr:((List.range 318).filter fun t=>prog.rowNamed t [101,114,114,111,114]) = [159]:=by kernel_rfl
theorem g4:prog.types.size = 318:=by kernel_rfl
abbrev rtV (T:Nat):Value:=.iface se (.agg #[pv (some (4,T))])
abbrev vl (T c f:Nat):aQ:=⟨some (4,T),some (c,0),f⟩
abbrev vlV (T c f:Nat):Value:=.agg (aQ.C (vl T c f)).toArray
section
variable (b:Nat) (K:Next->Hp->Prop) (h:Hp)
theorem x7:hp prog (callFunc gC #[dK b]) K h = K (.value (rtV bj)) h:=by kernel_rfl
theorem x8:hp prog (callFunc de #[.iface bI (.pointer (some ⟨b,0,none⟩))]) K h = (true = true/\∀ e,h e = none->K (.value (vlV bI e 150)) (fx h e (.cells #[pv (some (b,0))] bI (0,0)))):=by kernel_rfl
theorem x8':hp prog (callFunc de #[dK b]) K h = (true = true/\∀ e,h e = none->K (.value (vlV bj e 150)) (fx h e (.cells #[pv (some (b,0))] bj (0,0)))):=by kernel_rfl
theorem x10:hp prog (callMethod (rtV bI) "Kind" #[]) K h = K (.value (.int .u8 22)) h:=by kernel_rfl
theorem x11:hp prog (callMethod (rtV bI) "Elem" #[]) K h = K (.value (rtV bj)) h:=by kernel_rfl
theorem x12:hp prog (callMethod (rtV bj) "Kind" #[]) K h = K (.value (.int .u8 22)) h:=by kernel_rfl
theorem x13:hp prog (callMethod (rtV bj) "Comparable" #[]) K h = K (.value (.bool true)) h:=by kernel_rfl
theorem x14:hp prog (callMethod (rtV bj) "AssignableTo" #[rtV bj]) K h = K (.value (.bool true)) h:=by kernel_rfl
theorem x15 (c:Nat):hp prog (callFunc iY #[vlV bI c 150]) K h = K (.value (rtV bI)) h:=by kernel_rfl
theorem x16 (c:Nat):hp prog (callFunc fB #[vlV bI c 150]) K h =
 hp prog (do let r ← Extern.ReflectliteValue.isNil bI ⟨c,0,none⟩ 150 22; pure (.value r)) K h:=by kernel_rfl
theorem x17:hp prog (callMethod (rtV bj) "Implements" #[rtV gM]) K h = K (.value (.bool true)) h:=by kernel_rfl
theorem x18 (c:Nat):hp prog (callFunc fK #[vlV bI c 150]) K h =
 hp prog (do let r ← Extern.ReflectliteValue.elem bI ⟨c,0,none⟩ 150 22; pure (.value r)) K h:=by kernel_rfl
theorem x19 (c d:Nat):hp prog (callFunc fQ #[vlV bj c 406,vlV bj d 150]) K h =
 hp prog (do let r ← (do let v ← loadVar bj ⟨d,0,none⟩; storeVar bj ⟨c,0,none⟩ v; pure (Value.tuple #[])); pure (.value r)) K h:=by kernel_rfl
theorem y1 (c:Nat) (K:Value->Hp->Prop):hp prog (loadVar bI ⟨c,0,none⟩) K h = ∃ v,lL h ⟨c,0,none⟩ = some v/\K v h:=by kernel_rfl
theorem y2 (c:Nat) (K:Value->Hp->Prop):hp prog (loadVar bj ⟨c,0,none⟩) K h = ∃ v,lL h ⟨c,0,none⟩ = some v/\K v h:=by kernel_rfl
theorem y3 (b:Nat) (K:Value->Hp->Prop):hp prog (Extern.ReflectliteValue.mk bj ⟨b,0,none⟩ Extern.ReflectliteValue.flagAddr) K h = K (vlV bj b 406) h:=by kernel_rfl
theorem y4 (K:Option TypeId->Hp->Prop):hp prog (Extern.Rtype.elem? bI) K h = K (some bj) h:=by kernel_rfl
theorem y5 (b c:Nat) (K:Unit->Hp->Prop):hp prog (storeVar bj ⟨c,0,none⟩ (.pointer (some ⟨b,0,none⟩))) K h = hp prog (storeCells ⟨c,0,none⟩ [.pointer (some ⟨b,0,none⟩)]) K h:=by kernel_rfl
theorem y6 (K:Value->Hp->Prop) {a b n m:Nat}:hp prog (do eqGuard .eql 159 (.tmp n) (.tmp m) (dK a) (dK b); binOp .eql 159 (dK a) (dK b):Sem Value) K h = hp prog (do let r ← sameAddr ⟨a,0,none⟩ ⟨b,0,none⟩; pure (.bool r)) K h:=by kernel_rfl
theorem x25 (K:Bool->Hp->Prop) {a b:Nat} {ca cb:List Value} {Ta Tb:Nat} (ha:h a = some (.cells ca.toArray Ta (0,0))) (hb:h b = some (.cells cb.toArray Tb (0,0))) (H:K (a == b) h):hp prog (sameAddr ⟨a,0,none⟩ ⟨b,0,none⟩) K h:=by
 unfold sameAddr;rcases Decidable.em (a = b) with e | e
 ·subst e;rw [if_pos (by simp)];have H':K true h:=by simpa using H
  simpa [hp_pure] using H'
 ·rw [if_neg (by simpa using e)];have fa:∀ (K:Bool->Hp->Prop) (o:Nat),hp prog (frozen ⟨a,o,none⟩) K h↔K false h:=fun K o =>
   ⟨fun ⟨o',h1,h2⟩=>by rw [ha] at h1; cases h1; simpa [hp,uW] using h2,fun h2=>⟨_,ha,by simpa [hp,uW] using h2⟩⟩
  have fb:∀ (K:Bool->Hp->Prop) (o:Nat),hp prog (frozen ⟨b,o,none⟩) K h↔K false h:=fun K o =>
   ⟨fun ⟨o',h1,h2⟩=>by rw [hb] at h1; cases h1; simpa [hp,uW] using h2,fun h2=>⟨_,hb,by simpa [hp,uW] using h2⟩⟩
  have sa:∀ (K:Option (TypeId × Nat)->Hp->Prop),hp prog (shape a) K h↔K (some (Ta,ca.length)) h:=fun K =>
   ⟨fun ⟨o',h1,h2⟩=>by rw [ha] at h1; cases h1; simpa [hp,oshape] using h2,fun h2=>⟨_,ha,by simpa [hp,oshape] using h2⟩⟩
  have sb:∀ (K:Option (TypeId × Nat)->Hp->Prop),hp prog (shape b) K h↔K (some (Tb,cb.length)) h:=fun K =>
   ⟨fun ⟨o',h1,h2⟩=>by rw [hb] at h1; cases h1; simpa [hp,oshape] using h2,fun h2=>⟨_,hb,by simpa [hp,oshape] using h2⟩⟩
  have eb:(a == b) = false:=by simpa using e
  rw [eb] at H;simp [db,fa,fb,sa,sb,noView,viewAt,mayBeOne,stringish,hp_pure,H]
end
section
variable {P:Program} {τ:Type} {enc:τ->Value} {K:τ->Hp->Prop} {h:Hp}
theorem fR {m:Sem Value} (r:τ) (e:∀ (K:Value->Hp->Prop) h,hp P m K h = K (enc r) h) (k:K r h):hpv P m enc K h:=⟨by rw [e]; exact ⟨r,rfl,k⟩⟩
theorem uh {m:Sem Next} (r:τ) (e:∀ (K:Next->Hp->Prop) h,hp P m K h = K (.value (enc r)) h) (k:K r h):cln P m enc K h:=⟨by rw [e]; exact .inl ⟨r,rfl,k⟩⟩
theorem cln_en {m:Sem Next} {f:FuncId} {vs:List Value} (e:∀ (K:Next->Hp->Prop) h,hp P m K h = K (.enter f vs.toArray) h) (k:cl P f vs enc K h):cln P m enc K h:=⟨by rw [e]; exact .inr ⟨f,_,rfl,k⟩⟩
end
abbrev etB (ET:Nat) (EF:Nat × Nat):As:=obj 0 (.cells #[rtV gM] ET EF)
abbrev trB (b:Nat) (t:ci):As:=blk b ow (ci.C t)
theorem en_0 (b n:Nat) (K:Value->Hp->Prop) (h:Hp):hp prog (do eqGuard .eql 159 (.tmp n) (.const Value.nilIface) (dK b) Value.nilIface; binOp .eql 159 (dK b) Value.nilIface:Sem Value) K h = K (.bool false) h:=by kernel_rfl
theorem en_00 (n:Nat) (K:Value->Hp->Prop) (h:Hp):hp prog (do eqGuard .eql 159 (.tmp n) (.const Value.nilIface) Value.nilIface Value.nilIface; binOp .eql 159 Value.nilIface Value.nilIface:Sem Value) K h = K (.bool true) h:=by kernel_rfl
theorem en_1 (b n:Nat) (K:Value->Hp->Prop) (h:Hp):hp prog (do eqGuard .eql 20 (.tmp n) (.const Value.nilIface) (.iface bI (.pointer (some ⟨b,0,none⟩))) Value.nilIface; binOp .eql 20 (.iface bI (.pointer (some ⟨b,0,none⟩))) Value.nilIface:Sem Value) K h = K (.bool false) h:=by kernel_rfl
theorem sp_As_nil (v:Value):Sp prog vi [Value.nilIface,v] aD [] (fun r=>pa_ (r = false) []):=by
 intro h st;refine sim_errors_As _ _ ?_;unfold xF;exact fR true (en_00 _) (eG rfl (ba rfl st))
section
variable {h:Hp} {b c d:Nat}
theorem c22 {K:Bool->Hp->Prop} (e:lL h ⟨c,0,none⟩ = some (.pointer (some ⟨b,0,none⟩))) (H:K false h):cln prog (callFunc fB #[vlV bI c 150]) aD K h:=by
 constructor;rw [x16,db];unfold Extern.ReflectliteValue.isNil;rw [if_neg (by decide)];rw [db,y1]; exact ⟨_,e,.inl ⟨false,rfl,H⟩⟩
theorem c23 {K:aQ->Hp->Prop} (e:lL h ⟨c,0,none⟩ = some (.pointer (some ⟨b,0,none⟩))) (H:K (vl bj b 406) h):cln prog (callFunc fK #[vlV bI c 150]) fV K h:=by
 constructor;rw [x18,db];unfold Extern.ReflectliteValue.elem;rw [if_neg (by decide),db,y1];refine ⟨_,e,?_⟩;rw [db,y4];show hp _ (Extern.ReflectliteValue.mk _ _ _) _ h;rw [y3]; exact .inl ⟨_,rfl,H⟩
theorem c24 {K:Unit->Hp->Prop} (e:lL h ⟨d,0,none⟩ = some (.pointer (some ⟨b,0,none⟩))) (H:hp prog (storeCells ⟨c,0,none⟩ [.pointer (some ⟨b,0,none⟩)]) (fun _=>K ()) h):cln prog (callFunc fQ #[vlV bj c 406,vlV bj d 150]) R_ K h:=by
 constructor;rw [x19,db,db,y2]; refine ⟨_,e,?_⟩;rw [db,y5]; exact hp_mono _ (fun _ _ k=>.inl ⟨(),rfl,k⟩) _ H
theorem c8 {K:aQ->Hp->Prop} (H:∀ e,h e = none->K (vl bI e 150) (fx h e (.cells #[pv (some (b,0))] bI (0,0)))):cln prog (callFunc de #[.iface bI (.pointer (some ⟨b,0,none⟩))]) fV K h:=by
 constructor;rw [x8];exact ⟨rfl,fun e he=>.inl ⟨_,rfl,H e he⟩⟩
theorem c8' {K:aQ->Hp->Prop} (H:∀ e,h e = none->K (vl bj e 150) (fx h e (.cells #[pv (some (b,0))] bj (0,0)))):cln prog (callFunc de #[dK b]) fV K h:=by
 constructor;rw [x8'];exact ⟨rfl,fun e he=>.inl ⟨_,rfl,H e he⟩⟩
end
theorem blk_cell {l:List As} {h:Hp} {i b:Nat} {T:TypeId} {c:List Value} {v:Value} (hi:l[i]? = some (blk b T c)) (hv:c[0]? = some v) (s:ay l h):lL h ⟨b,0,none⟩ = some v:=by
 obtain ⟨g1,a1,sub1⟩:=dZ hi s;have:=sub1 _ _ a1;unfold lL;rw [this];simpa using hv
theorem sp_as (b c d:Nat) (p:Ptr):Sp prog vh [dK b,.iface bI (.pointer (some ⟨c,0,none⟩)),vlV bI d 150,rtV bj] aD
  [blk c bj [pv p],blk d bI [pv (some (c,0))]] (fun r=>pa_ (r = true) [blk c bj [pv (some (b,0))]]):=by
 intro h st;refine sim_errors_as _ _ _ _ ?_;unfold sh_errors_as;refine ⟨fun s h=>s = dK b/\ay [blk c bj [pv p],blk d bI [pv (some (c,0))]] h,fun _ _=>0,⟨rfl,st⟩,?_⟩;rintro _ h1 ⟨rfl,s1⟩;unfold xY;refine uh (rtV bj) (fun K h=>x7 b K h) ?_;refine uh true (fun K h=>x14 K h) (eG rfl ?_);refine c23 (blk_cell (i:=1) rfl rfl s1) ?_;refine c8' fun e he=>?_;have s2:ay (blk e bj [pv (some (b,0))]::_) _:=new_s (o:=.cells #[pv (some (b,0))] bj (0,0)) s1 he;refine c24 (blk_cell (i:=0) (T:=bj) (c:=[pv (some (b,0))]) rfl rfl s2) ?_;obtain ⟨g2,a2,sub2⟩:=dZ (i:=1) (A:=blk c bj [pv p]) rfl s2;refine hp_storeCells _ 0 0 [pv p] _ (sub2 _ _ a2) (by simp) rfl ?_;have s3:ay (_::blk c bj [pv (some (b,0))]::_) _:=obj_set (o':=.cells #[pv (some (b,0))] bj (0,0)) (i:=1) s2 rfl;exact ba rfl (ce (l:=[_,_]) (bd [0,1] s3 rfl))
theorem sp_As (b c:Nat) (p:Ptr):Sp prog vi [dK b,.iface bI (.pointer (some ⟨c,0,none⟩))] aD
  [(etB ET EF),blk c bj [pv p]] (fun r=>pa_ (r = true) [(etB ET EF),blk c bj [pv (some (b,0))]]):=by
 intro h st;refine sim_errors_As _ _ ?_;unfold xF;refine fR false (en_0 b _) (dN rfl ?_);refine fR false (en_1 c _) (dN rfl ?_);unfold yb;refine c8 fun e he=>?_;have s2:ay (blk e bI [pv (some (c,0))]::_) _:=new_s (o:=.cells #[pv (some (c,0))] bI (0,0)) st he;refine uh (rtV bI) (fun K h=>x15 K h e) ?_;refine uh 22 (fun K h=>x10 K h) (eG rfl ?_);refine c22 (blk_cell (i:=0) (T:=bI) (c:=[pv (some (c,0))]) rfl rfl s2) (dN rfl ?_);unfold ya;refine uh (rtV bj) (fun K h=>x11 K h) ?_;refine uh 22 (fun K h=>x12 K h) (eG rfl ?_);obtain ⟨g3,a3,sub3⟩:=dZ (i:=1) (A:=etB ET EF) rfl s2;refine ⟨rtV gM,⟨_,_,_,sub3 _ _ a3,fun i v hv=>?_⟩,?_⟩
 ·rcases i with _ | i <;> first | exact hv | simp [cV] at hv
 refine uh true (fun K h=>x17 K h) (dN rfl ?_);unfold ta;refine cW [2,0,1] (rest:=[(etB ET EF)]) (sp_as b c e p) s2 rfl fun r h' s3=>?_;obtain ⟨rfl,s4⟩:=bA.1 s3;exact ba rfl (bd [1,0] s4 rfl)
abbrev firstOf (b:Nat):Ptr × Bool:=(some (b,0),true)
theorem sp_First (b:Nat):Sp prog kA [dK b] ff [(etB ET EF)] (fun r=>pa_ (r = firstOf b) [(etB ET EF)]):=by
 intro h st;refine sim_trap_First _ ?_;unfold vF;refine pC st fun c h1 s1=>?_;refine fR (.iface bI (.pointer (some ⟨c,0,none⟩))) (fun K h=>by kernel_rfl) ?_;refine cW [1,0] (rest:=[]) (sp_As b c none) s1 rfl fun r h' s2=>?_;obtain ⟨rfl,s3⟩:=bA.1 s2;refine eG rfl ?_;refine bt (some (b,0)) s3 (i:=1) rfl rfl rfl ?_;unfold nr;refine dN rfl ?_;refine bt (some (b,0)) s3 (i:=1) rfl rfl rfl ?_;exact ba rfl (ce (l:=[_]) (bd [1] s3 rfl))
theorem sp_First_nil:Sp prog kA [Value.nilIface] ff [] (fun r=>pa_ (r = (none,false)) []):=by
 intro h st;refine sim_trap_First _ ?_;unfold vF;refine pC st fun c h1 s1=>?_;refine fR (.iface bI (.pointer (some ⟨c,0,none⟩))) (fun K h=>by kernel_rfl) ?_;refine ut (sp_As_nil _) s1 fun r h' hr s2=>?_;subst hr;refine dN rfl ?_;unfold nr;exact eG rfl (ba rfl trivial)
theorem sp_Of (n:Int) (hn:n ≠ 0):Sp prog kW [.int .i64 n] iW [] (fun r=>ex fun b=>pa_ (r = dK b) [trB b ⟨n,-1,⟨0,0,0,0,0⟩,.nilIface⟩]):=by
 intro h st;refine sim_trap_Of _ ?_;unfold sh_trap_Of;refine dN (by simpa using hn) ?_;refine pC st fun b h1 s1=>?_;refine fR (dK b) (fun K h=>by kernel_rfl) ?_;exact ⟨b,ba rfl s1⟩
theorem sp_Of0:Sp prog kW [.int .i64 0] iW [] (fun r=>pa_ (r = Value.nilIface) []):=by
 intro h st;refine sim_trap_Of _ ?_;unfold sh_trap_Of;exact eG rfl (ba rfl st)
theorem sp_Code (b:Nat) (t:ci):Sp prog uZ [dK b] bn [(etB ET EF),trB b t] (fun r=>pa_ (r = t.fUa) [(etB ET EF),trB b t]):=by
 intro h st;refine sim_trap_Code _ ?_;unfold sh_trap_Code;refine fR false (en_0 b _) (dN rfl ?_);refine cc (i:=0) (sp_First b) rfl st fun r h' hr s2=>?_;subst hr;refine eG rfl (cL ?_);refine bt t.fUa s2 (i:=1) rfl rfl rfl ?_;exact ba rfl s2
theorem sp_In (env:Int) (c:al) (b:Nat) (t:ci):Sp prog n_trap_In [.int .i64 env,.agg (al.C c).toArray,dK b] iW [(etB ET EF),trB b t]
  (fun r=>ex fun e=>pa_ (r = dK e) [trB e ⟨t.fUa,env,c,dK b⟩,(etB ET EF),trB b t]):=by
 intro h st;refine sim_trap_In _ _ _ ?_;unfold sh_trap_In;refine fR false (en_0 b _) (dN rfl ?_);refine cW [] (rest:=[]) (sp_Code b t) st (List.append_nil _).symm fun r h' s2=>?_;obtain ⟨rfl,s3⟩:=bA.1 s2;refine fR ⟨t.fUa,env,c,dK b⟩ (fun K h=>by kernel_rfl) ?_;refine pC s3 fun e h1 s4=>?_;refine fR (dK e) (fun K h=>by kernel_rfl) ?_;exact ⟨e,ba rfl s4⟩
theorem sp_Depth2 (b e:Nat) (t u:ci) (ht:t.fSa = dK e) (hu:u.fSa = Value.nilIface):Sp prog xL [dK b] eN [(etB ET EF),trB b t,trB e u] (fun r=>pa_ (r = 2) [(etB ET EF),trB b t,trB e u]):=by
 intro h st;refine sim_trap_Depth _ ?_;unfold sh_trap_Depth;refine cc (i:=0) (sp_First b) rfl st fun r h' hr s2=>?_;subst hr;refine ⟨fun s h=>(s = (0,some (b,0),true)\/s = (1,some (e,0),true)\/s = (2,none,false))/\ay [(etB ET EF),trB b t,trB e u] h,fun s _=>3 - s.1.toNat,⟨.inl rfl,s2⟩,?_⟩;rintro s h1 ⟨rfl | rfl | rfl,s3⟩
 ·unfold ns;refine eG rfl (cL ?_);refine bt t.fSa s3 (i:=1) rfl rfl rfl ?_;rw [ht];refine cc (i:=0) (sp_First e) rfl s3 fun r h' hr s4=>?_;subst hr;exact ⟨⟨.inr (.inl rfl),s4⟩,Nat.le_of_ble_eq_true rfl⟩
 ·unfold ns;refine eG rfl (cL ?_);refine bt u.fSa s3 (i:=2) rfl rfl rfl ?_;rw [hu];refine ut sp_First_nil s3 fun r h' hr s4=>?_;subst hr;exact ⟨⟨.inr (.inr rfl),s4⟩,Nat.le_of_ble_eq_true rfl⟩
 ·unfold ns;exact dN rfl (ba rfl s3)
end
section
open Go Mb
def sh_strconv_Itoa (a0:Int) (K:kT ByteArray):hT:=cl prog jX [(.int .i64 a0)] eJ fun r4=>K r4
theorem sim_strconv_Itoa (a0:Int) {K:kT ByteArray} {h:Hp} (H:sh_strconv_Itoa a0 K h):cl prog tQ [(.int .i64 a0)] eJ K h:=z_i func216 p p fun _=>O<|U p<|O<|M p<|aa<|G H en_217 fun r4 _ H1=>U p<|ah<|F ⟨r4,p,H1⟩
end
section
open Go Mb
def mX (a0:Int) (K:kT ByteArray):hT:=br (decide (a0 < 10)) ( hpv prog (Instr.sliceAt vY (.string str_73df774b) (some (.int .i64 a0)) (some (.int .i64 (i64.wrap (a0 + 1)))) none) eJ fun (v8:ByteArray)=>K v8) ( hpv prog (Instr.sliceAt vY (.string str_e9752c08) (some (.int .i64 (i64.wrap (a0 * 2)))) (some (.int .i64 (i64.wrap ((i64.wrap (a0 * 2)) + 2)))) none) eJ fun (v14:ByteArray)=>K v14)
theorem tx (a0:Int) {K:kT ByteArray} {h:Hp} (H:mX a0 K h):cl prog jC [(.int .i64 a0)] eJ K h:=z_i func219 p p fun _=>O<|U p<|ai<|O<|M p<|J (bZ p p)<|ad<|av p H (fun k1 H2=>O<|M p<|M p<|J (bb p p)<|aa<|aF H2 (cT p p p p p) p fun v8 _ H3=>U p<|ah<|F ⟨v8,p,H3⟩) fun k1 H2=>ak<|O<|M p<|J (v_mul p p)<|M p<|J (v_mul p p)<|J (bb p p)<|aa<|aF H2 (cT p p p p p) p fun v14 _ H4=>U p<|ah<|F ⟨v14,p,H4⟩
def gE (a0:Int) (K:kT ByteArray) (b5:Nat) (s9:Int):hT:=cl prog rU [(.int .u64 s9)] eN fun r27=>hpv prog (Instr.sliceAt xe (.pointer (some ⟨b5,0,none⟩)) (some (.int .i64 1)) (some (.int .i64 (i64.wrap (1 + r27)))) none) R_Suint8 fun (v30:Sl)=>cl prog qc [(sv v30),(.int .u64 s9)] R_ fun (_:Unit)=>br (decide (a0 < 0)) ( st (b5,0) [.int .u8 45]<|hpv prog (Instr.sliceAt xe (.pointer (some ⟨b5,0,none⟩)) none (some (.int .i64 (i64.wrap (1 + r27)))) none) R_Suint8 fun (v38:Sl)=>hpv prog (convert 296 9 (sv v38)) eJ fun (v39:ByteArray)=>K v39) ( hpv prog (Instr.sliceAt xe (.pointer (some ⟨b5,0,none⟩)) (some (.int .i64 1)) (some (.int .i64 (i64.wrap (1 + r27)))) none) R_Suint8 fun (v42:Sl)=>hpv prog (convert 296 9 (sv v42)) eJ fun (v43:ByteArray)=>K v43)
def ku (a0:Int) (a1:Int) (K:kT ByteArray):hT:=br (a1 == 10) ( br ((decide (0 <= a0)) && (decide (a0 < 100))) ( cl prog jC [(.int .i64 a0)] eJ fun r19=>K r19) ( nw xe [.int .u8 0,.int .u8 0,.int .u8 0,.int .u8 0,.int .u8 0,.int .u8 0,.int .u8 0,.int .u8 0,.int .u8 0,.int .u8 0,.int .u8 0,.int .u8 0,.int .u8 0,.int .u8 0,.int .u8 0,.int .u8 0,.int .u8 0,.int .u8 0,.int .u8 0,.int .u8 0,.int .u8 0,.int .u8 0,.int .u8 0,.int .u8 0] fun b5=>br (decide (a0 < 0)) ( gE a0 K b5 (u64.wrap (0 - (u64.wrap a0)))) ( gE a0 K b5 (u64.wrap a0)))) ( cl prog rC [(sv (⟨none,0,0,none⟩:Sl)),(.int .u64 (u64.wrap a0)),(.int .i64 a1),(.bool (decide (a0 < 0))),(.bool false)] R_Suint8_string fun r50=>K r50.2)
theorem qH (a0:Int) (a1:Int) {K:kT ByteArray} {h:Hp} (H:ku a0 a1 K h):cl prog gU [(.int .i64 a0),(.int .i64 a1)] eJ K h:=z_i func218 p p fun _=>O<|U p<|ai<|O<|M p<|J (bM p p)<|ad<|av p H (fun k1 H2=>ai<|O<|M p<|J (vX p p)<|M p<|W p p (aA _) (fun g3=>wv<|ag p)<|W p p (aA _) (fun g4=>wv<|bZ (aC p g4) p)<|J (bN p p)<|ad<|av p H2 (fun k5 H6=>O<|M p<|aa<|G H6 en_219 fun r19 _ H7=>U p<|ah<|F ⟨r19,p,H7⟩) fun k5 H6=>ak<|O<|aa<|to_alloc zero_293 p p H6 fun b5 _ H8=>ad<|O<|M p<|J (dB ⟨_,underlying2⟩ underlying31 p)<|U p<|dY (gE a0 K b5) (fun s9=>[(0,(.int .i64 a0)),(5,(.pointer (some ⟨b5,0,none⟩))),(6,(.int .u64 s9))]) (fun s9=>[]) (O<|M p<|J (bZ p p)<|ad<|av p H8 (fun k21 H22=>am<|M p<|J (v_neg p)<|U p<|ct (u64.wrap (0 - (u64.wrap a0))) H22 (.cons p<|.cons p<|.cons p<|.nil _) .slnil) fun k21 H22=>ak<|ct (u64.wrap a0) H22 (.cons p<|.cons p<|.cons p<|.nil _) .slnil) fun s9 _ H10=>O<|M p<|aa<|G H10 en_220 fun r27 _ H11=>U p<|O<|M p<|J (bb p p)<|aa<|aF H11 (cT p p p p p) p fun v30 _ H12=>M p<|aa<|G H12 en_221 fun r32 _ H13=>ad<|ai<|O<|M p<|J (bZ p p)<|ad<|av p H13 (fun k14 H15=>O<|J (bH arr_293 p p (by decide))<|aa<|dx inf_5 p p p p p H15 fun _ H16=>ad<|O<|M p<|J (bb p p)<|aa<|aF H16 (cT p p p p p) p fun v38 _ H17=>aa<|aF H17 (x_convert p) p fun v39 _ H18=>U p<|ah<|F ⟨v39,p,H18⟩) fun k14 H15=>ak<|O<|M p<|J (bb p p)<|aa<|aF H15 (cT p p p p p) p fun v42 _ H19=>aa<|aF H19 (x_convert p) p fun v43 _ H20=>U p<|ah<|F ⟨v43,p,H20⟩) fun k1 H2=>ak<|O<|M p<|J (dB ⟨_,underlying2⟩ underlying31 p)<|M p<|M p<|J (bZ p p)<|aa<|G H2 en_222 fun r50 _ H23=>M p<|J (aj p p)<|J (aj p p)<|J (ar p)<|U p<|O<|M p<|U p<|ah<|F ⟨r50.2,p,H23⟩
def nB (a0:Int) (K:kT ByteArray):hT:=cl prog gU [(.int .i64 a0),(.int .i64 10)] eJ fun r4=>K r4
theorem us (a0:Int) {K:kT ByteArray} {h:Hp} (H:nB a0 K h):cl prog jX [(.int .i64 a0)] eJ K h:=z_i func217 p p fun _=>O<|U p<|O<|M p<|aa<|G H en_218 fun r4 _ H1=>U p<|ah<|F ⟨r4,p,H1⟩
end
section
open Go Mb
def ql (K:kT Bool):hT:=cl prog kW [(.int .i64 3)] iW fun r5=>cl prog n_trap_In [(.int .i64 2),(.agg (al.C (⟨1,2,0,0,0⟩:al)).toArray),r5] iW fun r6=>cl prog kA [r6] ff fun r9=>hpv prog (do eqGuard .eql 159 (.tmp 12) (.const Value.nilIface) r6 Value.nilIface; binOp .eql 159 r6 Value.nilIface:Sem Value) aD fun (v13:Bool)=>br (v13 || r9.1.isNone) ( K false) ( br r9.2 ( nn r9.1 fun q21=>ld (q21.1,q21.2 + 1) (cI .i64) fun x23=>br (x23 == 2) ( ld (q21.1,q21.2 + 2) al.C fun x30=>br (al.eqb x30 (⟨1,2,0,0,0⟩:al)) ( ld (q21.1,q21.2 + 0) (cI .i64) fun x38=>br (x38 == 3) ( cl prog uZ [r6] bn fun r43=>br (r43 == 3) ( cl prog xL [r6] eN fun r48=>br (r48 == 2) ( cl prog kW [(.int .i64 3)] iW fun r53=>cl prog oH [r6,r53] aD fun r54=>br r54 ( cl prog kW [(.int .i64 4)] iW fun r58=>cl prog oH [r6,r58] aD fun r59=>br (!r59) ( cln prog (callMethod r6 "Error" #[]) eJ fun (v64:ByteArray)=>hpv prog (do eqGuard .eql 9 (.tmp 64) (.const (.string oX)) (.string v64) (.string oX); binOp .eql 9 (.string v64) (.string oX):Sem Value) aD fun (v65:Bool)=>br v65 ( cl prog kW [(.int .i64 0)] iW fun r68=>hpv prog (do eqGuard .eql 159 (.tmp 68) (.const Value.nilIface) r68 Value.nilIface; binOp .eql 159 r68 Value.nilIface:Sem Value) aD fun (v69:Bool)=>K v69) ( K false)) ( K false)) ( K false)) ( K false)) ( K false)) ( K false)) ( K false)) ( K false)) ( K false))
theorem xv {K:kT Bool} {h:Hp} (H:ql K h):cl prog mc [] aD K h:=z_i func182 p p fun _=>O<|U p<|O<|J (bg p<|mU 1 2)<|aa<|G H ye fun r5 _ H1=>aa<|G H1 en_143 fun r6 _ H2=>U p<|O<|M p<|aa<|G H2 en_181 fun r9 _ H3=>M p<|J (aj p p)<|J (aj p p)<|J (ar p)<|U p<|ai<|O<|M p<|aa<|aF H3 (gL p p) p fun v13 _ H4=>M p<|W p p (aL _) (fun g5=>wv<|ag p)<|W p p (aL _) (fun g6=>wv<|cy underlying214<|aC p g6)<|J (dy p p)<|ad<|av p H4 (fun k7 H8=>O<|U p<|ah<|F ⟨false,p,H8⟩) fun k7 H8=>ak<|O<|M p<|M p<|W p p (aA _) (fun g9=>wv<|ag p)<|bS H8 (fun k11 H12=>bL H12 fun q21 e13 H14=>z_O (Z k11)<|z_p (aP<|aJ (aC p k11)<|au e13)<|z_O (Z k11)<|z_p (ae fld_216_1 p)<|z_O (Z k11)<|aY H14 aR p (fun _=>p) p fun x23 H15=>z_O (Z k11)<|z_p (bM p p)<|J (aI p k11 p)<|M p<|W p p (aA _) (fun g16=>wv<|ag<|aJ p<|au e13)<|W p p (aA _) (fun g17=>wv<|aP<|aC p g17)<|W p p (aA _) (fun g18=>wv<|ae fld_216_2<|aC p g18)<|bS H15 (fun k20 H21=>z_O (Z k20)<|ga H21 fS (aC p k20) (fun _=>p) p fun x30 H22=>z_O (Z k20)<|z_p (bg p<|mU 1 2)<|z_O (Z k20)<|z_p (v_eqA eqg_33 (eqr_33 9998 _ _) p p)<|J (aI p k20 p)<|M p<|W p p (aA _) (fun g23=>wv<|ag<|aJ p<|au e13)<|W p p (aA _) (fun g24=>wv<|aP<|aC p g24)<|W p p (aA _) (fun g25=>wv<|ae wL<|aC p g25)<|bS H22 (fun k27 H28=>z_O (Z k27)<|aY H28 py (aC p k27) (fun _=>p) p fun x38 H29=>z_O (Z k27)<|z_p (bM p p)<|J (aI p k27 p)<|M p<|W p p (aA _) (fun g30=>wv<|ag p)<|bS H29 (fun k32 H33=>z_O (Z k32)<|gz H33 en_166 (aZ (aC p k32) bX) p fun r43 _ H34=>z_O (Z k32)<|z_p (bM p p)<|J (aI p k32 p)<|M p<|W p p (aA _) (fun g35=>wv<|ag p)<|bS H34 (fun k37 H38=>z_O (Z k37)<|gz H38 en_187 (aZ (aC p k37) bX) p fun r48 _ H39=>z_O (Z k37)<|z_p (bM p p)<|J (aI p k37 p)<|M p<|W p p (aA _) (fun g40=>wv<|ag p)<|bS H39 (fun k42 H43=>z_O (Z k42)<|G H43 ye fun r53 _ H44=>z_O (Z k42)<|gz H44 en_106 (aZ (aC p k42)<|aZ p bX) p fun r54 _ H45=>J (aI p k42 p)<|M p<|W p p (aA _) (fun g46=>wv<|ag p)<|bS H45 (fun k48 H49=>z_O (Z k48)<|G H49 ye fun r58 _ H50=>z_O (Z k48)<|gz H50 en_106 (aZ (aC p k48)<|aZ p bX) p fun r59 _ H51=>z_O (Z k48)<|z_p (cw p)<|J (aI p k48 p)<|M p<|W p p (aA _) (fun g52=>wv<|ag p)<|bS H51 (fun k54 H55=>z_O (Z k54)<|gy H55 (gx (vs:=[]) (aC p k54) p) p fun v64 _ H56=>z_O (Z k54)<|aF H56 (gL p p) p fun v65 _ H57=>J (aI p k54 p)<|M p<|bS H57 (fun k59 H60=>z_O (Z k59)<|G H60 ye fun r68 _ H61=>z_O (Z k59)<|aF H61 (gL p p) p fun v69 _ H62=>J (aI p k59 p)<|U p<|ah<|F ⟨v69,p,H62⟩) fun k59 H60=>Y (ax k59)<|Y (ax k59)<|J (ap p k59 p)<|U p<|ah<|F ⟨false,p,H60⟩) fun k54 H55=>Y (ax k54)<|Y (ax k54)<|J (ap p k54 p)<|M p<|Y p<|Y p<|J (ap p p p)<|U p<|ah<|F ⟨false,p,H55⟩) fun k48 H49=>Y (ax k48)<|Y (ax k48)<|Y (ax k48)<|J (ap p k48 p)<|M p<|Y p<|Y p<|Y p<|J (ap p p p)<|M p<|Y p<|Y p<|J (ap p p p)<|U p<|ah<|F ⟨false,p,H49⟩) fun k42 H43=>Y (ax k42)<|Y (ax k42)<|J (ap p k42 p)<|M p<|Y p<|Y p<|Y p<|Y p<|J (ap p p p)<|M p<|Y p<|Y p<|Y p<|J (ap p p p)<|M p<|Y p<|Y p<|J (ap p p p)<|U p<|ah<|F ⟨false,p,H43⟩) fun k37 H38=>Y (ax k37)<|Y (ax k37)<|J (ap p k37 p)<|M p<|Y p<|Y p<|Y p<|J (ap p p p)<|M p<|Y p<|Y p<|Y p<|Y p<|J (ap p p p)<|M p<|Y p<|Y p<|Y p<|J (ap p p p)<|M p<|Y p<|Y p<|J (ap p p p)<|U p<|ah<|F ⟨false,p,H38⟩) fun k32 H33=>Y (ax k32)<|Y (ax k32)<|J (ap p k32 p)<|M p<|Y p<|Y p<|Y p<|J (ap p p p)<|M p<|Y p<|Y p<|Y p<|J (ap p p p)<|M p<|Y p<|Y p<|Y p<|Y p<|J (ap p p p)<|M p<|Y p<|Y p<|Y p<|J (ap p p p)<|M p<|Y p<|Y p<|J (ap p p p)<|U p<|ah<|F ⟨false,p,H33⟩) fun k27 H28=>Y (ax k27)<|Y (ax k27)<|J (ap p k27 p)<|M p<|Y p<|Y p<|Y p<|J (ap p p p)<|M p<|Y p<|Y p<|Y p<|J (ap p p p)<|M p<|Y p<|Y p<|Y p<|J (ap p p p)<|M p<|Y p<|Y p<|Y p<|Y p<|J (ap p p p)<|M p<|Y p<|Y p<|Y p<|J (ap p p p)<|M p<|Y p<|Y p<|J (ap p p p)<|U p<|ah<|F ⟨false,p,H28⟩) fun k20 H21=>Y (ax k20)<|Y (ax k20)<|Y (ax k20)<|J (ap p k20 p)<|M p<|Y p<|Y p<|Y p<|Y p<|Y p<|J (ap p p p)<|M p<|Y p<|Y p<|Y p<|J (ap p p p)<|M p<|Y p<|Y p<|Y p<|J (ap p p p)<|M p<|Y p<|Y p<|Y p<|J (ap p p p)<|M p<|Y p<|Y p<|Y p<|Y p<|J (ap p p p)<|M p<|Y p<|Y p<|Y p<|J (ap p p p)<|M p<|Y p<|Y p<|J (ap p p p)<|U p<|ah<|F ⟨false,p,H21⟩) fun k11 H12=>Y (ax k11)<|Y (ax k11)<|Y (ax k11)<|Y (ax k11)<|J (ap p k11 p)<|M p<|Y p<|Y p<|Y p<|Y p<|Y p<|Y p<|J (ap p p p)<|M p<|Y p<|Y p<|Y p<|Y p<|Y p<|J (ap p p p)<|M p<|Y p<|Y p<|Y p<|J (ap p p p)<|M p<|Y p<|Y p<|Y p<|J (ap p p p)<|M p<|Y p<|Y p<|Y p<|J (ap p p p)<|M p<|Y p<|Y p<|Y p<|Y p<|J (ap p p p)<|M p<|Y p<|Y p<|Y p<|J (ap p p p)<|M p<|Y p<|Y p<|J (ap p p p)<|U p<|ah<|F ⟨false,p,H12⟩
def qm (K:kT Bool):hT:=cl prog mc [] aD fun r1=>K r1
theorem xw {K:kT Bool} {h:Hp} (H:qm K h):cl prog me [] aD K h:=z_i func171 p p fun _=>O<|U p<|O<|aa<|G H en_182 fun r1 _ H1=>U p<|ah<|F ⟨r1,p,H1⟩
end
section
open Go Mb
variable {ET:Nat} {EF:Nat × Nat}
abbrev s3_:ByteArray:=⟨#[51]⟩
theorem sp_small3:Sp prog jC [.int .i64 3] eJ [] (fun r=>pa_ (r = s3_) []):=by
 intro h st;refine tx _ ?_;unfold mX;exact eG rfl (fR s3_ (fun K h=>by kernel_rfl) (ba rfl st))
theorem sp_FormatInt3:Sp prog gU [.int .i64 3,.int .i64 10] eJ [] (fun r=>pa_ (r = s3_) []):=by
 intro h st;refine qH _ _ ?_;unfold ku;refine eG rfl (eG rfl (ut sp_small3 st fun r h' hr s2=>?_));exact ba hr s2
theorem sp_Itoa3':Sp prog jX [.int .i64 3] eJ [] (fun r=>pa_ (r = s3_) []):=by
 intro h st;refine us _ ?_;unfold nB;exact ut sp_FormatInt3 st fun r h' hr s2=>ba hr s2
theorem sp_Itoa3:Sp prog tQ [.int .i64 3] eJ [] (fun r=>pa_ (r = s3_) []):=by
 intro h st;refine sim_strconv_Itoa _ ?_;unfold sh_strconv_Itoa;exact ut sp_Itoa3' st fun r h' hr s2=>ba hr s2
abbrev t3_:ByteArray:=⟨#[116,114,97,112,32,51]⟩
theorem sp_Error1 (b:Nat) (t:ci) (hc:t.fUa = 3) (ht:t.fSa = Value.nilIface):Sp prog jo [pv (some (b,0))] eJ [trB b t] (fun r=>pa_ (r = t3_) [trB b t]):=by
 intro h st;refine sf _ ?_;unfold nT;refine dN rfl (cL ?_);refine bt t.fUa st (i:=0) rfl rfl rfl ?_;rw [hc];refine ut sp_Itoa3 st fun r h' hr s2=>?_;subst hr;refine fR t3_ (fun K h=>by kernel_rfl) ?_;refine bt t.fSa s2 (i:=0) rfl rfl rfl ?_;rw [ht];refine fR false (fun K h=>by kernel_rfl) (dN rfl ?_);exact ba rfl s2
theorem sp_Error2 (b e:Nat) (t u:ci) (hc:t.fUa = 3) (ht:t.fSa = dK e) (hd:u.fUa = 3) (hu:u.fSa = Value.nilIface):Sp prog jo [pv (some (b,0))] eJ [trB b t,trB e u] (fun r=>pa_ (r = oX) [trB b t,trB e u]):=by
 intro h st;refine sf _ ?_;unfold nT;refine dN rfl (cL ?_);refine bt t.fUa st (i:=0) rfl rfl rfl ?_;rw [hc];refine ut sp_Itoa3 st fun r h' hr s2=>?_;subst hr;refine fR t3_ (fun K h=>by kernel_rfl) ?_;refine bt t.fSa s2 (i:=0) rfl rfl rfl ?_;rw [ht];refine fR true (fun K h=>by kernel_rfl) (eG rfl ?_);refine bt t.fSa s2 (i:=0) rfl rfl rfl ?_;rw [ht];refine cln_en (f:=jo) (vs:=[pv (some (e,0))]) (fun K h=>by kernel_rfl) ?_;refine cc (i:=1) (sp_Error1 e u hd hu) rfl s2 fun r h' hr s3=>?_;subst hr;refine fR ⟨#[58,32,116,114,97,112,32,51]⟩ (fun K h=>by kernel_rfl) ?_;refine fR oX (fun K h=>by kernel_rfl) ?_;exact ba rfl s3
theorem star_ne {b d:Nat} {T T':TypeId} {c c':List Value} {l:List As} {h:Hp} (s:ay (blk b T c::blk d T' c'::l) h):b ≠ d:=by
 obtain ⟨h1,h2,dj,e,a,h3,h4,dj2,e2,a2,_⟩:=s;rintro rfl;have h1b:h1 b = some _:=a;have h3b:h3 b = some _:=a2;rcases dj b with x | x
 ·rw [h1b] at x; cases x
 ·rw [e2,un_left h3b] at x; cases x
theorem sp_Trap_Is (b d:Nat) (t w:ci):Sp prog tO [pv (some (b,0)),dK d] aD [trB b t,trB d w] (fun r=>pa_ (r = (t.fUa == w.fUa)) [trB b t,trB d w]):=by
 intro h st;refine sim_trap_Trap_Is _ _ ?_;unfold sh_trap_Trap_Is;refine fR (some (d,0),true) (fun K h=>by kernel_rfl) (eG rfl (eG rfl (eG rfl (cL (cL ?_)))));refine bt t.fUa st (i:=0) rfl rfl rfl ?_;refine bt w.fUa st (i:=1) rfl rfl rfl ?_;exact ba rfl st
theorem sp_Unwrap (b:Nat) (t:ci):Sp prog nV [pv (some (b,0))] encV [trB b t] (fun r=>pa_ (r = t.fSa) [trB b t]):=by
 intro h st;refine sim_trap_Trap_Unwrap _ ?_;unfold sg;refine dN rfl (cL ?_);refine bt t.fSa st (i:=0) rfl rfl rfl ?_;exact ba rfl st
theorem eq_traps {K:Bool->Hp->Prop} {a b n m:Nat} {t u:ci} {l:List As} {h:Hp} (s:ay (trB a t::trB b u::l) h) (k:K false h):hpv prog (do eqGuard .eql 159 (.tmp n) (.tmp m) (dK a) (dK b); binOp .eql 159 (dK a) (dK b):Sem Value) aD K h:=by
 obtain ⟨g1,a1,sub1⟩:=dZ (l:=trB a t::trB b u::l) (A:=trB a t) (i:=0) (by rfl) s;obtain ⟨g2,a2,sub2⟩:=dZ (l:=trB a t::trB b u::l) (A:=trB b u) (i:=1) (by rfl) s;have q1:h a = some (.cells (ci.C t).toArray ow (0,0)):=sub1 _ _ a1;have q2:h b = some (.cells (ci.C u).toArray ow (0,0)):=sub2 _ _ a2;have hne:=star_ne s;have e:(a == b) = false:=by simpa using hne
 constructor;rw [y6,db];refine x25 _ _ q1 q2 ?_;rw [e];exact ⟨false,rfl,k⟩
theorem is_step {b d:Nat} {t w:ci} {l:List As} {h:Hp} {K:Bool->Hp->Prop} {Rec:Value->Hp->Prop} (st:ay (trB b t::trB d w::l) h)
  (h1:t.fUa = w.fUa->∀ h',ay (trB b t::trB d w::l) h'->K true h') (h0:t.fUa ≠ w.fUa->t.fSa = .nilIface->∀ h',ay (trB b t::trB d w::l) h'->K false h')
  (h2:t.fUa ≠ w.fUa->∀ e,t.fSa = dK e->∀ h',ay (trB b t::trB d w::l) h'->Rec (dK e) h') (hok:t.fSa = .nilIface\/∃ e,t.fSa = dK e):sY (dK d) true K Rec (dK b) h:=by
 unfold sY;refine eG rfl (eq_traps st (dN rfl ?_));refine fR (dK b,true) (fun K h=>by kernel_rfl) (eG rfl ?_);refine cln_en (f:=tO) (vs:=[pv (some (b,0)),dK d]) (fun K h=>by kernel_rfl) ?_;refine cW [] (rest:=l) (sp_Trap_Is b d t w) st rfl fun r h' s2=>?_;obtain ⟨rfl,s3⟩:=bA.1 s2;by_cases e:t.fUa = w.fUa
 ·exact eG (by simpa using e) (h1 e _ s3)
 ·refine dN (by simpa using e) ?_;unfold sZ;refine fR (dK b,true) (fun K h=>by kernel_rfl) (eG rfl ?_);refine cln_en (f:=nV) (vs:=[pv (some (b,0))]) (fun K h=>by kernel_rfl) ?_;refine cc (i:=0) (sp_Unwrap b t) rfl s3 fun r h' hr s4=>?_;subst hr;rcases hok with hn | ⟨x,hx⟩
  ·rw [hn];refine fR true (en_00 _) (eG rfl (h0 e hn _ ?_));simpa using s4
  ·rw [hx];refine fR false (en_0 x _) (dN rfl (h2 e x hx _ ?_));simpa using s4
theorem sp_is1 (b d:Nat) (t w:ci) (hc:t.fUa = w.fUa) (hok:t.fSa = .nilIface\/∃ e,t.fSa = dK e):Sp prog oG [dK b,dK d,.bool true] aD [trB b t,trB d w] (fun r=>pa_ (r = true) [trB b t,trB d w]):=by
 intro h st;refine sim_errors_is _ _ _ ?_;unfold xD;refine ⟨fun s h=>s = dK b/\ay [trB b t,trB d w] h,fun _ _=>0,⟨rfl,st⟩,?_⟩;rintro _ h1 ⟨rfl,s1⟩;exact is_step s1 (fun _ h' s2=>ba rfl s2) (fun e=>absurd hc e) (fun e=>absurd hc e) hok
theorem sp_is2 (b e d:Nat) (t u w:ci) (ht:t.fSa = dK e) (hu:u.fSa = .nilIface) (hc:t.fUa ≠ w.fUa) (hd:u.fUa ≠ w.fUa) :
  Sp prog oG [dK b,dK d,.bool true] aD [trB b t,trB e u,trB d w] (fun r=>pa_ (r = false) [trB b t,trB e u,trB d w]):=by
 intro h st;refine sim_errors_is _ _ _ ?_;unfold xD;refine ⟨fun s h=>(s = dK b\/s = dK e)/\ay [trB b t,trB e u,trB d w] h,fun s _=>match s with | .iface _ (.pointer (some p))=>if p.block = b then 1 else 0 | _=>0,⟨.inl rfl,st⟩,?_⟩;have hne:e ≠ b:=fun h=>(star_ne st) h.symm;rintro _ h1 ⟨rfl | rfl,s1⟩
 ·refine is_step (l:=[trB e u]) (bd [0,1] s1 rfl) (fun x=>absurd x hc) (fun _ x=>by rw [ht] at x; cases x) (fun _ x hx h' s2=>?_) (.inr ⟨e,ht⟩);rw [ht] at hx;rw [← hx];exact ⟨⟨.inr rfl,bd [0,1] s2 rfl⟩,by show (if e = b then 1 else 0) < (if b = b then 1 else 0); rw [if_pos rfl,if_neg hne]; exact Nat.one_pos⟩
 ·refine is_step (l:=[trB b t]) (bd [1,1] s1 rfl) (fun x=>absurd x hd) (fun _ _ h' s2=>ba rfl (bd [2,0] s2 rfl)) (fun _ x hx=>by rw [hu] at hx; cases hx) (.inl hu)
theorem sp_Is1 (b d:Nat) (t w:ci) (hc:t.fUa = w.fUa) (hok:t.fSa = .nilIface\/∃ e,t.fSa = dK e):Sp prog oH [dK b,dK d] aD [trB b t,trB d w] (fun r=>pa_ (r = true) [trB b t,trB d w]):=by
 intro h st;refine sim_errors_Is _ _ ?_;unfold xE;refine fR false (en_0 b _) (eG rfl (fR false (en_0 d _) (dN rfl ?_)));refine uh (rtV bj) (fun K h=>x7 d K h) ?_;refine uh true (fun K h=>x13 K h) ?_;refine cW [] (rest:=[]) (sp_is1 b d t w hc hok) st rfl fun r h' s2=>?_;obtain ⟨rfl,s3⟩:=bA.1 s2;exact ba rfl s3
theorem sp_Is2 (b e d:Nat) (t u w:ci) (ht:t.fSa = dK e) (hu:u.fSa = .nilIface) (hc:t.fUa ≠ w.fUa) (hd:u.fUa ≠ w.fUa) :
  Sp prog oH [dK b,dK d] aD [trB b t,trB e u,trB d w] (fun r=>pa_ (r = false) [trB b t,trB e u,trB d w]):=by
 intro h st;refine sim_errors_Is _ _ ?_;unfold xE;refine fR false (en_0 b _) (eG rfl (fR false (en_0 d _) (dN rfl ?_)));refine uh (rtV bj) (fun K h=>x7 d K h) ?_;refine uh true (fun K h=>x13 K h) ?_;refine cW [] (rest:=[]) (sp_is2 b e d t u w ht hu hc hd) st rfl fun r h' s2=>?_;obtain ⟨rfl,s3⟩:=bA.1 s2;exact ba rfl s3
theorem vo {α:Type} {A:α->As} {l:List As} {h:Hp} (s:ay (ex A::l) h):∃ x,ay (A x::l) h:=by
 obtain ⟨h1,h2,d,e,⟨x,a⟩,s2⟩:=s;exact ⟨x,h1,h2,d,e,a,s2⟩
abbrev tr3:ci:=⟨3,-1,⟨0,0,0,0,0⟩,.nilIface⟩
abbrev tr4:ci:=⟨4,-1,⟨0,0,0,0,0⟩,.nilIface⟩
abbrev tr32 (e:Nat):ci:=⟨3,2,⟨1,2,0,0,0⟩,dK e⟩
theorem sp_begun1:Sp prog mc [] aD [(etB ET EF)] (fun r=>pa_ (r = true) [(etB ET EF)]):=by
 intro h st;refine xv ?_;unfold ql;refine cW [] (rest:=[(etB ET EF)]) (sp_Of 3 (by decide)) st rfl fun r h1 s1=>?_;obtain ⟨e,x1⟩:=vo s1;obtain ⟨rfl,y1⟩:=bA.1 x1;refine cW [1,0] (rest:=[]) (sp_In 2 ⟨1,2,0,0,0⟩ e tr3) y1 rfl fun r h2 s2=>?_;obtain ⟨b,x2⟩:=vo s2;obtain ⟨rfl,y2⟩:=bA.1 x2;refine cc (i:=1) (sp_First b) rfl y2 fun r h3 hr s3=>?_;subst hr;refine fR false (en_0 b _) (dN rfl (eG rfl (cL ?_)));refine bt 2 s3 (i:=0) rfl rfl rfl (eG rfl ?_);refine ld_s ⟨1,2,0,0,0⟩ s3 (i:=0) rfl (fun j v hj=>?_) (eG rfl ?_)
 ·rcases j with _ | _ | _ | _ | _ | j <;> first | exact hj | (simp [al.C] at hj)
 refine bt 3 s3 (i:=0) rfl rfl rfl (eG rfl ?_);refine cW [1,0] (rest:=[_]) (sp_Code b (tr32 e)) s3 rfl fun r h4 s4=>?_;obtain ⟨rfl,y4⟩:=bA.1 s4;refine eG rfl ?_;refine cW [] (rest:=[]) (sp_Depth2 b e (tr32 e) tr3 rfl rfl) y4 rfl fun r h5 s5=>?_;obtain ⟨rfl,y5⟩:=bA.1 s5;refine eG rfl ?_;refine cW [] (rest:=[_,_,_]) (sp_Of 3 (by decide)) y5 rfl fun r h6 s6=>?_;obtain ⟨d,x6⟩:=vo s6;obtain ⟨rfl,y6⟩:=bA.1 x6;refine cW [2,0] (rest:=[_,_]) (sp_Is1 b d (tr32 e) tr3 rfl (.inr ⟨e,rfl⟩)) y6 rfl fun r h7 s7=>?_;obtain ⟨rfl,y7⟩:=bA.1 s7;refine eG rfl ?_;refine cW [] (rest:=[_,_,_,_]) (sp_Of 4 (by decide)) y7 rfl fun r h8 s8=>?_;obtain ⟨f,x8⟩:=vo s8;obtain ⟨rfl,y8⟩:=bA.1 x8;refine cW [1,3,0] (rest:=[_,_]) (sp_Is2 b e f (tr32 e) tr3 tr4 rfl rfl (show (3:Int) ≠ 4 by decide) (show (3:Int) ≠ 4 by decide)) y8 rfl fun r h9 s9=>?_;obtain ⟨rfl,y9⟩:=bA.1 s9;refine eG rfl ?_;refine cln_en (f:=jo) (vs:=[pv (some (b,0))]) (fun K h=>by kernel_rfl) ?_;refine cW [] (rest:=[_,_,_]) (sp_Error2 b e (tr32 e) tr3 rfl rfl rfl rfl) y9 rfl fun r h10 s10=>?_;obtain ⟨rfl,y10⟩:=bA.1 s10;refine fR true (fun K h=>by kernel_rfl) (eG rfl ?_);refine ut sp_Of0 y10 fun r h11 hr s11=>?_;subst hr;refine fR true (en_00 _) ?_;exact ba rfl (ce (l:=[_,_,_,_]) s11)
end
section
open Go Mb
def sh_cell_New (a0:Int) (K:kT Ptr):hT:=nw rl (oS.C (⟨a0,0⟩:oS)) fun b5=>K (some (b5,0))
theorem sim_cell_New (a0:Int) {K:kT Ptr} {h:Hp} (H:sh_cell_New a0 K h):cl prog tW [(.int .u64 a0)] pY K h:=z_i func167 p p fun _=>O<|U p<|O<|M p<|J (bg p<|build_251_0 a0)<|aa<|iF p p p H fun b5 _ H1=>U p<|ah<|F ⟨some (b5,0),p,H1⟩
def sh_cell_Cell_Up (a0:Ptr) (a1:Int) (K:kT (Int × Bool)):hT:=br a0.isNone ( K (0,false)) ( nn a0 fun q9=>ld (q9.1,q9.2 + 1) (cI .i64) fun x11=>st (q9.1,q9.2 + 1) [.int .i64 (i64.wrap (x11 + 1))]<|ld (q9.1,q9.2 + 0) (cI .u64) fun x18=>br (decide (x18 >= a1)) ( ld (q9.1,q9.2 + 0) (cI .u64) fun x24=>K (x24,false)) ( ld (q9.1,q9.2 + 0) (cI .u64) fun x28=>st (q9.1,q9.2 + 0) [.int .u64 (u64.wrap (x28 + 1))]<|ld (q9.1,q9.2 + 0) (cI .u64) fun x35=>K (x35,true)))
theorem sim_cell_Cell_Up (a0:Ptr) (a1:Int) {K:kT (Int × Bool)} {h:Hp} (H:sh_cell_Cell_Up a0 a1 K h):cl prog pN [(pv a0),(.int .u64 a1)] bP K h:=z_i func169 p p fun _=>O<|J (ar p)<|U p<|ai<|O<|M p<|J (cy underlying230 p)<|ad<|av p H (fun k1 H2=>O<|J (ar p)<|U p<|ah<|bE (bW p (cj p)<|cj p) ⟨(0,false),p,H2⟩) fun k1 H2=>ak<|O<|M p<|bL H2 fun q9 e3 H4=>J (aP<|aJ p<|au e3)<|J (ae ti p)<|aa<|aY H4 aR p (fun _=>p) p fun x11 H5=>J (bb p p)<|J (aP<|aJ p<|au e3)<|J (ae ti p)<|aa<|dx mo p p p p p H5 fun _ H6=>ad<|ai<|O<|M (aJ p<|au e3)<|J (aP p)<|J (ae oM p)<|aa<|aY H6 cC p (fun _=>p) p fun x18 H7=>M p<|J (iE p p)<|ad<|av p H7 (fun k8 H9=>O<|M (aJ p<|au e3)<|J (aP p)<|J (ae oM p)<|aa<|aY H9 cC p (fun _=>p) p fun x24 H10=>J (ar p)<|U p<|ah<|bE (bW p (cj p)<|cj p) ⟨(x24,false),p,H10⟩) fun k8 H9=>ak<|O<|M (aJ p<|au e3)<|J (aP p)<|J (ae oM p)<|aa<|aY H9 cC p (fun _=>p) p fun x28 H11=>J (bb p p)<|J (aP p)<|J (ae oM p)<|aa<|dx inf_31 p p p p p H11 fun _ H12=>ad<|O<|M (aJ p<|au e3)<|J (aP p)<|J (ae oM p)<|aa<|aY H12 cC p (fun _=>p) p fun x35 H13=>J (ar p)<|U p<|ah<|bE (bW p (cj p)<|cj p) ⟨(x35,true),p,H13⟩
def uR (a0:Ptr) (K:kT Int):hT:=br a0.isNone ( K 0) ( nn a0 fun q6=>ld (q6.1,q6.2 + 1) (cI .i64) fun x8=>st (q6.1,q6.2 + 1) [.int .i64 (i64.wrap (x8 + 1))]<|ld (q6.1,q6.2 + 0) (cI .u64) fun x15=>K x15)
theorem sim_cell_Cell_Load (a0:Ptr) {K:kT Int} {h:Hp} (H:uR a0 K h):cl prog mP [(pv a0)] ic K h:=z_i func183 p p fun _=>O<|U p<|ai<|O<|M p<|J (cy underlying230 p)<|ad<|av p H (fun k1 H2=>O<|U p<|ah<|F ⟨0,p,H2⟩) fun k1 H2=>ak<|O<|M p<|bL H2 fun q6 e3 H4=>J (aP<|aJ p<|au e3)<|J (ae ti p)<|aa<|aY H4 aR p (fun _=>p) p fun x8 H5=>J (bb p p)<|J (aP<|aJ p<|au e3)<|J (ae ti p)<|aa<|dx mo p p p p p H5 fun _ H6=>ad<|O<|M (aJ p<|au e3)<|J (aP p)<|J (ae oM p)<|aa<|aY H6 cC p (fun _=>p) p fun x15 H7=>U p<|ah<|F ⟨x15,p,H7⟩
def wy (a0:Ptr) (a1:Int) (a2:Int) (K:kT Bool):hT:=br a0.isNone ( K false) ( nn a0 fun q10=>ld (q10.1,q10.2 + 1) (cI .i64) fun x12=>st (q10.1,q10.2 + 1) [.int .i64 (i64.wrap (x12 + 1))]<|ld (q10.1,q10.2 + 0) (cI .u64) fun x19=>br (x19 != a1) ( K false) ( st (q10.1,q10.2 + 0) [.int .u64 a2]<|K true))
theorem sim_cell_Cell_Cas (a0:Ptr) (a1:Int) (a2:Int) {K:kT Bool} {h:Hp} (H:wy a0 a1 a2 K h):cl prog rW [(pv a0),(.int .u64 a1),(.int .u64 a2)] aD K h:=z_i func184 p p fun _=>O<|U p<|ai<|O<|M p<|J (cy underlying230 p)<|ad<|av p H (fun k1 H2=>O<|U p<|ah<|F ⟨false,p,H2⟩) fun k1 H2=>ak<|O<|M p<|bL H2 fun q10 e3 H4=>J (aP<|aJ p<|au e3)<|J (ae ti p)<|aa<|aY H4 aR p (fun _=>p) p fun x12 H5=>J (bb p p)<|J (aP<|aJ p<|au e3)<|J (ae ti p)<|aa<|dx mo p p p p p H5 fun _ H6=>ad<|ai<|O<|M (aJ p<|au e3)<|J (aP p)<|J (ae oM p)<|aa<|aY H6 cC p (fun _=>p) p fun x19 H7=>M p<|J (nS p p)<|ad<|av p H7 (fun k8 H9=>O<|U p<|ah<|F ⟨false,p,H9⟩) fun k8 H9=>ak<|O<|M (aJ p<|au e3)<|M p<|J (aP p)<|J (ae oM p)<|aa<|dx inf_31 p p p p p H9 fun _ H10=>ad<|O<|U p<|ah<|F ⟨true,p,H10⟩
end
section
open Go Mb
def sh_ticket_New (K:kT Ptr):hT:=cl prog tW [(.int .u64 0)] pY fun r1=>cl prog tW [(.int .u64 0)] pY fun r2=>nw nu (la.C (⟨r1,r2⟩:la)) fun b4=>K (some (b4,0))
theorem sim_ticket_New {K:kT Ptr} {h:Hp} (H:sh_ticket_New K h):cl prog xM [] um K h:=z_i func168 p p fun _=>O<|U p<|O<|aa<|G H en_167 fun r1 _ H1=>aa<|G H1 en_167 fun r2 _ H2=>J (bg p<|build_253_0_1 r1 r2)<|aa<|iF p p p H2 fun b4 _ H3=>U p<|ah<|F ⟨some (b4,0),p,H3⟩
def sk (a0:Ptr) (K:kT Int):hT:=br a0.isNone ( K 0) ( nn a0 fun q9=>ld (q9.1,q9.2 + 0) cP fun x11=>cl prog pN [(pv x11),(.int .u64 18446744073709551615)] bP fun r12=>K (u64.wrap (r12.1 - 1)))
theorem sim_ticket_Lock_Draw (a0:Ptr) {K:kT Int} {h:Hp} (H:sk a0 K h):cl prog nX [(pv a0)] ic K h:=z_i func170 p p fun _=>O<|U p<|ai<|O<|M p<|J (cy underlying232 p)<|ad<|av p H (fun k1 H2=>O<|U p<|ah<|F ⟨0,p,H2⟩) fun k1 H2=>ak<|O<|M p<|bL H2 fun q9 e3 H4=>J (aP<|aJ p<|au e3)<|J (ae fld_253_0 p)<|aa<|aY H4 sc_230 p (fun _=>p) p fun x11 H5=>aa<|G H5 en_169 fun r12 _ H6=>M p<|J (aj p p)<|J (aj p p)<|J (ar p)<|U p<|O<|M p<|J (iD p p)<|U p<|ah<|F ⟨u64.wrap (r12.1 - 1),p,H6⟩
def si (a0:Ptr) (a1:Int) (K:kT Bool):hT:=br (!a0.isNone) ( nn a0 fun q9=>ld (q9.1,q9.2 + 1) cP fun x11=>cl prog mP [(pv x11)] ic fun r12=>br (r12 == a1) ( ld (q9.1,q9.2 + 0) cP fun x21=>cl prog mP [(pv x21)] ic fun r22=>K (decide (a1 < r22))) ( K false)) ( K false)
theorem sim_ticket_Lock_Turn (a0:Ptr) (a1:Int) {K:kT Bool} {h:Hp} (H:si a0 a1 K h):cl prog kB [(pv a0),(.int .u64 a1)] aD K h:=z_i func172 p p fun _=>O<|U p<|O<|M p<|J (v_pneT underlying232 p)<|M p<|W p p (aA _) (fun g1=>wv<|ag p)<|bS H (fun k3 H4=>bL H4 fun q9 e5 H6=>z_O (Z k3)<|z_p (aP<|aJ (aC p k3)<|au e5)<|z_O (Z k3)<|z_p (ae fld_253_1 p)<|z_O (Z k3)<|aY H6 sc_230 p (fun _=>p) p fun x11 H7=>z_O (Z k3)<|G H7 en_183 fun r12 _ H8=>z_O (Z k3)<|z_p (ag p)<|z_O (Z k3)<|z_p (bM p p)<|J (aI p k3 p)<|M p<|W p p (aA _) (fun g9=>wv<|ag p)<|W p p (aA _) (fun g10=>wv<|ag<|aJ p<|au e5)<|W p p (aA _) (fun g11=>wv<|aP<|aC p g11)<|W p p (aA _) (fun g12=>wv<|ae fld_253_0<|aC p g12)<|bS H8 (fun k14 H15=>z_O (Z k14)<|aY H15 sc_230 (aC p k14) (fun _=>p) p fun x21 H16=>z_O (Z k14)<|G H16 en_183 fun r22 _ H17=>z_O (Z k14)<|z_p (bZ (aC p k14) p)<|J (aI p k14 p)<|U p<|ah<|F ⟨decide (a1 < r22),p,H17⟩) fun k14 H15=>Y (ax k14)<|Y (ax k14)<|Y (ax k14)<|J (ap p k14 p)<|U p<|ah<|F ⟨false,p,H15⟩) fun k3 H4=>Y (ax k3)<|Y (ax k3)<|Y (ax k3)<|Y (ax k3)<|Y (ax k3)<|Y (ax k3)<|J (ap p k3 p)<|M p<|Y p<|Y p<|Y p<|Y p<|Y p<|Y p<|Y p<|J (ap p p p)<|U p<|ah<|F ⟨false,p,H4⟩
def sj (a0:Ptr) (a1:Int) (K:kT Bool):hT:=cl prog kB [(pv a0),(.int .u64 a1)] aD fun r7=>br r7 ( nn a0 fun q10=>ld (q10.1,q10.2 + 1) cP fun x12=>cl prog rW [(pv x12),(.int .u64 a1),(.int .u64 (u64.wrap (a1 + 1)))] aD fun r16=>K r16) ( K false)
theorem sim_ticket_Lock_Pass (a0:Ptr) (a1:Int) {K:kT Bool} {h:Hp} (H:sj a0 a1 K h):cl prog nW [(pv a0),(.int .u64 a1)] aD K h:=z_i func173 p p fun _=>O<|U p<|O<|M p<|M p<|aa<|G H en_172 fun r7 _ H1=>M p<|W p p (aA _) (fun g2=>wv<|ag p)<|bS H1 (fun k4 H5=>bL H5 fun q10 e6 H7=>z_O (Z k4)<|z_p (aP<|aJ (aC p k4)<|au e6)<|z_O (Z k4)<|z_p (ae fld_253_1 p)<|z_O (Z k4)<|aY H7 sc_230 p (fun _=>p) p fun x12 H8=>z_O (Z k4)<|z_p (ag p)<|z_O (Z k4)<|z_p (ag p)<|z_O (Z k4)<|z_p (bb p p)<|z_O (Z k4)<|G H8 en_184 fun r16 _ H9=>J (aI p k4 p)<|U p<|ah<|F ⟨r16,p,H9⟩) fun k4 H5=>Y (ax k4)<|Y (ax k4)<|Y (ax k4)<|Y (ax k4)<|Y (ax k4)<|Y (ax k4)<|Y (ax k4)<|J (ap p k4 p)<|U p<|ah<|F ⟨false,p,H5⟩
end
end Go.Proofs.YtochchocdckegaaGreatDoor
