/- Part of the proof of: The law HistTurn returns true for every input, and leaves its arguments as they were. -/
import Derived.Test.YtemoifebbhoinaaGreatDoorHistTurn15
set_option linter.all false
set_option maxRecDepth 20000
namespace Go.Proofs.YtemoifebbhoinaaGreatDoor
open Go Mb
namespace KK
def drain (c:Int):Nat→KK→KK
  | 0,k=>k
  | n + 1,k=>if 0 < mail k c then drain c n (post k c).2 else k
def turn1 (k:KK) (c:Int):KK × Bool:=if busy (drain c 5000 k) c = true then ((step (drain c 5000 k) c).2,true) else (drain c 5000 k,false)
def sweep:Nat→Int→KK→Bool→KK × Bool
  | 0,_,k,b=>(k,b)
  | n + 1,c,k,b=>sweep n (c + 1) (turn1 k c).1 ((turn1 k c).2 || b)
def anyBusy (k:KK):Nat→Int→Bool
  | 0,_=>false
  | n + 1,c=>busy k c || anyBusy k n (c + 1)
def settle (cores:Nat):Nat→KK→Bool × KK
  | 0,k=>(!anyBusy k cores 0,k)
  | n + 1,k=>if (sweep cores 0 k false).2 = false then (true,(sweep cores 0 k false).1) else settle cores n (sweep cores 0 k false).1
def lastA (core:Int) (es:List bq):Nat→fQ × Bool
  | 0=>(⟨0,0⟩,false)
  | n + 1=>match es[n]? with
    | some e=>if e.fCore = core then (e.fAnswer,decide (e.fEnd > 0)) else lastA core es n
    | none=>(⟨0,0⟩,false)
def run (k:KK) (core env:Int) (c:dv):(fQ × Bool) × KK :=
  if (begin_ k core env c).1 = false then ((⟨0,0⟩,false),(begin_ k core env c).2)
  else if (settle 8 1000 (begin_ k core env c).2).1 = false then ((⟨0,0⟩,false),(settle 8 1000 (begin_ k core env c).2).2)
  else (lastA core (settle 8 1000 (begin_ k core env c).2).2.events (settle 8 1000 (begin_ k core env c).2).2.events.length,(settle 8 1000 (begin_ k core env c).2).2)
theorem access_now (k:KK) (c:Int) (x:KC):(access k c x).2.now = k.now:=by unfold access; split; rfl; split <;> rfl
theorem work_now (k:KK) (c:Int) (x:KC):(work k c x).now = k.now:=by
  unfold work
  split
  · exact access_now k c x
  · split
    · rfl
    · split
      · rfl
      · split <;> rfl
theorem step_now {k:KK} (h0:0 ≤ k.now) (h:k.now < 2 ^ 38) (c:Int):k.now ≤ (step k c).2.now∧(step k c).2.now ≤ k.now + 1:=by
  have hw:=wrapN h0 (by omega)
  unfold step
  split
  · exact ⟨Int.le_refl _,by show k.now ≤ k.now + 1; omega⟩
  · split
    · exact ⟨Int.le_refl _,by show k.now ≤ k.now + 1; omega⟩
    · show _ ≤ (work _ _ _).now∧(work _ _ _).now ≤ _
      rw [work_now]
      simp only [tick,hw]; omega
theorem post_now {k:KK} (h0:0 ≤ k.now) (h:k.now < 2 ^ 38) (c:Int):k.now ≤ (post k c).2.now∧(post k c).2.now ≤ k.now + 1:=by
  have hw:=wrapN h0 (by omega)
  unfold post
  split
  · exact ⟨Int.le_refl _,by show k.now ≤ k.now + 1; omega⟩
  · split
    · exact ⟨Int.le_refl _,by show k.now ≤ k.now + 1; omega⟩
    · show _ ≤ (tick k).now∧(tick k).now ≤ _
      simp only [tick,hw]; omega
theorem begin_now {k:KK} (h0:0 ≤ k.now) (h:k.now < 2 ^ 38) (core env:Int) (c:dv):k.now ≤ (begin_ k core env c).2.now∧(begin_ k core env c).2.now ≤ k.now + 1:=by
  have hw:=wrapN h0 (by omega)
  unfold begin_
  split
  · exact ⟨Int.le_refl _,by show k.now ≤ k.now + 1; omega⟩
  · simp only [hw]; omega
end KK
section
variable {x:Ptr} {l:List As}
theorem kern_n0 {k:KK} {h:Hp} (s:aF (de x k::l) h):0 ≤ k.now∧k.events.length ≤ k.now:=by
  obtain ⟨z,_,_,ok,_⟩:=so s
  exact ⟨ok.n0,ok.evn⟩
theorem settle_l3 {Rec:Bool × Int→Hp→Prop} {k:KK} {b:Bool} {c:Int} {h:Hp} (h0:0 ≤ c) (hc:c < 100) (hn:k.now + 5001 < 2 ^ 37) (st:aF (de x k::l) h)
    (kk:∀ h',(KK.turn1 k c).1.now ≤ k.now + 5001→aF (de x (KK.turn1 k c).1::l) h'→Rec ((KK.turn1 k c).2 || b,c + 1) h'):Lp (gD x Rec (b,c)) 0 h:=by
  have hj:∀ d h',KK.drain c 5000 k = d→d.now ≤ k.now + 5000→aF (de x d::l) h'→ff x Rec (b,c) () h':=by
    intro d h' e hd s1
    unfold ff
    refine bR (i:=0) (oI x d c) rfl s1 fun r h2 hr s2=>?_
    refine bR (i:=0) (oI x d c) rfl s2 fun r' h3 hr' s3=>?_
    subst hr; subst hr'
    have hw:IntKind.i64.wrap (c + 1) = c + 1:=bP (by omega) (by omega)
    simp only [hw]
    refine aY (fun k2=>?_) (fun k2=>?_)
    · refine bR (i:=0) (sp_kern_Step x d c (by omega)) rfl s3 fun r h4 hr s4=>?_
      have e2:KK.turn1 k c = ((KK.step d c).2,true):=by unfold KK.turn1; rw [e,if_pos k2]
      have n1:=kern_n0 s3
      have n2:=KK.step_now n1.1 (by omega) c
      rw [e2] at kk
      rw [k2]
      exact kk h4 (by show (KK.step d c).2.now ≤ _; omega) s4
    · have e2:KK.turn1 k c = (d,false):=by unfold KK.turn1; rw [e,if_neg (by rw [k2]; exact Bool.false_ne_true)]
      rw [e2] at kk
      rw [k2]
      exact kk h3 (by show d.now ≤ _; omega) s3
  refine Lp.intro (fun (m:Int) h=>∃ (n:Nat) (d:KK),m = 5000 - n∧n ≤ 5000∧KK.drain c n d = KK.drain c 5000 k∧d.now ≤ k.now + (5000 - n)∧aF (de x d::l) h) (fun m _=>(5000 - m).toNat) ⟨5000,k,rfl,Nat.le_refl _,rfl,by omega,st⟩ ?_
  rintro m h1 ⟨n,d,rfl,hm,e,hd,s1⟩
  unfold gD
  refine aY (fun k1=>?_) (fun k1=>?_)
  · have hlt:0 < n:=by have:=of_decide_eq_true k1; omega
    obtain ⟨n,rfl⟩:∃ j,n = j + 1:=⟨n - 1,by omega⟩
    refine bR (i:=0) (sp_kern_Mail x d c) rfl s1 fun r h2 hr s2=>?_
    subst hr
    refine aY (fun k2=>?_) (fun k2=>?_)
    · have k2':0 < KK.mail d c:=of_decide_eq_true k2
      refine bR (i:=0) (sp_kern_Post x d c (by omega)) rfl s2 fun r h3 hr s3=>?_
      have n1:=kern_n0 s2
      have n2:=KK.post_now n1.1 (by omega) c
      have hw:IntKind.i64.wrap ((5000:Int) - ((n + 1:Nat):Int) + 1) = 5000 - (n:Int):=by rw [bP (by omega) (by omega)]; omega
      rw [hw]
      refine ⟨⟨n,_,rfl,by omega,?_,by omega,s3⟩,by show (5000 - (5000 - (n:Int))).toNat < (5000 - (5000 - ((n + 1:Nat):Int))).toNat; omega⟩
      rw [← e]
      exact (if_pos k2').symm
    · have k2':¬ 0 < KK.mail d c:=of_decide_eq_false k2
      exact hj d h2 (by rw [← e]; exact if_neg k2') (by omega) s2
  · have hz:n = 0:=by have:=of_decide_eq_false k1; omega
    subst hz
    exact hj d h1 e.symm (by omega) s1
theorem settle_l2 {Rec2:Int→Hp→Prop} {K:Bool→Hp→Prop} {k:KK} {m:Int} {cores:Nat} {h:Hp} (hc:cores ≤ 8) (hn:k.now + cores * 5001 < 2 ^ 37) (st:aF (de x k::l) h)
    (kt:∀ h',(KK.sweep cores 0 k false).2 = false→(KK.sweep cores 0 k false).1.now ≤ k.now + cores * 5001→aF (de x (KK.sweep cores 0 k false).1::l) h'→K true h')
    (kf:∀ h',(KK.sweep cores 0 k false).2 = true→(KK.sweep cores 0 k false).1.now ≤ k.now + cores * 5001→aF (de x (KK.sweep cores 0 k false).1::l) h'→Rec2 (IntKind.i64.wrap (m + 1)) h') :
    Lp (gE x cores K Rec2 m) (false,0) h:=by
  refine Lp.intro (fun (s:Bool × Int) h=>∃ (n:Nat) (d:KK),s.2 = (cores:Int) - n∧n ≤ cores∧KK.sweep n s.2 d s.1 = KK.sweep cores 0 k false∧d.now ≤ k.now + (cores - n) * 5001∧aF (de x d::l) h) (fun s _=>cores - s.2.toNat)
    ⟨cores,k,by simp,Nat.le_refl _,rfl,by simp,st⟩ ?_
  rintro ⟨b,c⟩ h1 ⟨n,d,e0,hm,e,hd,s1⟩
  simp only at e0 e
  subst e0
  unfold gE
  refine aY (fun k1=>?_) (fun k1=>?_)
  · have hlt:0 < n:=by have:=of_decide_eq_true k1; simp only at this; omega
    obtain ⟨n,rfl⟩:∃ j,n = j + 1:=⟨n - 1,by omega⟩
    have hq:(((cores:Int) - ((n + 1:Nat):Int)) * 5001) + 5001 = ((cores:Int) - n) * 5001:=by omega
    have hq2:((cores:Int) - n) * 5001 ≤ cores * 5001:=by omega
    refine settle_l3 (by omega) (by omega) (by omega) s1 fun h' hnow s2=>?_
    have hw:(cores:Int) - ((n + 1:Nat):Int) + 1 = (cores:Int) - n:=by omega
    refine ⟨⟨n,_,hw,by omega,?_,by omega,s2⟩,?_⟩
    · rw [← e]; rfl
    · show cores - ((cores:Int) - ((n + 1:Nat):Int) + 1).toNat < cores - ((cores:Int) - ((n + 1:Nat):Int)).toNat
      omega
  · have hz:n = 0:=by have:=of_decide_eq_false k1; simp only at this; omega
    subst hz
    have e':(d,b) = KK.sweep cores 0 k false:=e
    refine aY (fun k2=>?_) (fun k2=>?_)
    · have hb:b = false:=by simpa using k2
      rw [← e'] at kt
      exact kt h1 hb (by show d.now ≤ _; simpa using hd) s1
    · have hb:b = true:=by simpa using k2
      rw [← e'] at kf
      exact kf h1 hb (by show d.now ≤ _; simpa using hd) s1
theorem settle_l4 {K:Bool→Hp→Prop} {k:KK} {cores:Nat} {h:Hp} (hc:cores ≤ 8) (st:aF (de x k::l) h)
    (kk:∀ h',aF (de x k::l) h'→K (!KK.anyBusy k cores 0) h'):Lp (gC x cores K) 0 h:=by
  refine Lp.intro (fun (c:Int) h=>∃ n:Nat,c = (cores:Int) - n∧n ≤ cores∧KK.anyBusy k n c = KK.anyBusy k cores 0∧aF (de x k::l) h) (fun s _=>cores - s.toNat) ⟨cores,by simp,Nat.le_refl _,rfl,st⟩ ?_
  rintro c h1 ⟨n,rfl,hm,e,s1⟩
  unfold gC
  refine aY (fun k1=>?_) (fun k1=>?_)
  · have hlt:0 < n:=by have:=of_decide_eq_true k1; omega
    obtain ⟨n,rfl⟩:∃ j,n = j + 1:=⟨n - 1,by omega⟩
    refine bR (i:=0) (oI x k _) rfl s1 fun r h2 hr s2=>?_
    subst hr
    have e':(KK.busy k ((cores:Int) - ((n + 1:Nat):Int)) || KK.anyBusy k n ((cores:Int) - ((n + 1:Nat):Int) + 1)) = KK.anyBusy k cores 0:=e
    refine aY (fun k2=>?_) (fun k2=>?_)
    · rw [k2,Bool.true_or] at e'
      rw [← e'] at kk
      exact kk h2 s2
    · rw [k2,Bool.false_or] at e'
      have hw:IntKind.i64.wrap ((cores:Int) - ((n + 1:Nat):Int) + 1) = (cores:Int) - ((n + 1:Nat):Int) + 1:=bP (by omega) (by omega)
      rw [hw]
      refine ⟨⟨n,by omega,by omega,e',s2⟩,by omega⟩
  · have hz:n = 0:=by have:=of_decide_eq_false k1; omega
    subst hz
    have e':false = KK.anyBusy k cores 0:=e
    rw [← e'] at kk
    exact kk h1 s1
end
theorem sp_Settle (x:Ptr) (k:KK) (cores most:Nat) (hc:cores ≤ 8) (hm:most ≤ 1000) (hn:k.now < 2 ^ 36):Sp Tryz.prog hG [pv x,.int .i64 cores,.int .i64 most] aA [de x k]
    (fun r=>pa_ (r = (KK.settle cores most k).1∧(KK.settle cores most k).2.now ≤ k.now + most * 40008) [de x (KK.settle cores most k).2]):=by
  intro h st
  refine uU _ _ _ ?_
  unfold oa
  refine Lp.intro (fun (m:Int) h=>∃ (n:Nat) (d:KK),m = (most:Int) - n∧n ≤ most∧KK.settle cores n d = KK.settle cores most k∧d.now ≤ k.now + (most - n) * 40008∧aF [de x d] h) (fun m _=>most - m.toNat)
    ⟨most,k,by simp,Nat.le_refl _,rfl,by simp,st⟩ ?_
  rintro m h1 ⟨n,d,rfl,hnm,e,hd,s1⟩
  unfold jN
  have hq:((most:Int) - n) * 40008 ≤ 1000 * 40008:=by omega
  have hq2:(cores:Int) * 5001 ≤ 40008:=by omega
  refine aY (fun k1=>?_) (fun k1=>?_)
  · have hlt:0 < n:=by have:=of_decide_eq_true k1; omega
    obtain ⟨n,rfl⟩:∃ j,n = j + 1:=⟨n - 1,by omega⟩
    have e':(if (KK.sweep cores 0 d false).2 = false then (true,(KK.sweep cores 0 d false).1) else KK.settle cores n (KK.sweep cores 0 d false).1) = KK.settle cores most k:=e
    refine settle_l2 hc (by omega) s1 (fun h' hb hnow s2=>?_) (fun h' hb hnow s2=>?_)
    · rw [if_pos hb] at e'
      rw [← e']
      exact aZ ⟨rfl,by show (KK.sweep cores 0 d false).1.now ≤ _; omega⟩ s2
    · rw [if_neg (by rw [hb]; decide)] at e'
      have hw:IntKind.i64.wrap ((most:Int) - ((n + 1:Nat):Int) + 1) = (most:Int) - n:=by rw [bP (by omega) (by omega)]; omega
      rw [hw]
      exact ⟨⟨n,_,rfl,by omega,e',by omega,s2⟩,by omega⟩
  · have hz:n = 0:=by have:=of_decide_eq_false k1; omega
    subst hz
    have e':(!KK.anyBusy d cores 0,d) = KK.settle cores most k:=e
    refine settle_l4 hc s1 fun h' s2=>?_
    rw [← e']
    exact aZ ⟨rfl,by show d.now ≤ _; simpa using hd⟩ s2
theorem run_yes {k:KK} {core env:Int} {c:dv} {d e:KK} (h1:(KK.begin_ k core env c) = (true,d)) (h2:KK.settle 8 1000 d = (true,e)):KK.run k core env c = (KK.lastA core e.events e.events.length,e):=by
  unfold KK.run
  rw [h1]
  dsimp only
  rw [if_neg (by decide),h2]
  dsimp only
  rw [if_neg (by decide)]
theorem run_l1 {s:Sl} {es:List bq} {l:List As} {core:Int} {K:fQ × Bool→Hp→Prop} {h:Hp} (hb:es.length < 2 ^ 38) (st:aF (vE s es::l) h)
    (kk:∀ h',aF (vE s es::l) h'→K (KK.lastA core es es.length) h'):Lp (gq core K s) (IntKind.i64.wrap ((s.len:Int) - 1),⟨0,0⟩) h:=by
  have hl:=(ce (j:=0) st rfl).1
  have hw0:IntKind.i64.wrap ((s.len:Int) - 1) = (es.length:Int) - 1:=by rw [hl,bP (by omega) (by omega)]
  rw [hw0]
  refine Lp.intro (fun (z:Int × fQ) h=>∃ n:Nat,z = ((n:Int) - 1,⟨0,0⟩)∧n ≤ es.length∧KK.lastA core es n = KK.lastA core es es.length∧aF (vE s es::l) h) (fun z _=>(z.1 + 1).toNat) ⟨_,rfl,Nat.le_refl _,rfl,st⟩ ?_
  rintro _ h1 ⟨n,rfl,hn,e,s1⟩
  unfold gq
  refine aY (fun k1=>?_) (fun k1=>?_)
  · have hlt:0 < n:=by have:=of_decide_eq_true k1; simp only at this; omega
    obtain ⟨n,rfl⟩:∃ j,n = j + 1:=⟨n - 1,by omega⟩
    have hn':n < es.length:=by omega
    have hi:((n + 1:Nat):Int) - 1 = (n:Int):=by omega
    simp only [hi]
    have e':(match es[n]? with
      | some e=>if e.fCore = core then (e.fAnswer,decide (e.fEnd > 0)) else KK.lastA core es n
      | none=>(⟨0,0⟩,false)) = KK.lastA core es es.length:=e
    rw [aD hn'] at e'
    simp only at e'
    refine du s1 (j:=0) rfl (by omega) (by show (n:Int) < _; omega) fun q hq=>?_
    have lk:∀ {σ:Type} {enc:σ→List Value} {K:σ→Hp→Prop} (y:σ) (o:Nat),(∀ i v,(enc y)[i]? = some v→(es[n].C)[o + i]? = some v)→K y h1→ld (q.1,q.2 + Int.toNat (n:Int) * 16 + o) enc K h1:=by
      intro σ enc K y o he k
      exact dU (j:=0) (i:=n) (k:=o) y iF s1 rfl hq (by simp) (aD hn') he k
    refine lk es[n].fCore 0 (fun i v hv=>?_) ?_
    · rcases i with _ | i <;> first | exact hv | simp [cI] at hv
    refine aY (fun k2=>?_) (fun k2=>?_)
    · have k2':es[n].fCore = core:=by simpa using k2
      rw [if_pos k2'] at e'
      have hA:∀ i v,(ac.C es[n].fAnswer)[i]? = some v→(es[n].C)[10 + i]? = some v:=by
        intro i v hv
        rcases i with _ | _ | i <;> first | exact hv | simp [ac.C] at hv
      have hE:∀ i v,((cI .i64) es[n].fEnd)[i]? = some v→(es[n].C)[9 + i]? = some v:=by
        intro i v hv
        rcases i with _ | i <;> first | exact hv | simp [cI] at hv
      refine ⟨lk _ 10 hA (lk _ 9 hE ?_),lk _ 9 hE (lk _ 10 hA ?_)⟩
      · rw [e']; exact kk h1 s1
      · rw [e']; exact kk h1 s1
    · have k2':¬ es[n].fCore = core:=by simpa using k2
      rw [if_neg k2'] at e'
      rw [bP (by omega) (by omega)]
      exact ⟨⟨n,rfl,by omega,e',s1⟩,by show ((n:Int) - 1 + 1).toNat < ((n:Int) + 1).toNat; omega⟩
  · have hz:n = 0:=by have:=of_decide_eq_false k1; simp only at this; omega
    subst hz
    have e':((⟨0,0⟩,false):fQ × Bool) = KK.lastA core es es.length:=e
    rw [← e'] at kk
    exact kk h1 s1
theorem run_no {k:KK} {core env:Int} {c:dv} {d e:KK} (h1:(KK.begin_ k core env c) = (true,d)) (h2:KK.settle 8 1000 d = (false,e)):KK.run k core env c = ((⟨0,0⟩,false),e):=by
  unfold KK.run
  rw [h1]
  dsimp only
  rw [if_neg (by decide),h2]
  dsimp only
  rw [if_pos rfl]
theorem run_tail (x:Ptr) (k:KK) (core env:Int) (c:dv) (d:KK) (h1:KK.begin_ k core env c = (true,d)) (hn:d.now ≤ k.now + 1) (hk:k.now < 2 ^ 35) {h:Hp} (s1:aF [de x d] h) :
    (cl Tryz.prog hG [(pv x),(.int .i64 8),(.int .i64 1000)] aA fun r20 =>
      br (!r20) ((fun r h'=>pa_ (r = (KK.run k core env c).1∧(KK.run k core env c).2.now ≤ k.now + 40008001) [de x (KK.run k core env c).2] h') (⟨0,0⟩,false)) (
      cl Tryz.prog fZ [(pv x)] eI fun r24 =>
      Lp (gq core (fun r h'=>pa_ (r = (KK.run k core env c).1∧(KK.run k core env c).2.now ≤ k.now + 40008001) [de x (KK.run k core env c).2] h') r24) ((IntKind.i64.wrap ((r24.len:Int) - 1)),(⟨0,0⟩:ac)))) h:=by
  have c8:=sp_Settle x d 8 1000 (Nat.le_refl _) (Nat.le_refl _) (by omega)
  generalize hz:KK.settle 8 1000 d = z at c8
  obtain ⟨b,e⟩:=z
  refine bR (i:=0) c8 rfl s1 fun r h2 hr s2=>?_
  obtain ⟨hr,hs⟩:=hr
  have hs':e.now ≤ d.now + 40008000:=hs
  have n2:=kern_n0 s2
  have hr':r = b:=hr
  rw [hr']
  cases b
  · rw [run_no h1 hz]
    exact dZ rfl (aZ ⟨rfl,by show e.now ≤ _; omega⟩ s2)
  · refine dI rfl ?_
    refine xH (i:=0) (sS x _ (by show e.now < _; omega)) rfl s2 fun s h3 s3=>?_
    refine run_l1 (by show e.events.length < _; have:(e.events.length:Int) ≤ e.now:=n2.2; omega) s3 fun h4 s4=>?_
    rw [run_yes h1 hz]
    exact aZ ⟨rfl,by show e.now ≤ _; omega⟩ (bZ (l:=[_]) s4)
theorem sp_Run (x:Ptr) (k:KK) (core env:Int) (c:dv) (hn:k.now < 2 ^ 35):Sp Tryz.prog eN [pv x,.int .i64 core,.int .i64 env,.agg c.C.toArray] bk [de x k]
    (fun r=>pa_ (r = (KK.run k core env c).1∧(KK.run k core env c).2.now ≤ k.now + 40008001) [de x (KK.run k core env c).2]):=by
  intro h st
  have n0:=kern_n0 st
  have nb:=KK.begin_now n0.1 (by omega) core env c
  refine sim_messuagelaw16_Run _ _ _ _ ?_
  unfold qU
  refine bR (i:=0) (sp_kern_Begin x k core env c (by omega)) rfl st fun r h1 hr s1=>?_
  subst hr
  refine aY (fun k1=>?_) (fun k1=>?_)
  · have k1':(KK.begin_ k core env c).1 = false:=by simpa using k1
    have e:KK.run k core env c = ((⟨0,0⟩,false),(KK.begin_ k core env c).2):=if_pos k1'
    rw [e]
    exact aZ ⟨rfl,by show (KK.begin_ k core env c).2.now ≤ _; omega⟩ s1
  · have k1':(KK.begin_ k core env c).1 = true:=by simpa using k1
    exact run_tail x k core env c (KK.begin_ k core env c).2 (by rw [← k1']) (by omega) hn s1
end Go.Proofs.YtemoifebbhoinaaGreatDoor
namespace Go.Proofs.YtemoifebbhoinaaGreatDoor
open Go Mb
structure IE (k:KK):Prop where
  inv:fK k
  ev:kh k
theorem ie_new {s:eH} (h:PK.sized s = true):IE (KK.new s):=⟨inv_new h,evinv_new s⟩
theorem IE.begin {k:KK} (A:IE k) (hn:k.now < 2 ^ 40) (core env:Int) {c:dv} (cw:Cw c):IE (KK.begin_ k core env c).2:=⟨A.inv.begin hn core env cw,A.ev.begin A.inv.ok hn core env c⟩
theorem IE.evict {k:KK} (A:IE k) (hn:k.now < 2 ^ 40) (c s w:Int):IE (KK.evict k c s w).2:=by
  have hI:=A.inv.evict hn c s w
  have hw:=wrapN A.inv.ok.n0 hn
  have he:(KK.evict k c s w).2.events = k.events∧(KK.evict k c s w).2.p = k.p∧(KK.evict k c s w).2.calls = k.calls∧k.now ≤ (KK.evict k c s w).2.now:=by
    unfold KK.evict
    split
    · exact ⟨rfl,rfl,rfl,Int.le_refl _⟩
    · split
      · exact ⟨rfl,rfl,rfl,Int.le_refl _⟩
      · exact ⟨rfl,rfl,rfl,by show k.now ≤ IntKind.i64.wrap (k.now + 1); omega⟩
  exact ⟨hI,A.ev.same he.1 (by rw [he.2.1]) he.2.2.2 (fun c x h=>⟨x,by rw [← he.2.2.1]; exact h,rfl,rfl,rfl⟩) (fun c x h=>⟨x,by rw [he.2.2.1]; exact h,rfl⟩)⟩
theorem IE.post {k:KK} (A:IE k) (hn:k.now < 2 ^ 40) (c:Int):IE (KK.post k c).2:=by
  have hI:=A.inv.post hn c
  have hw:=wrapN A.inv.ok.n0 hn
  have he:(KK.post k c).2.events = k.events∧(KK.post k c).2.p = k.p∧(KK.post k c).2.calls = k.calls∧k.now ≤ (KK.post k c).2.now:=by
    unfold KK.post
    split
    · exact ⟨rfl,rfl,rfl,Int.le_refl _⟩
    · split
      · exact ⟨rfl,rfl,rfl,Int.le_refl _⟩
      · exact ⟨rfl,rfl,rfl,by show k.now ≤ IntKind.i64.wrap (k.now + 1); omega⟩
  exact ⟨hI,A.ev.same he.1 (by rw [he.2.1]) he.2.2.2 (fun c x h=>⟨x,by rw [← he.2.2.1]; exact h,rfl,rfl,rfl⟩) (fun c x h=>⟨x,by rw [he.2.2.1]; exact h,rfl⟩)⟩
theorem do_wait {k:PK} {e:Int} {c:dv} (h:(PK.do_ k e c).1.2 = false):(PK.do_ k e c).2 = k:=by
  unfold PK.do_ at h ⊢
  split
  · rfl
  · rename_i h1
    rw [if_neg h1] at h
    split
    · rfl
    · rename_i h2
      rw [if_neg h2] at h
      unfold PK.does PK.errs at h ⊢
      repeat' split
      all_goals first | rfl | (exfalso; simp_all; done)
theorem access_keep (k:KK) (c:Int) (x:KC):(KK.access k c x).2.events = k.events∧(KK.access k c x).2.now = k.now∧(KK.access k c x).2.p.s = k.p.s∧(KK.access k c x).2.calls = k.calls∧(KK.access k c x).2.epochs = k.epochs:=by
  unfold KK.access
  split
  · exact ⟨rfl,rfl,rfl,rfl,rfl⟩
  · split
    · exact ⟨rfl,rfl,rfl,rfl,rfl⟩
    · exact ⟨rfl,rfl,touch_s _ _ _,rfl,rfl⟩
theorem work_ev {k:KK} (E:kh k) (hlate:∀ (i:Nat) e,k.events[i]? = some e→e.fBegin < k.now∧e.fEffect < k.now) {c:Nat} {x:KC} (hc:c < k.calls.length) (hcx:k.calls[c]? = some (some x)):kh (KK.work k c x):=by
  unfold KK.work
  by_cases hu:cO (aE x.fc).1 = true
  · rw [if_pos hu]
    obtain ⟨h1,h2,h3,h4,_⟩:=access_keep k c x
    have E2:kh (KK.access k c x).2:=E.same h1 h3 (by rw [h2]; exact Int.le_refl _) (fun d y h=>⟨y,by rw [← h4]; exact h,rfl,rfl,rfl⟩) (fun d y h=>⟨y,by rw [h4]; exact h,rfl⟩)
    exact E2.ends (by rw [h4]; exact hcx) (by rw [h1,h2]; exact hlate) _ _
  · rw [if_neg hu]
    split
    · refine E.same rfl rfl (Int.le_refl _) (fun d y h=>?_) (fun d y h=>?_)
      · simp only [KK.send,KK.clean,KK.tell,Int.toNat_natCast,List.set_set] at h
        rw [List.getElem?_set] at h
        split at h
        · rename_i e
          refine ⟨x,e ▸ hcx,?_⟩
          simp only [hc,if_true,Option.some.injEq] at h
          rw [← h]; exact ⟨rfl,rfl,rfl⟩
        · exact ⟨y,h,rfl,rfl,rfl⟩
      · simp only [KK.send,KK.clean,KK.tell,Int.toNat_natCast,List.set_set]
        rw [List.getElem?_set]
        by_cases e:c = d
        · subst e
          rw [hcx] at h
          cases h
          rw [if_pos rfl,if_pos hc]
          exact ⟨_,rfl,rfl⟩
        · rw [if_neg e]; exact ⟨y,h,rfl⟩
    · split
      · exact E
      · split
        · have E2:kh { k with p:=(PK.do_ k.p x.fenv x.fc).2 }:=E.same rfl (do_s _ _ _) (Int.le_refl _) (fun d y h=>⟨y,h,rfl,rfl,rfl⟩) (fun d y h=>⟨y,h,rfl⟩)
          exact E2.ends hcx hlate _ _
        · rename_i hdone
          rw [do_wait (by simpa using hdone)]
          exact E
theorem tick_now {k:KK} (ok:KK.Ok k) (hn:k.now < 2 ^ 40):(KK.tick k).now = k.now + 1:=wrapN ok.n0 hn
theorem tick_ev {k:KK} (ok:KK.Ok k) (E:kh k) (hn:k.now < 2 ^ 40):kh (KK.tick k):=E.same rfl rfl (by rw [tick_now ok hn]; omega) (fun c x h=>⟨x,h,rfl,rfl,rfl⟩) (fun c x h=>⟨x,h,rfl⟩)
theorem tick_late {k:KK} (ok:KK.Ok k) (E:kh k) (hn:k.now < 2 ^ 40):∀ (i:Nat) e,(KK.tick k).events[i]? = some e→e.fBegin < (KK.tick k).now∧e.fEffect < (KK.tick k).now:=fun i e h=>by
  have o:=E.one i e h
  rw [tick_now ok hn]
  have h1:=o.b1
  have h0:=o.b0
  rcases o.st with h2 | h2
  · exact ⟨by omega,by rw [h2.1]; omega⟩
  · exact ⟨by omega,by omega⟩
theorem IE.step {k:KK} (A:IE k) (hn:k.now < 2 ^ 40) (c:Int):IE (KK.step k c).2:=by
  refine ⟨A.inv.step hn c,?_⟩
  unfold KK.step
  split
  · exact A.ev
  · rename_i hb
    obtain ⟨hi,x,hx⟩:=busy_is (by simpa using hb)
    rw [hx]
    obtain ⟨n,rfl,hlt⟩:=qI hi
    exact work_ev (tick_ev A.inv.ok A.ev hn) (tick_late A.inv.ok A.ev hn) (by show n < k.calls.length; omega) (kcall_nat hx)
end Go.Proofs.YtemoifebbhoinaaGreatDoor
namespace Go.Proofs.YtemoifebbhoinaaGreatDoor
open Go Mb
theorem do_done {k:PK} {e:Int} {c:dv} (cw:Cw c) (h9:c.e0 ≠ 9) (hn:1 ≤ k.s.fEnvs∧k.s.fEnvs ≤ 4):(PK.do_ k e c).1.2 = true:=by
  by_cases hb:PK.off k e = true∨Word.check c k.s.fEnvs ≠ 0
  · exact (PK.do_bad hb).2.1
  · simp only [not_or,Bool.not_eq_true,Decidable.not_not] at hb
    have w:=well_of hn.1 hn.2 hb.2
    rw [PK.do_good hb.1 hb.2]
    unfold PK.does PK.errs
    rw [PK.w0 w]
    repeat' split
    all_goals first | rfl | (exfalso; omega)
variable {P:KK→Prop}
structure Stepped (k k':KK) (c:Nat):Prop where
  other:∀ d,d ≠ c→k'.calls[d]? = k.calls[d]?
  len:k'.calls.length = k.calls.length
  own:∃ m,k'.epochs.1 = k.epochs.1++m∧m.length ≤ 1
  iE:∀ d,iE k' d = iE k d
theorem step_stepped {k:KK} (A:fK k) {c:Nat} {x:KC} (hc:c < k.calls.length) (hx:k.calls[c]? = some (some x)):Stepped k (KK.step k c).2 c ∧
    (x.fc.e0 ≠ 9→(KK.step k c).2.calls[c]? = some none∨∃ y,(KK.step k c).2.calls[c]? = some (some y)∧y.ftold = true∧y.fc = x.fc) ∧
    (x.ftold = true→Epochs.done k.epochs x.fepoch = true→(KK.step k c).2.calls[c]? = some none):=by
  have hi:KK.is k c = true:=by unfold KK.is; exact decide_eq_true (by omega)
  have hcall:KK.call k c = some x:=by unfold KK.call; rw [Int.toNat_natCast,List.getD_eq_getElem?_getD,hx]; rfl
  have hb:KK.busy k c = true:=by unfold KK.busy; rw [hi,hcall]; rfl
  have cw:=A.cw c x hx
  have hstep:(KK.step k c).2 = KK.work (KK.tick k) c x:=by unfold KK.step; rw [if_neg (by rw [hb]; simp),hcall]
  have ends_c:∀ (m:KK) (a:fQ) (l:mE),m.calls = k.calls→(KK.ends m c x a l).calls = k.calls.set c none:=fun m a l h=>by unfold KK.ends; simp [h]
  have set_none:∀ d,d ≠ c→(k.calls.set c none)[d]? = k.calls[d]?:=fun d h=>by rw [List.getElem?_set,if_neg (fun e=>h e.symm)]
  have at_none:(k.calls.set c none)[c]? = some none:=by rw [List.getElem?_set,if_pos rfl,if_pos hc]
  have told_nu:x.ftold = true→¬ cO (aE x.fc).1 = true:=fun ht hu=>by
    have T:=A.teller ⟨hx,ht⟩
    have w:=well_of A.en.1 A.en.2 T.k
    have:=T.t
    rw [kind_val w.kind] at hu
    unfold cO at hu
    unfold Tk at this
    simp at hu
    omega
  rw [hstep]
  unfold KK.work
  by_cases hu:cO (aE x.fc).1 = true
  · rw [if_pos hu]
    have ha:(KK.access (KK.tick k) c x).2.calls = k.calls∧(KK.access (KK.tick k) c x).2.epochs = k.epochs:=by
      unfold KK.access
      split
      · exact ⟨rfl,rfl⟩
      · split <;> exact ⟨rfl,rfl⟩
    have hcs:=ends_c (KK.access (KK.tick k) c x).2 (KK.access (KK.tick k) c x).1.1 (KK.access (KK.tick k) c x).1.2 ha.1
    have hep:(KK.ends (KK.access (KK.tick k) c x).2 c x (KK.access (KK.tick k) c x).1.1 (KK.access (KK.tick k) c x).1.2).epochs = k.epochs:=ha.2
    refine ⟨⟨fun d h=>by rw [hcs]; exact set_none d h,by rw [hcs]; simp,⟨[],by rw [hep]; simp,Nat.zero_le _⟩,fun d=>by unfold iE; rw [hep]⟩,fun _=>.inl (by rw [hcs]; exact at_none),fun ht=>absurd hu (told_nu ht)⟩
  · rw [if_neg hu]
    by_cases ht:x.ftold = false∧KK.takes (KK.tick k).p x = true
    · rw [if_pos ht]
      have hcs:(KK.send (KK.clean (KK.tell (KK.tick k) c x) c) c x).calls = k.calls.set c (some { x with ftold:=true,fepoch:=(Epochs.begin_ k.epochs c).1.1 }):=by
        simp only [KK.send,KK.clean,KK.tell,KK.tick,Int.toNat_natCast,List.set_set]
      have hep:(KK.send (KK.clean (KK.tell (KK.tick k) c x) c) c x).epochs = (Epochs.begin_ k.epochs c).2:=rfl
      have hel:k.epochs.2.length = k.calls.length:=by have:=A.ok.el; have:=A.ok.cl; omega
      have he:(Epochs.begin_ k.epochs c).2 = (k.epochs.1++[(c:Int)],k.epochs.2):=by
        have:Epochs.is k.epochs c = true:=by unfold Epochs.is; exact decide_eq_true (by omega)
        unfold Epochs.begin_
        rw [if_pos this]
      refine ⟨⟨fun d h=>by rw [hcs,List.getElem?_set,if_neg (fun e=>h e.symm)],by rw [hcs]; simp,⟨[(c:Int)],by rw [hep,he],Nat.le_refl _⟩,fun d=>by unfold iE; rw [hep,he]⟩,fun _=>.inr ⟨{ x with ftold:=true,fepoch:=(Epochs.begin_ k.epochs c).1.1 },by rw [hcs,List.getElem?_set,if_pos rfl,if_pos hc],rfl,rfl⟩,fun h=>by rw [ht.1] at h; cases h⟩
    · rw [if_neg ht]
      by_cases hd:x.ftold = true∧Epochs.done (KK.tick k).epochs x.fepoch = false
      · rw [if_pos hd]
        refine ⟨⟨fun d h=>rfl,rfl,⟨[],by simp [KK.tick],Nat.zero_le _⟩,fun d=>rfl⟩,fun _=>.inr ⟨x,hx,hd.1,rfl⟩,fun h1 h2=>?_⟩
        have:=hd.2
        rw [show (KK.tick k).epochs = k.epochs from rfl,h2] at this
        cases this
      · rw [if_neg hd]
        by_cases h9:x.fc.e0 = 9
        · have hnt:¬ x.ftold = true:=fun h=>by
            have:=(A.teller ⟨hx,h⟩).t
            unfold Tk at this; omega
          split
          · have hcs:=ends_c { KK.tick k with p:=(PK.do_ (KK.tick k).p x.fenv x.fc).2 } (PK.do_ (KK.tick k).p x.fenv x.fc).1.1 kV rfl
            refine ⟨⟨fun d h=>by rw [hcs]; exact set_none d h,by rw [hcs]; simp,⟨[],by show k.epochs.1 = k.epochs.1++[]; simp,Nat.zero_le _⟩,fun d=>rfl⟩,fun h=>absurd h9 h,fun h=>absurd h hnt⟩
          · exact ⟨⟨fun d h=>rfl,rfl,⟨[],by show k.epochs.1 = k.epochs.1++[]; simp,Nat.zero_le _⟩,fun d=>rfl⟩,fun h=>absurd h9 h,fun h=>absurd h hnt⟩
        · have hdn:(PK.do_ (KK.tick k).p x.fenv x.fc).1.2 = true:=do_done cw h9 A.en
          rw [if_pos hdn]
          have hcs:=ends_c { KK.tick k with p:=(PK.do_ (KK.tick k).p x.fenv x.fc).2 } (PK.do_ (KK.tick k).p x.fenv x.fc).1.1 kV rfl
          refine ⟨⟨fun d h=>by rw [hcs]; exact set_none d h,by rw [hcs]; simp,⟨[],by show k.epochs.1 = k.epochs.1++[]; simp,Nat.zero_le _⟩,fun d=>rfl⟩,fun _=>.inl (by rw [hcs]; exact at_none),fun _ _=>by rw [hcs]; exact at_none⟩
end Go.Proofs.YtemoifebbhoinaaGreatDoor
namespace Go.Proofs.YtemoifebbhoinaaGreatDoor
open Go Mb
variable {P:KK→Prop}
end Go.Proofs.YtemoifebbhoinaaGreatDoor
namespace Go.Proofs.YtemoifebbhoinaaGreatDoor
open Go Mb
set_option linter.unusedVariables false
def errors_as_l2 (a1:Value) (a2:aN) (a3:Value) (K:Bool→Hp→Prop) (v48:Sl) (Rec25:Int→Hp→Prop) (s24:Int):Hp→Prop:=br (decide (s24 < (v48.len:Int))) ( ix v48 s24 fun q52=>ld (q52.1,q52.2 + Int.toNat s24 * 1) cV fun x53=>hpv Tryz.prog (do eqGuard .eql 199 (.tmp 54) (.const Value.nilIface) x53 Value.nilIface; binOp .eql 199 x53 Value.nilIface:Sem Value) aA fun (v55:Bool)=>br v55 ( Rec25 (IntKind.i64.wrap (s24 + 1))) ( cl Tryz.prog uF [x53,a1,(.agg (aN.C a2).toArray),a3] aA fun r60=>br r60 ( K true) ( Rec25 (IntKind.i64.wrap (s24 + 1))))) ( K false)
def xz (a1:Value) (a2:aN) (a3:Value) (K:Bool→Hp→Prop) (Rec2:Value→Hp→Prop) (s1:Value) (s11:Unit):Hp→Prop:=hpv Tryz.prog (Instr.typeAssert s1 gB jt true) gx fun (v37:Value × Bool)=>br v37.2 ( cln Tryz.prog (callMethod v37.1 "Unwrap" #[]) encV fun (v41:Value)=>hpv Tryz.prog (do eqGuard .eql 199 (.tmp 42) (.const Value.nilIface) v41 Value.nilIface; binOp .eql 199 v41 Value.nilIface:Sem Value) aA fun (v43:Bool)=>br v43 ( K false) ( Rec2 v41)) ( hpv Tryz.prog (Instr.typeAssert s1 gB iO true) gf fun (v44:Value × Bool)=>br v44.2 ( cln Tryz.prog (callMethod v44.1 "Unwrap" #[]) R_Serror fun (v48:Sl)=>Lp (errors_as_l2 a1 a2 a3 K v48) 0) ( K false))
def xy (a1:Value) (a2:aN) (a3:Value) (K:Bool→Hp→Prop) (Rec2:Value→Hp→Prop) (s1:Value):Hp→Prop:=cln Tryz.prog (callFunc gn #[s1]) encV fun (v17:Value)=>cln Tryz.prog (callMethod v17 "AssignableTo" #[a3]) aA fun (v19:Bool)=>br v19 ( cln Tryz.prog (callFunc fw #[(.agg (aN.C a2).toArray)]) fJ fun (v21:aN)=>cln Tryz.prog (callFunc cX #[s1]) fJ fun (v23:aN)=>cln Tryz.prog (callFunc fC #[(.agg (aN.C v21).toArray),(.agg (aN.C v23).toArray)]) R_ fun (v24:Unit)=>K true) ( hpv Tryz.prog (Instr.typeAssert s1 gB qK true) nR fun (v27:Value × Bool)=>br v27.2 ( cln Tryz.prog (callMethod v27.1 "As" #[a1]) aA fun (v34:Bool)=>br v34 ( K true) ( xz a1 a2 a3 K Rec2 s1 ())) ( xz a1 a2 a3 K Rec2 s1 ()))
def sh_errors_as (a0:Value) (a1:Value) (a2:aN) (a3:Value) (K:Bool→Hp→Prop):Hp→Prop:=Lp (xy a1 a2 a3 K) a0
theorem sim_errors_as (a0:Value) (a1:Value) (a2:aN) (a3:Value) {K:Bool→Hp→Prop} {h:Hp} (H:sh_errors_as a0 a1 a2 a3 K h):Ct Tryz.prog uF #[a0,a1,(.agg (aN.C a2).toArray),a3] h fun v h'=>∃ r,v = aA r∧K r h':=aw [a0,a1,(.agg (aN.C a2).toArray),a3] Tryz.func232 c c c fun _=>M<|aa<|cA (l:=aN.C a2) c c c fun b6=>O c<|ax<|bG (step:=xy a1 a2 a3 K) (fun s1=>[(0,s1),(1,a1),(3,a3),(6,(.pointer (some ⟨b6,0,none⟩)))]) (fun s1=>[bx b6 296 (aN.C a2)]) H (.cons c<|.cons c<|.cons c<|.cons c<|.nil _) (.cons_cons _ .slnil) fun Rec2 s1 _ H3=>ax<|ak<|M<|J c<|aa<|gl H3 (rY (vs:=[s1]) c) c fun v17 _ H4=>J c<|aa<|gl H4 (gj (vs:=[a3]) c c) c fun v19 _ H5=>ad<|av c H5 (fun k6 H7=>M<|bf (bE (k:=0) ag_296 c c c c) c<|aa<|gl H7 (rY (vs:=[(.agg (aN.C a2).toArray)]) c) c fun v21 _ H8=>J c<|aa<|gl H8 (rY (vs:=[s1]) c) c fun v23 _ H9=>aa<|gl H9 (rY (vs:=[(.agg (aN.C v21).toArray),(.agg (aN.C v23).toArray)]) c) c fun v24 _ H10=>ad<|M<|O c<|ah<|D ⟨true,c,H10⟩) fun k6 H7=>an<|eG (xz a1 a2 a3 K Rec2 s1) (fun s11=>[(0,s1),(1,a1),(3,a3),(6,(.pointer (some ⟨b6,0,none⟩)))]) (fun s11=>[bx b6 296 (aN.C a2)]) (M<|J c<|aa<|aU H7 (gi c) c fun v27 _ H39=>J c<|p (aj c c)<|p (aj c c)<|p (ar c)<|O c<|M<|J c<|J c<|V c c (ay _) (fun g40=>wv<|ag c)<|V c c (ay _) (fun g41=>wv<|ag c)<|bT H39 (fun k43 H44=>G (Y k43)<|gl H44 (gj (vs:=[a1]) (az c k43)<|aT (az c k43) bW) c fun v34 _ H45=>p (aI c k43 c)<|ad<|av c H45 (fun k46 H47=>M<|O c<|ah<|D ⟨true,c,H47⟩) fun k46 H47=>an<|cz () H47 (.cons c<|.cons c<|.cons c<|.cons c<|.nil _)<|.cons_cons _ .slnil) fun k43 H44=>W (aJ k43)<|p (ao c k43 c)<|ad<|rW c c<|an<|cz () H44 (.cons c<|.cons c<|.cons c<|.cons c<|.nil _)<|.cons_cons _ .slnil) fun s11 _ H12=>M<|J c<|ad<|ax<|M<|aa<|aU H12 (gi c) c fun v37 _ H13=>p (aj c c)<|p (aj c c)<|ad<|av c H13 (fun k14 H15=>M<|O c<|M<|J c<|aa<|gl H15 (gj (vs:=[]) c c) c fun v41 _ H16=>O c<|M<|J c<|aa<|aU H16 (gA c c) c fun v43 _ H17=>ad<|av c H17 (fun k18 H19=>M<|O c<|ah<|D ⟨false,c,H19⟩) fun k18 H19=>an<|cM v41 H19 (.cons c<|.cons c<|.cons c<|.cons c<|.nil _)<|.cons_cons _ .slnil) fun k14 H15=>M<|aa<|aU H15 (gi c) c fun v44 _ H20=>p (aj c c)<|p (aj c c)<|ad<|av c H20 (fun k21 H22=>M<|O c<|ak<|M<|J c<|aa<|gl H22 (gj (vs:=[]) c c) c fun v48 _ H23=>p (dl c Tryz.underlying280 c)<|J c<|ad<|ax<|bG (step:=errors_as_l2 a1 a2 a3 K v48) (fun s24=>[(1,a1),(3,a3),(6,(.pointer (some ⟨b6,0,none⟩))),(48,(sv v48)),(49,(.int .i64 (v48.len:Int))),(50,(.int .i64 s24))]) (fun s24=>[bx b6 296 (aN.C a2)]) H23 (.cons c<|.cons c<|.cons c<|.cons c<|.cons c<|.cons c<|.nil _) (.cons_cons _ .slnil) fun Rec25 s24 _ H26=>M<|p (cq c c)<|ad<|ak<|av c H26 (fun k27 H28=>an<|ak<|ax<|M<|ck H28 fun q52 e29 h30 H31=>p (bh slc_280 (aK c<|aX e29) c h30)<|aa<|aW H31 sc_199 c (fun _=>c) c fun x53 H32=>O c<|ak<|M<|J c<|aa<|aU H32 (gA c c) c fun v55 _ H33=>ad<|av c H33 (fun k34 H35=>bj<|ap<|p (bn c c)<|J c<|ad<|cM (IntKind.i64.wrap (s24 + 1)) H35 (.cons c<|.cons c<|.cons c<|.cons c<|.cons c<|.cons c<|.nil _)<|.cons_cons _ .slnil) fun k34 H35=>an<|M<|J c<|J c<|bf (bE (k:=0) ag_296 c c c c) c<|J c<|aa<|F H35 en_232 fun r60 _ H36=>ad<|av c H36 (fun k37 H38=>M<|O c<|ah<|D ⟨true,c,H38⟩) fun k37 H38=>an<|ap<|p (bn c c)<|J c<|ad<|cM (IntKind.i64.wrap (s24 + 1)) H38 (.cons c<|.cons c<|.cons c<|.cons c<|.cons c<|.cons c<|.nil _)<|.cons_cons _ .slnil) fun k27 H28=>bj<|M<|O c<|ah<|D ⟨false,c,H28⟩) fun k21 H22=>M<|O c<|M<|O c<|ah<|D ⟨false,c,H22⟩
def sA (a0:Value) (a1:Value) (K:Bool→Hp→Prop) (v14:aN) (v26:Value) (s11:Unit):Hp→Prop:=cl Tryz.prog uF [a0,a1,(.agg (aN.C v14).toArray),v26] aA fun r41=>K r41
def xA (a0:Value) (a1:Value) (K:Bool→Hp→Prop) (v14:aN) (v16:Value) (s8:Unit):Hp→Prop:=cln Tryz.prog (callMethod v16 "Elem" #[]) encV fun (v26:Value)=>cln Tryz.prog (callMethod v26 "Kind" #[]) R_abi_Kind fun (v28:Int)=>br (v28 != 20) ( ld (0,0) cV fun x32=>cln Tryz.prog (callMethod v26 "Implements" #[x32]) aA fun (v33:Bool)=>br (!v33) ( hpv Tryz.prog (Instr.makeInterface vq (.string str_6ae768b9)) encV fun (v36:Value)=>nope) ( sA a0 a1 K v14 v26 ())) ( sA a0 a1 K v14 v26 ())
def xB (a0:Value) (a1:Value) (K:Bool→Hp→Prop) (s4:Unit):Hp→Prop:=cln Tryz.prog (callFunc cX #[a1]) fJ fun (v14:aN)=>cln Tryz.prog (callFunc iM #[(.agg (aN.C v14).toArray)]) encV fun (v16:Value)=>cln Tryz.prog (callMethod v16 "Kind" #[]) R_abi_Kind fun (v18:Int)=>br (!(v18 != 22)) ( cln Tryz.prog (callFunc eX #[(.agg (aN.C v14).toArray)]) aA fun (v22:Bool)=>br v22 ( hpv Tryz.prog (Instr.makeInterface vq (.string str_ae9b7a08)) encV fun (v24:Value)=>nope) ( xA a0 a1 K v14 v16 ())) ( hpv Tryz.prog (Instr.makeInterface vq (.string str_ae9b7a08)) encV fun (v24:Value)=>nope)
def wZ (a0:Value) (a1:Value) (K:Bool→Hp→Prop):Hp→Prop:=hpv Tryz.prog (do eqGuard .eql 199 (.tmp 8) (.const Value.nilIface) a0 Value.nilIface; binOp .eql 199 a0 Value.nilIface:Sem Value) aA fun (v9:Bool)=>br v9 ( K false) ( hpv Tryz.prog (do eqGuard .eql 20 (.tmp 10) (.const Value.nilIface) a1 Value.nilIface; binOp .eql 20 a1 Value.nilIface:Sem Value) aA fun (v11:Bool)=>br v11 ( hpv Tryz.prog (Instr.makeInterface vq (.string str_53947bae)) encV fun (v12:Value)=>nope) ( xB a0 a1 K ()))
theorem sim_errors_As (a0:Value) (a1:Value) {K:Bool→Hp→Prop} {h:Hp} (H:wZ a0 a1 K h):Ct Tryz.prog uG #[a0,a1] h fun v h'=>∃ r,v = aA r∧K r h':=aw [a0,a1] Tryz.func227 c c c fun _=>M<|O c<|ak<|M<|J c<|aa<|aU H (gA c c) c fun v9 _ H1=>ad<|av c H1 (fun k2 H3=>M<|O c<|ah<|D ⟨false,c,H3⟩) fun k2 H3=>an<|eG (xB a0 a1 K) (fun s4=>[(0,a0),(1,a1)]) (fun s4=>[]) (M<|J c<|aa<|aU H3 (gA c c) c fun v11 _ H34=>ad<|av c H34 (fun k35 H36=>ap<|aa<|aU H36 (gH c) c fun v12 _ H37=>evlNo H37) fun k35 H36=>an<|cz () H36 (.cons c<|.cons c<|.nil _) .slnil) fun s4 _ H5=>M<|J c<|aa<|gl H5 (rY (vs:=[a1]) c) c fun v14 _ H6=>aa<|aP (l:=aN.C (⟨none,none,0⟩:aN)) zero_296 c c fun b5=>aa<|aR (k:=0) (vs:=aN.C v14) inf_296 c c c c c c c<|ad<|M<|bf (bE (k:=0) ag_296 c c c c) c<|aa<|gl H6 (rY (vs:=[(.agg (aN.C v14).toArray)]) c) c fun v16 _ H7=>O c<|eG (xA a0 a1 K v14 v16) (fun s8=>[(0,a0),(1,a1),(5,(.pointer (some ⟨b5,0,none⟩))),(6,v16)]) (fun s8=>[bx b5 296 (aN.C v14)]) (M<|J c<|aa<|gl H7 (gj (vs:=[]) c c) c fun v18 _ H24=>p (qH c c)<|J c<|V c c (aG _) (fun g25=>cv<|bE (k:=0) ag_296 c c c c)<|bT H24 (fun k27 H28=>G (Y<|bN k27)<|gl H28 (rY (vs:=[(.agg (aN.C v14).toArray)])<|aT (az c k27) bW) c fun v22 _ H29=>p (ao c (bN k27) c)<|ad<|av c H29 (fun k30 H31=>ap<|aa<|aU H31 (gH c) c fun v24 _ H32=>evlNo H32) fun k30 H31=>an<|cz () H31 (.cons c<|.cons c<|.cons c<|.cons c<|.nil _)<|.cons_cons _ .slnil) fun k27 H28=>W (bb<|bo k27)<|p (aI c (bo k27) c)<|ad<|fG c c<|ap<|aa<|aU H28 (gH c) c fun v24 _ H33=>evlNo H33) fun s8 _ H9=>M<|J c<|aa<|gl H9 (gj (vs:=[]) c c) c fun v26 _ H10=>O c<|eG (sA a0 a1 K v14 v26) (fun s11=>[(0,a0),(1,a1),(5,(.pointer (some ⟨b5,0,none⟩))),(7,v26)]) (fun s11=>[bx b5 296 (aN.C v14)]) (M<|J c<|aa<|gl H10 (gj (vs:=[]) c c) c fun v28 _ H14=>p (qH c c)<|J c<|V c c (ay _) (fun g15=>wv<|ag c)<|bT H14 (fun k17 H18=>G (Y k17)<|aW H18 sc_249 c (fun _=>c) c fun x32 H19=>G (Y k17)<|gl H19 (gj (vs:=[x32]) (az c k17) c) c fun v33 _ H20=>G (Y k17)<|z_p (ct c)<|p (aI c k17 c)<|ad<|av c H20 (fun k21 H22=>ap<|aa<|aU H22 (gH c) c fun v36 _ H23=>evlNo H23) fun k21 H22=>an<|cz () H22 (.cons c<|.cons c<|.cons c<|.cons c<|.nil _)<|.cons_cons _ .slnil) fun k17 H18=>W (aJ k17)<|W (aJ k17)<|W (aJ k17)<|p (ao c k17 c)<|ad<|rW c c<|an<|cz () H18 (.cons c<|.cons c<|.cons c<|.cons c<|.nil _)<|.cons_cons _ .slnil) fun s11 _ H12=>M<|J c<|J c<|bf (bE (k:=0) ag_296 c c c c) c<|J c<|aa<|F H12 en_232 fun r41 _ H13=>O c<|ah<|D ⟨r41,c,H13⟩
def errors_is_l2 (a1:Value) (a2:Bool) (K:Bool→Hp→Prop) (v43:Sl) (Rec26:Int→Hp→Prop) (s25:Int):Hp→Prop:=br (decide (s25 < (v43.len:Int))) ( ix v43 s25 fun q47=>ld (q47.1,q47.2 + Int.toNat s25 * 1) cV fun x48=>cl Tryz.prog oe [x48,a1,(.bool a2)] aA fun r52=>br r52 ( K true) ( Rec26 (IntKind.i64.wrap (s25 + 1)))) ( K false)
def sy (a1:Value) (a2:Bool) (K:Bool→Hp→Prop) (Rec2:Value→Hp→Prop) (s1:Value) (s12:Unit):Hp→Prop:=hpv Tryz.prog (Instr.typeAssert s1 gB jt true) gx fun (v32:Value × Bool)=>br v32.2 ( cln Tryz.prog (callMethod v32.1 "Unwrap" #[]) encV fun (v36:Value)=>hpv Tryz.prog (do eqGuard .eql 199 (.tmp 37) (.const Value.nilIface) v36 Value.nilIface; binOp .eql 199 v36 Value.nilIface:Sem Value) aA fun (v38:Bool)=>br v38 ( K false) ( Rec2 v36)) ( hpv Tryz.prog (Instr.typeAssert s1 gB iO true) gf fun (v39:Value × Bool)=>br v39.2 ( cln Tryz.prog (callMethod v39.1 "Unwrap" #[]) R_Serror fun (v43:Sl)=>Lp (errors_is_l2 a1 a2 K v43) 0) ( K false))
def errors_is_l3 (a1:Value) (a2:Bool) (K:Bool→Hp→Prop) (v43:Sl) (Rec60:Int→Hp→Prop) (s59:Int):Hp→Prop:=br (decide (s59 < (v43.len:Int))) ( ix v43 s59 fun q47=>ld (q47.1,q47.2 + Int.toNat s59 * 1) cV fun x48=>cl Tryz.prog oe [x48,a1,(.bool a2)] aA fun r52=>br r52 ( K true) ( Rec60 (IntKind.i64.wrap (s59 + 1)))) ( K false)
def xx (a1:Value) (a2:Bool) (K:Bool→Hp→Prop) (Rec2:Value→Hp→Prop) (s1:Value) (s46:Unit):Hp→Prop:=hpv Tryz.prog (Instr.typeAssert s1 gB jt true) gx fun (v32:Value × Bool)=>br v32.2 ( cln Tryz.prog (callMethod v32.1 "Unwrap" #[]) encV fun (v36:Value)=>hpv Tryz.prog (do eqGuard .eql 199 (.tmp 37) (.const Value.nilIface) v36 Value.nilIface; binOp .eql 199 v36 Value.nilIface:Sem Value) aA fun (v38:Bool)=>br v38 ( K false) ( Rec2 v36)) ( hpv Tryz.prog (Instr.typeAssert s1 gB iO true) gf fun (v39:Value × Bool)=>br v39.2 ( cln Tryz.prog (callMethod v39.1 "Unwrap" #[]) R_Serror fun (v43:Sl)=>Lp (errors_is_l3 a1 a2 K v43) 0) ( K false))
def sx (a1:Value) (a2:Bool) (K:Bool→Hp→Prop) (Rec2:Value→Hp→Prop) (s1:Value):Hp→Prop:=br a2 ( hpv Tryz.prog (do eqGuard .eql 199 (.tmp 16) (.tmp 17) s1 a1; binOp .eql 199 s1 a1:Sem Value) aA fun (v18:Bool)=>br v18 ( K true) ( hpv Tryz.prog (Instr.typeAssert s1 gB mF true) jW fun (v22:Value × Bool)=>br v22.2 ( cln Tryz.prog (callMethod v22.1 "Is" #[a1]) aA fun (v29:Bool)=>br v29 ( K true) ( sy a1 a2 K Rec2 s1 ())) ( sy a1 a2 K Rec2 s1 ()))) ( hpv Tryz.prog (Instr.typeAssert s1 gB mF true) jW fun (v22:Value × Bool)=>br v22.2 ( cln Tryz.prog (callMethod v22.1 "Is" #[a1]) aA fun (v29:Bool)=>br v29 ( K true) ( xx a1 a2 K Rec2 s1 ())) ( xx a1 a2 K Rec2 s1 ()))
def wX (a0:Value) (a1:Value) (a2:Bool) (K:Bool→Hp→Prop):Hp→Prop:=Lp (sx a1 a2 K) a0
theorem sim_errors_is (a0:Value) (a1:Value) (a2:Bool) {K:Bool→Hp→Prop} {h:Hp} (H:wX a0 a1 a2 K h):Ct Tryz.prog oe #[a0,a1,(.bool a2)] h fun v h'=>∃ r,v = aA r∧K r h':=aw [a0,a1,(.bool a2)] Tryz.func192 c c c fun _=>M<|O c<|ax<|bG (step:=sx a1 a2 K) (fun s1=>[(0,s1),(1,a1),(2,(.bool a2))]) (fun s1=>[]) H (.cons c<|.cons c<|.cons c<|.nil _) .slnil fun Rec2 s1 _ H3=>ax<|ak<|M<|J c<|J c<|V c c (ay _) (fun g4=>wv<|ag c)<|V c c (ay _) (fun g5=>wv<|ag c)<|bT H3 (fun k7 H8=>G (Y k7)<|aU H8 (gA (az c k7)<|az c k7) c fun v18 _ H9=>p (aI c k7 c)<|ad<|av c H9 (fun k10 H11=>M<|O c<|ah<|D ⟨true,c,H11⟩) fun k10 H11=>an<|eG (sy a1 a2 K Rec2 s1) (fun s12=>[(0,s1),(1,a1),(2,(.bool a2))]) (fun s12=>[]) (M<|J c<|aa<|aU H11 (gi c) c fun v22 _ H37=>J c<|p (aj c c)<|p (aj c c)<|p (ar c)<|O c<|M<|J c<|J c<|V c c (ay _) (fun g38=>wv<|ag c)<|V c c (ay _) (fun g39=>wv<|ag c)<|bT H37 (fun k41 H42=>G (Y k41)<|gl H42 (gj (vs:=[a1]) (az c k41)<|aT (az c k41) bW) c fun v29 _ H43=>p (aI c k41 c)<|ad<|av c H43 (fun k44 H45=>M<|O c<|ah<|D ⟨true,c,H45⟩) fun k44 H45=>an<|cz () H45 (.cons c<|.cons c<|.cons c<|.nil _) .slnil) fun k41 H42=>W (aJ k41)<|p (ao c k41 c)<|ad<|rW c c<|an<|cz () H42 (.cons c<|.cons c<|.cons c<|.nil _) .slnil) fun s12 _ H13=>M<|J c<|ad<|ax<|M<|aa<|aU H13 (gi c) c fun v32 _ H14=>p (aj c c)<|p (aj c c)<|ad<|av c H14 (fun k15 H16=>M<|O c<|M<|J c<|aa<|gl H16 (gj (vs:=[]) c c) c fun v36 _ H17=>O c<|M<|J c<|aa<|aU H17 (gA c c) c fun v38 _ H18=>ad<|av c H18 (fun k19 H20=>M<|O c<|ah<|D ⟨false,c,H20⟩) fun k19 H20=>an<|cM v36 H20 (.cons c<|.cons c<|.cons c<|.nil _) .slnil) fun k15 H16=>M<|aa<|aU H16 (gi c) c fun v39 _ H21=>p (aj c c)<|p (aj c c)<|ad<|av c H21 (fun k22 H23=>M<|O c<|ak<|M<|J c<|aa<|gl H23 (gj (vs:=[]) c c) c fun v43 _ H24=>p (dl c Tryz.underlying280 c)<|J c<|ad<|ax<|bG (step:=errors_is_l2 a1 a2 K v43) (fun s25=>[(1,a1),(2,(.bool a2)),(43,(sv v43)),(44,(.int .i64 (v43.len:Int))),(45,(.int .i64 s25))]) (fun s25=>[]) H24 (.cons c<|.cons c<|.cons c<|.cons c<|.cons c<|.nil _) .slnil fun Rec26 s25 _ H27=>M<|p (cq c c)<|ad<|ak<|av c H27 (fun k28 H29=>an<|ak<|ax<|M<|ck H29 fun q47 e30 h31 H32=>p (bh slc_280 (aK c<|aX e30) c h31)<|aa<|aW H32 sc_199 c (fun _=>c) c fun x48 H33=>O c<|M<|J c<|J c<|J c<|aa<|F H33 en_192 fun r52 _ H34=>ad<|av c H34 (fun k35 H36=>M<|O c<|ah<|D ⟨true,c,H36⟩) fun k35 H36=>an<|ap<|p (bn c c)<|J c<|ad<|cM (IntKind.i64.wrap (s25 + 1)) H36 (.cons c<|.cons c<|.cons c<|.cons c<|.cons c<|.nil _) .slnil) fun k28 H29=>bj<|M<|O c<|ah<|D ⟨false,c,H29⟩) fun k22 H23=>M<|O c<|M<|O c<|ah<|D ⟨false,c,H23⟩) fun k7 H8=>W (aJ k7)<|p (ao c k7 c)<|ad<|rW c c<|an<|eG (xx a1 a2 K Rec2 s1) (fun s46=>[(0,s1),(1,a1),(2,(.bool a2))]) (fun s46=>[]) (M<|J c<|aa<|aU H8 (gi c) c fun v22 _ H71=>J c<|p (aj c c)<|p (aj c c)<|p (ar c)<|O c<|M<|J c<|J c<|V c c (ay _) (fun g72=>wv<|ag c)<|V c c (ay _) (fun g73=>wv<|ag c)<|bT H71 (fun k75 H76=>G (Y k75)<|gl H76 (gj (vs:=[a1]) (az c k75)<|aT (az c k75) bW) c fun v29 _ H77=>p (aI c k75 c)<|ad<|av c H77 (fun k78 H79=>M<|O c<|ah<|D ⟨true,c,H79⟩) fun k78 H79=>an<|cz () H79 (.cons c<|.cons c<|.cons c<|.nil _) .slnil) fun k75 H76=>W (aJ k75)<|p (ao c k75 c)<|ad<|rW c c<|an<|cz () H76 (.cons c<|.cons c<|.cons c<|.nil _) .slnil) fun s46 _ H47=>M<|J c<|ad<|ax<|M<|aa<|aU H47 (gi c) c fun v32 _ H48=>p (aj c c)<|p (aj c c)<|ad<|av c H48 (fun k49 H50=>M<|O c<|M<|J c<|aa<|gl H50 (gj (vs:=[]) c c) c fun v36 _ H51=>O c<|M<|J c<|aa<|aU H51 (gA c c) c fun v38 _ H52=>ad<|av c H52 (fun k53 H54=>M<|O c<|ah<|D ⟨false,c,H54⟩) fun k53 H54=>an<|cM v36 H54 (.cons c<|.cons c<|.cons c<|.nil _) .slnil) fun k49 H50=>M<|aa<|aU H50 (gi c) c fun v39 _ H55=>p (aj c c)<|p (aj c c)<|ad<|av c H55 (fun k56 H57=>M<|O c<|ak<|M<|J c<|aa<|gl H57 (gj (vs:=[]) c c) c fun v43 _ H58=>p (dl c Tryz.underlying280 c)<|J c<|ad<|ax<|bG (step:=errors_is_l3 a1 a2 K v43) (fun s59=>[(1,a1),(2,(.bool a2)),(43,(sv v43)),(44,(.int .i64 (v43.len:Int))),(45,(.int .i64 s59))]) (fun s59=>[]) H58 (.cons c<|.cons c<|.cons c<|.cons c<|.cons c<|.nil _) .slnil fun Rec60 s59 _ H61=>M<|p (cq c c)<|ad<|ak<|av c H61 (fun k62 H63=>an<|ak<|ax<|M<|ck H63 fun q47 e64 h65 H66=>p (bh slc_280 (aK c<|aX e64) c h65)<|aa<|aW H66 sc_199 c (fun _=>c) c fun x48 H67=>O c<|M<|J c<|J c<|J c<|aa<|F H67 en_192 fun r52 _ H68=>ad<|av c H68 (fun k69 H70=>M<|O c<|ah<|D ⟨true,c,H70⟩) fun k69 H70=>an<|ap<|p (bn c c)<|J c<|ad<|cM (IntKind.i64.wrap (s59 + 1)) H70 (.cons c<|.cons c<|.cons c<|.cons c<|.cons c<|.nil _) .slnil) fun k62 H63=>bj<|M<|O c<|ah<|D ⟨false,c,H63⟩) fun k56 H57=>M<|O c<|M<|O c<|ah<|D ⟨false,c,H57⟩
def wY (a0:Value) (a1:Value) (K:Bool→Hp→Prop):Hp→Prop:=hpv Tryz.prog (do eqGuard .eql 199 (.tmp 6) (.const Value.nilIface) a0 Value.nilIface; binOp .eql 199 a0 Value.nilIface:Sem Value) aA fun (v7:Bool)=>br (!v7) ( hpv Tryz.prog (do eqGuard .eql 199 (.tmp 9) (.const Value.nilIface) a1 Value.nilIface; binOp .eql 199 a1 Value.nilIface:Sem Value) aA fun (v10:Bool)=>br v10 ( hpv Tryz.prog (do eqGuard .eql 199 (.tmp 12) (.tmp 13) a0 a1; binOp .eql 199 a0 a1:Sem Value) aA fun (v14:Bool)=>K v14) ( cln Tryz.prog (callFunc gn #[a1]) encV fun (v16:Value)=>cln Tryz.prog (callMethod v16 "Comparable" #[]) aA fun (v17:Bool)=>cl Tryz.prog oe [a0,a1,(.bool v17)] aA fun r21=>K r21)) ( hpv Tryz.prog (do eqGuard .eql 199 (.tmp 12) (.tmp 13) a0 a1; binOp .eql 199 a0 a1:Sem Value) aA fun (v14:Bool)=>K v14)
theorem sim_errors_Is (a0:Value) (a1:Value) {K:Bool→Hp→Prop} {h:Hp} (H:wY a0 a1 K h):Ct Tryz.prog og #[a0,a1] h fun v h'=>∃ r,v = aA r∧K r h':=aw [a0,a1] Tryz.func149 c c c fun _=>M<|O c<|ak<|M<|J c<|aa<|aU H (gA c c) c fun v7 _ H1=>J c<|V c c (aG _) (fun g2=>wv<|ag c)<|bT H1 (fun k4 H5=>G (Y<|bN k4)<|aU H5 (gA (az c k4) c) c fun v10 _ H6=>p (ao c (bN k4) c)<|ad<|av c H6 (fun k7 H8=>M<|J c<|J c<|aa<|aU H8 (gA c c) c fun v14 _ H9=>O c<|ah<|D ⟨v14,c,H9⟩) fun k7 H8=>an<|M<|J c<|aa<|gl H8 (rY (vs:=[a1]) c) c fun v16 _ H10=>aa<|gl H10 (gj (vs:=[]) c c) c fun v17 _ H11=>O c<|M<|J c<|J c<|J c<|aa<|F H11 en_192 fun r21 _ H12=>O c<|ah<|D ⟨r21,c,H12⟩) fun k4 H5=>W (bb<|bo k4)<|p (aI c (bo k4) c)<|ad<|fG c c<|M<|J c<|J c<|aa<|aU H5 (gA c c) c fun v14 _ H13=>O c<|ah<|D ⟨v14,c,H13⟩
end Go.Proofs.YtemoifebbhoinaaGreatDoor
namespace Go.Proofs.YtemoifebbhoinaaGreatDoor
open Go Mb
set_option linter.unusedVariables false
def sh_trap_Of (a0:Int) (K:Value→Hp→Prop):Hp→Prop:=br (a0 == 0) ( K Value.nilIface) ( nw nT (cd.C (⟨a0,(-1),(⟨0,0,0,0,0⟩:ai),Value.nilIface⟩:cd)) fun b7=>hpv Tryz.prog (Instr.makeInterface bg (.pointer (some ⟨b7,0,none⟩))) encV fun (v8:Value)=>K v8)
theorem sim_trap_Of (a0:Int) {K:Value→Hp→Prop} {h:Hp} (H:sh_trap_Of a0 K h):Ct Tryz.prog kK #[(.int .i64 a0)] h fun v h'=>∃ r,v = iL r∧K r h':=aw [(.int .i64 a0)] Tryz.func150 c c c fun _=>M<|O c<|ak<|M<|J c<|p (bH c c)<|ad<|av c H (fun k1 H2=>M<|O c<|ah<|D ⟨Value.nilIface,c,H2⟩) fun k1 H2=>an<|M<|J c<|p (bd c<|build_254_0_1 a0 (-1))<|aa<|io c c c H2 fun b7 _ H3=>aa<|aU H3 (gH c) c fun v8 _ H4=>O c<|ah<|D ⟨v8,c,H4⟩
def mX (K:(Ptr × Bool)→Hp→Prop) (b4:Nat) (s2:Bool):Hp→Prop:=br s2 ( K (none,false)) ( ld (b4,0) cP fun x13=>K (x13,true))
def uV (a0:Value) (K:(Ptr × Bool)→Hp→Prop):Hp→Prop:=nw bg [pv none] fun b4=>hpv Tryz.prog (Instr.makeInterface bC (.pointer (some ⟨b4,0,none⟩))) encV fun (v6:Value)=>cl Tryz.prog uG [a0,v6] aA fun r7=>br (!(!r7)) ( ld (b4,0) cP fun x10=>mX K b4 x10.isNone) ( mX K b4 true)
theorem sim_trap_First (a0:Value) {K:(Ptr × Bool)→Hp→Prop} {h:Hp} (H:uV a0 K h):Ct Tryz.prog km #[a0] h fun v h'=>∃ r,v = eO r∧K r h':=aw [a0] Tryz.func222 c c c fun _=>M<|p (ar c)<|O c<|M<|aa<|to_alloc zero_252 c c H fun b4 _ H1=>ad<|ak<|eG (mX K b4) (fun s2=>[(4,(.pointer (some ⟨b4,0,none⟩))),(12,(.bool s2))]) (fun s2=>[]) (ap<|J c<|aa<|aU H1 (gH c) c fun v6 _ H7=>aa<|F H7 en_227 fun r7 _ H8=>p (ct c)<|J c<|bT H8 (fun k10 H11=>G (Y<|bN k10)<|aW H11 sc_252 c (fun _=>c) c fun x10 H12=>G (Y<|bN k10)<|z_p (cr Tryz.underlying252 c)<|p (ao c (bN k10) c)<|ad<|cz x10.isNone H12 (.cons c<|.cons c<|.nil _) .slnil) fun k10 H11=>W (bb<|bo k10)<|W (bb<|bo k10)<|p (aI c (bo k10) c)<|ad<|cz true H11 (.cons c<|.cons c<|.nil _) .slnil) fun s2 _ H3=>av c H3 (fun k4 H5=>M<|p (ar c)<|O c<|ah<|bA (bV c (cf c)<|cf c) ⟨(none,false),c,H5⟩) fun k4 H5=>an<|M<|aa<|aW H5 sc_252 c (fun _=>c) c fun x13 H6=>p (ar c)<|O c<|ah<|bA (bV c (cf c)<|cf c) ⟨(x13,true),c,H6⟩
def sh_trap_Code (a0:Value) (K:Int→Hp→Prop):Hp→Prop:=hpv Tryz.prog (do eqGuard .eql 199 (.tmp 5) (.const Value.nilIface) a0 Value.nilIface; binOp .eql 199 a0 Value.nilIface:Sem Value) aA fun (v6:Bool)=>br v6 ( K 0) ( cl Tryz.prog km [a0] eO fun r9=>br r9.2 ( nn r9.1 fun q14=>ld (q14.1,q14.2 + 0) (cI .i64) fun x16=>K x16) ( K 9))
theorem sim_trap_Code (a0:Value) {K:Int→Hp→Prop} {h:Hp} (H:sh_trap_Code a0 K h):Ct Tryz.prog uD #[a0] h fun v h'=>∃ r,v = bi r∧K r h':=aw [a0] Tryz.func208 c c c fun _=>M<|O c<|ak<|M<|J c<|aa<|aU H (gA c c) c fun v6 _ H1=>ad<|av c H1 (fun k2 H3=>M<|O c<|ah<|D ⟨0,c,H3⟩) fun k2 H3=>an<|ak<|M<|J c<|aa<|F H3 en_222 fun r9 _ H4=>J c<|p (aj c c)<|p (aj c c)<|p (ar c)<|O c<|M<|J c<|ad<|av c H4 (fun k5 H6=>M<|J c<|bI H6 fun q14 e7 H8=>p (aL<|aK c<|aq e7)<|p (ae wd c)<|aa<|aW H8 oS c (fun _=>c) c fun x16 H9=>O c<|ah<|D ⟨x16,c,H9⟩) fun k5 H6=>an<|M<|O c<|ah<|D ⟨9,c,H6⟩
def sh_trap_In (a0:Int) (a1:ai) (a2:Value) (K:Value→Hp→Prop):Hp→Prop:=hpv Tryz.prog (do eqGuard .eql 199 (.tmp 7) (.const Value.nilIface) a2 Value.nilIface; binOp .eql 199 a2 Value.nilIface:Sem Value) aA fun (v8:Bool)=>br v8 ( K Value.nilIface) ( cl Tryz.prog uD [a2] bi fun r10=>hpv Tryz.prog (Instr.build nT #[(0,(.int .i64 r10)),(1,(.int .i64 a0)),(2,(.agg (ai.C a1).toArray)),(3,a2)]) R_trap_Trap fun (v14:cd)=>nw nT (cd.C v14) fun b15=>hpv Tryz.prog (Instr.makeInterface bg (.pointer (some ⟨b15,0,none⟩))) encV fun (v16:Value)=>K v16)
theorem sim_trap_In (a0:Int) (a1:ai) (a2:Value) {K:Value→Hp→Prop} {h:Hp} (H:sh_trap_In a0 a1 a2 K h):Ct Tryz.prog n_trap_In #[(.int .i64 a0),(.agg (ai.C a1).toArray),a2] h fun v h'=>∃ r,v = iL r∧K r h':=aw [(.int .i64 a0),(.agg (ai.C a1).toArray),a2] Tryz.func186 c c c fun _=>M<|aa<|cA (l:=ai.C a1) c c c fun b4=>O c<|ak<|M<|J c<|aa<|aU H (gA c c) c fun v8 _ H1=>ad<|av c H1 (fun k2 H3=>M<|O c<|ah<|D ⟨Value.nilIface,c,H3⟩) fun k2 H3=>an<|ak<|bm (n:=9) [bx b4 34 (ai.C a1)] cn c (.cons_cons _ .slnil)<|U 0 c (ag c)<|U 2 c (ag c)<|z_E 3 c (eA (k:=0) fy c c c c)<|U 4 c (ag c)<|R 1 c<|F H3 en_208 fun r10 _ H4=>⟨.cons_cons _ .slnil,R 5 c<|aU H4 (x_build (vs:=[(.int .i64 r10),(.int .i64 a0),(.agg (ai.C a1).toArray),a2]) c) c fun v14 _ H5=>⟨.cons_cons _ .slnil,R 6 c<|io c c c H5 fun b15 _ H6=>⟨.cons_cons _ .slnil,R 7 c<|aU H6 (gH c) c fun v16 _ H7=>⟨.cons_cons _ .slnil,U 8 c (ar c)<|aO (by kernel_rfl)<|ah<|D ⟨v16,c,H7⟩⟩⟩⟩⟩
def mY (K:Int→Hp→Prop) (Rec3:(Int × Ptr × Bool)→Hp→Prop) (s2:Int × Ptr × Bool):Hp→Prop:=br s2.2.2 ( nn s2.2.1 fun q14=>ld (q14.1,q14.2 + 7) cV fun x16=>cl Tryz.prog km [x16] eO fun r17=>Rec3 ((IntKind.i64.wrap (s2.1 + 1)),r17.1,r17.2)) ( K s2.1)
def sh_trap_Depth (a0:Value) (K:Int→Hp→Prop):Hp→Prop:=cl Tryz.prog km [a0] eO fun r8=>Lp (mY K) (0,r8.1,r8.2)
theorem sim_trap_Depth (a0:Value) {K:Int→Hp→Prop} {h:Hp} (H:sh_trap_Depth a0 K h):Ct Tryz.prog xh #[a0] h fun v h'=>∃ r,v = eJ r∧K r h':=aw [a0] Tryz.func228 c c c fun _=>M<|O c<|M<|O c<|ak<|M<|J c<|aa<|F H en_222 fun r8 _ H1=>J c<|p (aj c c)<|p (aj c c)<|p (ar c)<|O c<|ax<|bG (step:=mY K) (fun s2=>[(3,(.int .i64 s2.1)),(4,(pv s2.2.1)),(5,(.bool s2.2.2))]) (fun s2=>[]) H1 (.cons c<|.cons c<|.cons c<|.nil _) .slnil fun Rec3 s2 _ H4=>ak<|M<|J c<|ad<|av c H4 (fun k5 H6=>an<|ak<|ax<|ap<|J c<|p (bn c c)<|O c<|ap<|J c<|bI H6 fun q14 e7 H8=>p (aL<|aK c<|aq e7)<|p (ae fld_254_3 c)<|aa<|aW H8 sc_199 c (fun _=>c) c fun x16 H9=>aa<|F H9 en_222 fun r17 _ H10=>J c<|p (aj c c)<|p (aj c c)<|p (ar c)<|O c<|cM ((IntKind.i64.wrap (s2.1 + 1)),r17.1,r17.2) H10 (.cons c<|.cons c<|.cons c<|.nil _) .slnil) fun k5 H6=>bj<|M<|J c<|O c<|ah<|D ⟨s2.1,c,H6⟩
def nC (a0:Ptr) (K:ByteArray→Hp→Prop):Hp→Prop:=br a0.isNone ( K (⟨#[]⟩:ByteArray)) ( nn a0 fun q7=>ld (q7.1,q7.2 + 0) (cI .i64) fun x9=>cl Tryz.prog tt [(.int .i64 x9)] dY fun r10=>hpv Tryz.prog (do eqGuard .add 9 (.const (.string (⟨#[116,114,97,112,32]⟩:ByteArray))) (.tmp 10) (.string (⟨#[116,114,97,112,32]⟩:ByteArray)) (.string r10); binOp .add 9 (.string (⟨#[116,114,97,112,32]⟩:ByteArray)) (.string r10):Sem Value) dY fun (v11:ByteArray)=>ld (q7.1,q7.2 + 7) cV fun x15=>hpv Tryz.prog (do eqGuard .neq 199 (.tmp 15) (.const Value.nilIface) x15 Value.nilIface; binOp .neq 199 x15 Value.nilIface:Sem Value) aA fun (v16:Bool)=>br v16 ( ld (q7.1,q7.2 + 7) cV fun x21=>cln Tryz.prog (callMethod x21 "Error" #[]) dY fun (v22:ByteArray)=>hpv Tryz.prog (do eqGuard .add 9 (.const (.string (⟨#[58,32]⟩:ByteArray))) (.tmp 22) (.string (⟨#[58,32]⟩:ByteArray)) (.string v22); binOp .add 9 (.string (⟨#[58,32]⟩:ByteArray)) (.string v22):Sem Value) dY fun (v23:ByteArray)=>hpv Tryz.prog (do eqGuard .add 9 (.tmp 17) (.tmp 23) (.string v11) (.string v23); binOp .add 9 (.string v11) (.string v23):Sem Value) dY fun (v24:ByteArray)=>K v24) ( K v11))
theorem rE (a0:Ptr) {K:ByteArray→Hp→Prop} {h:Hp} (H:nC a0 K h):Ct Tryz.prog jg #[(pv a0)] h fun v h'=>∃ r,v = dY r∧K r h':=aw [(pv a0)] Tryz.func253 c c c fun _=>M<|O c<|ak<|M<|J c<|p (cr Tryz.underlying252 c)<|ad<|av c H (fun k1 H2=>M<|O c<|ah<|D ⟨(⟨#[]⟩:ByteArray),c,H2⟩) fun k1 H2=>an<|M<|J c<|bI H2 fun q7 e3 H4=>p (aL<|aK c<|aq e3)<|p (ae wd c)<|aa<|aW H4 oS c (fun _=>c) c fun x9 H5=>aa<|F H5 en_256 fun r10 _ H6=>aa<|aU H6 (gA c c) c fun v11 _ H7=>O c<|ak<|M<|J (aK c<|aq e3)<|p (aL c)<|p (ae fld_254_3 c)<|aa<|aW H7 sc_199 c (fun _=>c) c fun x15 H8=>aa<|aU H8 (gA c c) c fun v16 _ H9=>ad<|av c H9 (fun k10 H11=>ap<|J c<|J (aK c<|aq e3)<|p (aL c)<|p (ae fld_254_3 c)<|aa<|aW H11 sc_199 c (fun _=>c) c fun x21 H12=>aa<|gl H12 (gj (vs:=[]) c c) c fun v22 _ H13=>aa<|aU H13 (gA c c) c fun v23 _ H14=>aa<|aU H14 (gA c c) c fun v24 _ H15=>O c<|M<|J c<|O c<|ah<|D ⟨v24,c,H15⟩) fun k10 H11=>an<|M<|J c<|O c<|ah<|D ⟨v11,c,H11⟩
def sh_trap_Trap_Is (a0:Ptr) (a1:Value) (K:Bool→Hp→Prop):Hp→Prop:=hpv Tryz.prog (Instr.typeAssert a1 gB bg true) eO fun (v9:Ptr × Bool)=>br v9.2 ( br (!a0.isNone) ( br (!v9.1.isNone) ( nn a0 fun q23=>nn v9.1 fun q27=>ld (q23.1,q23.2 + 0) (cI .i64) fun x25=>ld (q27.1,q27.2 + 0) (cI .i64) fun x29=>K (x25 == x29)) ( K false)) ( K false)) ( K false)
theorem sim_trap_Trap_Is (a0:Ptr) (a1:Value) {K:Bool→Hp→Prop} {h:Hp} (H:sh_trap_Trap_Is a0 a1 K h):Ct Tryz.prog tn #[(pv a0),a1] h fun v h'=>∃ r,v = aA r∧K r h':=aw [(pv a0),a1] Tryz.func254 c c c fun _=>M<|O c<|M<|J c<|aa<|aU H (gi c) c fun v9 _ H1=>J c<|p (aj c c)<|p (aj c c)<|p (ar c)<|O c<|ak<|bm (n:=21) [] cn c .slnil<|U 0 c (ag c)<|U 1 c (ag c)<|eY H1 (fun k2 H3=>I 2 c (Y k2) (ve<|ag c)<|I 3 c (Y k2) (ve<|v_pneT Tryz.underlying252 c)<|U 4 c (aI c k2 c)<|U 5 c (ag c)<|eY H3 (fun k4 H5=>I 6 c (Y k4) (ve<|ag c)<|I 7 c (Y k4) (ve<|v_pneT Tryz.underlying252 c)<|U 8 c (aI c k4 c)<|U 9 c (ag c)<|eY H5 (fun k6 H7=>I 10 c (Y k6) (ve<|ag c)<|I 14 c (Y k6) (ve<|ag c)<|hO H7 fun q23 e8 H9=>I 11 c (Y k6) (ve<|aL<|aK c<|aq e8)<|I 12 c (Y k6) (ve<|ae wd c)<|hO H9 fun q27 e10 H11=>I 15 c (Y k6) (ve<|aL<|aK c<|aq e10)<|I 16 c (Y k6) (ve<|ae wd c)<|eu (i:=13) (fun _ _ _ _ hh=>hh) H11 c (by kernel_rfl) c c c (Y k6) oS c (fun _=>c) c fun x25 H12=>eu (i:=17) (fun _ _ _ _ hh=>hh) H12 c (by kernel_rfl) c c c (Y k6) oS c (fun _=>c) c fun x29 H13=>I 18 c (Y k6) (ve<|bH c c)<|U 19 c (aI c k6 c)<|U 20 c (ar c)<|aO (by kernel_rfl)<|ah<|D ⟨(x25 == x29),c,H13⟩) fun k6 H7=>Z 10 c (aJ k6)<|Z 11 c (aJ k6)<|Z 12 c (aJ k6)<|Z 13 c (aJ k6)<|Z 14 c (aJ k6)<|Z 15 c (aJ k6)<|Z 16 c (aJ k6)<|Z 17 c (aJ k6)<|Z 18 c (aJ k6)<|U 19 c (ao c k6 c)<|U 20 c (ar c)<|aO (by kernel_rfl)<|ah<|D ⟨false,c,H7⟩) fun k4 H5=>Z 6 c (aJ k4)<|Z 7 c (aJ k4)<|U 8 c (ao c k4 c)<|U 9 c (ag c)<|Z 10 c c<|Z 11 c c<|Z 12 c c<|Z 13 c c<|Z 14 c c<|Z 15 c c<|Z 16 c c<|Z 17 c c<|Z 18 c c<|U 19 c (ao c c c)<|U 20 c (ar c)<|aO (by kernel_rfl)<|ah<|D ⟨false,c,H5⟩) fun k2 H3=>Z 2 c (aJ k2)<|Z 3 c (aJ k2)<|U 4 c (ao c k2 c)<|U 5 c (ag c)<|Z 6 c c<|Z 7 c c<|U 8 c (ao c c c)<|U 9 c (ag c)<|Z 10 c c<|Z 11 c c<|Z 12 c c<|Z 13 c c<|Z 14 c c<|Z 15 c c<|Z 16 c c<|Z 17 c c<|Z 18 c c<|U 19 c (ao c c c)<|U 20 c (ar c)<|aO (by kernel_rfl)<|ah<|D ⟨false,c,H3⟩
def rF (a0:Ptr) (K:Value→Hp→Prop):Hp→Prop:=br a0.isNone ( K Value.nilIface) ( nn a0 fun q6=>ld (q6.1,q6.2 + 7) cV fun x8=>K x8)
theorem sim_trap_Trap_Unwrap (a0:Ptr) {K:Value→Hp→Prop} {h:Hp} (H:rF a0 K h):Ct Tryz.prog nE #[(pv a0)] h fun v h'=>∃ r,v = iL r∧K r h':=aw [(pv a0)] Tryz.func255 c c c fun _=>M<|O c<|ak<|M<|J c<|p (cr Tryz.underlying252 c)<|ad<|av c H (fun k1 H2=>M<|O c<|ah<|D ⟨Value.nilIface,c,H2⟩) fun k1 H2=>an<|M<|J c<|bI H2 fun q6 e3 H4=>p (aL<|aK c<|aq e3)<|p (ae fld_254_3 c)<|aa<|aW H4 sc_199 c (fun _=>c) c fun x8 H5=>O c<|ah<|D ⟨x8,c,H5⟩
end Go.Proofs.YtemoifebbhoinaaGreatDoor
namespace Go.Proofs.YtemoifebbhoinaaGreatDoor
open Go Mb
variable {ET:Nat} {EF:Nat × Nat}
abbrev dz (b:Nat):Value:=.iface bg (.pointer (some ⟨b,0,none⟩))
theorem g0:Tryz.prog.globals.size = 4:=by kernel_rfl
theorem g1:typeHandle Tryz.prog bg = pv (some (4,bg)):=by kernel_rfl
theorem g2:(Tryz.prog.globals[0]?).map (·.type) = some 249:=by kernel_rfl
theorem oneErr:((List.range 351).filter fun t=>Tryz.prog.rowNamed t [101,114,114,111,114]) = [199]:=by kernel_rfl
theorem g4:Tryz.prog.types.size = 351:=by kernel_rfl
abbrev rtV (T:Nat):Value:=.iface rD (.agg #[pv (some (4,T))])
abbrev vl (T c f:Nat):aN:=⟨some (4,T),some (c,0),f⟩
abbrev vlV (T c f:Nat):Value:=.agg (aN.C (vl T c f)).toArray
section
variable (b:Nat) (K:Next→Hp→Prop) (h:Hp)
theorem x7:hp Tryz.prog (callFunc gn #[dz b]) K h = K (.value (rtV bg)) h:=by kernel_rfl
theorem x8:hp Tryz.prog (callFunc cX #[.iface bC (.pointer (some ⟨b,0,none⟩))]) K h = (true = true∧∀ e,h e = none→K (.value (vlV bC e 150)) (eq h e (.cells #[pv (some (b,0))] bC (0,0)))):=by kernel_rfl
theorem x8':hp Tryz.prog (callFunc cX #[dz b]) K h = (true = true∧∀ e,h e = none→K (.value (vlV bg e 150)) (eq h e (.cells #[pv (some (b,0))] bg (0,0)))):=by kernel_rfl
theorem x10:hp Tryz.prog (callMethod (rtV bC) "Kind" #[]) K h = K (.value (.int .u8 22)) h:=by kernel_rfl
theorem x11:hp Tryz.prog (callMethod (rtV bC) "Elem" #[]) K h = K (.value (rtV bg)) h:=by kernel_rfl
theorem x12:hp Tryz.prog (callMethod (rtV bg) "Kind" #[]) K h = K (.value (.int .u8 22)) h:=by kernel_rfl
theorem x13:hp Tryz.prog (callMethod (rtV bg) "Comparable" #[]) K h = K (.value (.bool true)) h:=by kernel_rfl
theorem x14:hp Tryz.prog (callMethod (rtV bg) "AssignableTo" #[rtV bg]) K h = K (.value (.bool true)) h:=by kernel_rfl
theorem x15 (c:Nat):hp Tryz.prog (callFunc iM #[vlV bC c 150]) K h = K (.value (rtV bC)) h:=by kernel_rfl
theorem x16 (c:Nat):hp Tryz.prog (callFunc eX #[vlV bC c 150]) K h =
  hp Tryz.prog (do let r ← Extern.ReflectliteValue.isNil bC ⟨c,0,none⟩ 150 22; pure (.value r)) K h:=by kernel_rfl
theorem x17:hp Tryz.prog (callMethod (rtV bg) "Implements" #[rtV gB]) K h = K (.value (.bool true)) h:=by kernel_rfl
theorem x18 (c:Nat):hp Tryz.prog (callFunc fw #[vlV bC c 150]) K h =
  hp Tryz.prog (do let r ← Extern.ReflectliteValue.elem bC ⟨c,0,none⟩ 150 22; pure (.value r)) K h:=by kernel_rfl
theorem x19 (c d:Nat):hp Tryz.prog (callFunc fC #[vlV bg c 406,vlV bg d 150]) K h =
  hp Tryz.prog (do let r ← (do let v ← loadVar bg ⟨d,0,none⟩; storeVar bg ⟨c,0,none⟩ v; pure (Value.tuple #[])); pure (.value r)) K h:=by kernel_rfl
theorem y1 (c:Nat) (K:Value→Hp→Prop):hp Tryz.prog (loadVar bC ⟨c,0,none⟩) K h = ∃ v,lr h ⟨c,0,none⟩ = some v∧K v h:=by kernel_rfl
theorem y2 (c:Nat) (K:Value→Hp→Prop):hp Tryz.prog (loadVar bg ⟨c,0,none⟩) K h = ∃ v,lr h ⟨c,0,none⟩ = some v∧K v h:=by kernel_rfl
theorem y3 (b:Nat) (K:Value→Hp→Prop):hp Tryz.prog (Extern.ReflectliteValue.mk bg ⟨b,0,none⟩ Extern.ReflectliteValue.flagAddr) K h = K (vlV bg b 406) h:=by kernel_rfl
theorem y4 (K:Option TypeId→Hp→Prop):hp Tryz.prog (Extern.Rtype.elem? bC) K h = K (some bg) h:=by kernel_rfl
theorem y5 (b c:Nat) (K:Unit→Hp→Prop):hp Tryz.prog (storeVar bg ⟨c,0,none⟩ (.pointer (some ⟨b,0,none⟩))) K h = hp Tryz.prog (storeCells ⟨c,0,none⟩ [.pointer (some ⟨b,0,none⟩)]) K h:=by kernel_rfl
theorem y6 (K:Value→Hp→Prop) {a b n m:Nat}:hp Tryz.prog (do eqGuard .eql 199 (.tmp n) (.tmp m) (dz a) (dz b); binOp .eql 199 (dz a) (dz b):Sem Value) K h = hp Tryz.prog (do let r ← sameAddr ⟨a,0,none⟩ ⟨b,0,none⟩; pure (.bool r)) K h:=by kernel_rfl
theorem x25 (K:Bool→Hp→Prop) {a b:Nat} {ca cb:List Value} {Ta Tb:Nat} (ha:h a = some (.cells ca.toArray Ta (0,0))) (hb:h b = some (.cells cb.toArray Tb (0,0))) (H:K (a == b) h):hp Tryz.prog (sameAddr ⟨a,0,none⟩ ⟨b,0,none⟩) K h:=by
  unfold sameAddr
  rcases Decidable.em (a = b) with e | e
  · subst e
    rw [if_pos (by simp)]
    have H':K true h:=by simpa using H
    simpa [hp_pure] using H'
  · rw [if_neg (by simpa using e)]
    have fa:∀ (K:Bool→Hp→Prop) (o:Nat),hp Tryz.prog (frozen ⟨a,o,none⟩) K h↔K false h:=fun K o =>
      ⟨fun ⟨o',h1,h2⟩=>by rw [ha] at h1; cases h1; simpa [hp,uA] using h2,fun h2=>⟨_,ha,by simpa [hp,uA] using h2⟩⟩
    have fb:∀ (K:Bool→Hp→Prop) (o:Nat),hp Tryz.prog (frozen ⟨b,o,none⟩) K h↔K false h:=fun K o =>
      ⟨fun ⟨o',h1,h2⟩=>by rw [hb] at h1; cases h1; simpa [hp,uA] using h2,fun h2=>⟨_,hb,by simpa [hp,uA] using h2⟩⟩
    have sa:∀ (K:Option (TypeId × Nat)→Hp→Prop),hp Tryz.prog (shape a) K h↔K (some (Ta,ca.length)) h:=fun K =>
      ⟨fun ⟨o',h1,h2⟩=>by rw [ha] at h1; cases h1; simpa [hp,oshape] using h2,fun h2=>⟨_,ha,by simpa [hp,oshape] using h2⟩⟩
    have sb:∀ (K:Option (TypeId × Nat)→Hp→Prop),hp Tryz.prog (shape b) K h↔K (some (Tb,cb.length)) h:=fun K =>
      ⟨fun ⟨o',h1,h2⟩=>by rw [hb] at h1; cases h1; simpa [hp,oshape] using h2,fun h2=>⟨_,hb,by simpa [hp,oshape] using h2⟩⟩
    have eb:(a == b) = false:=by simpa using e
    rw [eb] at H
    simp [cU,fa,fb,sa,sb,noView,viewAt,mayBeOne,stringish,hp_pure,H]
end
section
variable {P:Program} {τ:Type} {enc:τ→Value} {K:τ→Hp→Prop} {h:Hp}
theorem fE {m:Sem Value} (r:τ) (e:∀ (K:Value→Hp→Prop) h,hp P m K h = K (enc r) h) (k:K r h):hpv P m enc K h:=⟨by rw [e]; exact ⟨r,rfl,k⟩⟩
theorem tL {m:Sem Next} (r:τ) (e:∀ (K:Next→Hp→Prop) h,hp P m K h = K (.value (enc r)) h) (k:K r h):cln P m enc K h:=⟨by rw [e]; exact .inl ⟨r,rfl,k⟩⟩
theorem cln_en {m:Sem Next} {f:FuncId} {vs:List Value} (e:∀ (K:Next→Hp→Prop) h,hp P m K h = K (.enter f vs.toArray) h) (k:cl P f vs enc K h):cln P m enc K h:=⟨by rw [e]; exact .inr ⟨f,_,rfl,k⟩⟩
end
abbrev etB (ET:Nat) (EF:Nat × Nat):As:=obj 0 (.cells #[rtV gB] ET EF)
abbrev trB (b:Nat) (t:cd):As:=blk b nT (cd.C t)
theorem en_0 (b n:Nat) (K:Value→Hp→Prop) (h:Hp):hp Tryz.prog (do eqGuard .eql 199 (.tmp n) (.const Value.nilIface) (dz b) Value.nilIface; binOp .eql 199 (dz b) Value.nilIface:Sem Value) K h = K (.bool false) h:=by kernel_rfl
theorem en_00 (n:Nat) (K:Value→Hp→Prop) (h:Hp):hp Tryz.prog (do eqGuard .eql 199 (.tmp n) (.const Value.nilIface) Value.nilIface Value.nilIface; binOp .eql 199 Value.nilIface Value.nilIface:Sem Value) K h = K (.bool true) h:=by kernel_rfl
theorem en_1 (b n:Nat) (K:Value→Hp→Prop) (h:Hp):hp Tryz.prog (do eqGuard .eql 20 (.tmp n) (.const Value.nilIface) (.iface bC (.pointer (some ⟨b,0,none⟩))) Value.nilIface; binOp .eql 20 (.iface bC (.pointer (some ⟨b,0,none⟩))) Value.nilIface:Sem Value) K h = K (.bool false) h:=by kernel_rfl
theorem sp_As_nil (v:Value):Sp Tryz.prog uG [Value.nilIface,v] aA [] (fun r=>pa_ (r = false) []):=by
  intro h st
  refine sim_errors_As _ _ ?_
  unfold wZ
  exact fE true (en_00 _) (dZ rfl (aZ rfl st))
section
variable {h:Hp} {b c d:Nat}
theorem c22 {K:Bool→Hp→Prop} (e:lr h ⟨c,0,none⟩ = some (.pointer (some ⟨b,0,none⟩))) (H:K false h):cln Tryz.prog (callFunc eX #[vlV bC c 150]) aA K h:=by
  constructor
  rw [x16,cU]
  unfold Extern.ReflectliteValue.isNil
  rw [if_neg (by decide)]
  rw [cU,y1]; exact ⟨_,e,.inl ⟨false,rfl,H⟩⟩
theorem c23 {K:aN→Hp→Prop} (e:lr h ⟨c,0,none⟩ = some (.pointer (some ⟨b,0,none⟩))) (H:K (vl bg b 406) h):cln Tryz.prog (callFunc fw #[vlV bC c 150]) fJ K h:=by
  constructor
  rw [x18,cU]
  unfold Extern.ReflectliteValue.elem
  rw [if_neg (by decide),cU,y1]
  refine ⟨_,e,?_⟩
  rw [cU,y4]
  show hp _ (Extern.ReflectliteValue.mk _ _ _) _ h
  rw [y3]; exact .inl ⟨_,rfl,H⟩
theorem c24 {K:Unit→Hp→Prop} (e:lr h ⟨d,0,none⟩ = some (.pointer (some ⟨b,0,none⟩))) (H:hp Tryz.prog (storeCells ⟨c,0,none⟩ [.pointer (some ⟨b,0,none⟩)]) (fun _=>K ()) h):cln Tryz.prog (callFunc fC #[vlV bg c 406,vlV bg d 150]) R_ K h:=by
  constructor
  rw [x19,cU,cU,y2]; refine ⟨_,e,?_⟩
  rw [cU,y5]; exact hp_mono _ (fun _ _ k=>.inl ⟨(),rfl,k⟩) _ H
theorem c8 {K:aN→Hp→Prop} (H:∀ e,h e = none→K (vl bC e 150) (eq h e (.cells #[pv (some (b,0))] bC (0,0)))):cln Tryz.prog (callFunc cX #[.iface bC (.pointer (some ⟨b,0,none⟩))]) fJ K h:=by
  constructor
  rw [x8]
  exact ⟨rfl,fun e he=>.inl ⟨_,rfl,H e he⟩⟩
theorem c8' {K:aN→Hp→Prop} (H:∀ e,h e = none→K (vl bg e 150) (eq h e (.cells #[pv (some (b,0))] bg (0,0)))):cln Tryz.prog (callFunc cX #[dz b]) fJ K h:=by
  constructor
  rw [x8']
  exact ⟨rfl,fun e he=>.inl ⟨_,rfl,H e he⟩⟩
end
theorem blk_cell {l:List As} {h:Hp} {i b:Nat} {T:TypeId} {c:List Value} {v:Value} (hi:l[i]? = some (blk b T c)) (hv:c[0]? = some v) (s:aF l h):lr h ⟨b,0,none⟩ = some v:=by
  obtain ⟨g1,a1,sub1⟩:=dX hi s
  have:=sub1 _ _ a1
  unfold lr
  rw [this]
  simpa using hv
theorem sp_as (b c d:Nat) (p:Ptr):Sp Tryz.prog uF [dz b,.iface bC (.pointer (some ⟨c,0,none⟩)),vlV bC d 150,rtV bg] aA
    [blk c bg [pv p],blk d bC [pv (some (c,0))]] (fun r=>pa_ (r = true) [blk c bg [pv (some (b,0))]]):=by
  intro h st
  refine sim_errors_as _ _ _ _ ?_
  unfold sh_errors_as
  refine ⟨fun s h=>s = dz b∧aF [blk c bg [pv p],blk d bC [pv (some (c,0))]] h,fun _ _=>0,⟨rfl,st⟩,?_⟩
  rintro _ h1 ⟨rfl,s1⟩
  unfold xy
  refine tL (rtV bg) (fun K h=>x7 b K h) ?_
  refine tL true (fun K h=>x14 K h) (dZ rfl ?_)
  refine c23 (blk_cell (i:=1) rfl rfl s1) ?_
  refine c8' fun e he=>?_
  have s2:aF (blk e bg [pv (some (b,0))]::_) _:=new_s (o:=.cells #[pv (some (b,0))] bg (0,0)) s1 he
  refine c24 (blk_cell (i:=0) (T:=bg) (c:=[pv (some (b,0))]) rfl rfl s2) ?_
  obtain ⟨g2,a2,sub2⟩:=dX (i:=1) (A:=blk c bg [pv p]) rfl s2
  refine hp_storeCells _ 0 0 [pv p] _ (sub2 _ _ a2) (by simp) rfl ?_
  have s3:aF (_::blk c bg [pv (some (b,0))]::_) _:=obj_set (o':=.cells #[pv (some (b,0))] bg (0,0)) (i:=1) s2 rfl
  exact aZ rfl (bZ (l:=[_,_]) (bc [0,1] s3 rfl))
theorem sp_As (b c:Nat) (p:Ptr):Sp Tryz.prog uG [dz b,.iface bC (.pointer (some ⟨c,0,none⟩))] aA
    [(etB ET EF),blk c bg [pv p]] (fun r=>pa_ (r = true) [(etB ET EF),blk c bg [pv (some (b,0))]]):=by
  intro h st
  refine sim_errors_As _ _ ?_
  unfold wZ
  refine fE false (en_0 b _) (dI rfl ?_)
  refine fE false (en_1 c _) (dI rfl ?_)
  unfold xB
  refine c8 fun e he=>?_
  have s2:aF (blk e bC [pv (some (c,0))]::_) _:=new_s (o:=.cells #[pv (some (c,0))] bC (0,0)) st he
  refine tL (rtV bC) (fun K h=>x15 K h e) ?_
  refine tL 22 (fun K h=>x10 K h) (dZ rfl ?_)
  refine c22 (blk_cell (i:=0) (T:=bC) (c:=[pv (some (c,0))]) rfl rfl s2) (dI rfl ?_)
  unfold xA
  refine tL (rtV bg) (fun K h=>x11 K h) ?_
  refine tL 22 (fun K h=>x12 K h) (dZ rfl ?_)
  obtain ⟨g3,a3,sub3⟩:=dX (i:=1) (A:=etB ET EF) rfl s2
  refine ⟨rtV gB,⟨_,_,_,sub3 _ _ a3,fun i v hv=>?_⟩,?_⟩
  · rcases i with _ | i <;> first | exact hv | simp [cV] at hv
  refine tL true (fun K h=>x17 K h) (dI rfl ?_)
  unfold sA
  refine cR [2,0,1] (rest:=[(etB ET EF)]) (sp_as b c e p) s2 rfl fun r h' s3=>?_
  obtain ⟨rfl,s4⟩:=bu.1 s3
  exact aZ rfl (bc [1,0] s4 rfl)
abbrev firstOf (b:Nat):Ptr × Bool:=(some (b,0),true)
theorem sp_First (b:Nat):Sp Tryz.prog km [dz b] eO [(etB ET EF)] (fun r=>pa_ (r = firstOf b) [(etB ET EF)]):=by
  intro h st
  refine sim_trap_First _ ?_
  unfold uV
  refine pD st fun c h1 s1=>?_
  refine fE (.iface bC (.pointer (some ⟨c,0,none⟩))) (fun K h=>by kernel_rfl) ?_
  refine cR [1,0] (rest:=[]) (sp_As b c none) s1 rfl fun r h' s2=>?_
  obtain ⟨rfl,s3⟩:=bu.1 s2
  refine dZ rfl ?_
  refine bp (some (b,0)) s3 (i:=1) rfl rfl rfl ?_
  unfold mX
  refine dI rfl ?_
  refine bp (some (b,0)) s3 (i:=1) rfl rfl rfl ?_
  exact aZ rfl (bZ (l:=[_]) (bc [1] s3 rfl))
theorem sp_First_nil:Sp Tryz.prog km [Value.nilIface] eO [] (fun r=>pa_ (r = (none,false)) []):=by
  intro h st
  refine sim_trap_First _ ?_
  unfold uV
  refine pD st fun c h1 s1=>?_
  refine fE (.iface bC (.pointer (some ⟨c,0,none⟩))) (fun K h=>by kernel_rfl) ?_
  refine tV (sp_As_nil _) s1 fun r h' hr s2=>?_
  subst hr
  refine dI rfl ?_
  unfold mX
  exact dZ rfl (aZ rfl trivial)
theorem sp_Of (n:Int) (hn:n ≠ 0):Sp Tryz.prog kK [.int .i64 n] iL [] (fun r=>ex fun b=>pa_ (r = dz b) [trB b ⟨n,-1,⟨0,0,0,0,0⟩,.nilIface⟩]):=by
  intro h st
  refine sim_trap_Of _ ?_
  unfold sh_trap_Of
  refine dI (by simpa using hn) ?_
  refine pD st fun b h1 s1=>?_
  refine fE (dz b) (fun K h=>by kernel_rfl) ?_
  exact ⟨b,aZ rfl s1⟩
theorem sp_Of0:Sp Tryz.prog kK [.int .i64 0] iL [] (fun r=>pa_ (r = Value.nilIface) []):=by
  intro h st
  refine sim_trap_Of _ ?_
  unfold sh_trap_Of
  exact dZ rfl (aZ rfl st)
theorem sp_Code (b:Nat) (t:cd):Sp Tryz.prog uD [dz b] bi [(etB ET EF),trB b t] (fun r=>pa_ (r = t.fCode) [(etB ET EF),trB b t]):=by
  intro h st
  refine sim_trap_Code _ ?_
  unfold sh_trap_Code
  refine fE false (en_0 b _) (dI rfl ?_)
  refine bR (i:=0) (sp_First b) rfl st fun r h' hr s2=>?_
  subst hr
  refine dZ rfl (cE ?_)
  refine bp t.fCode s2 (i:=1) rfl rfl rfl ?_
  exact aZ rfl s2
theorem sp_In (env:Int) (c:ai) (b:Nat) (t:cd):Sp Tryz.prog n_trap_In [.int .i64 env,.agg (ai.C c).toArray,dz b] iL [(etB ET EF),trB b t]
    (fun r=>ex fun e=>pa_ (r = dz e) [trB e ⟨t.fCode,env,c,dz b⟩,(etB ET EF),trB b t]):=by
  intro h st
  refine sim_trap_In _ _ _ ?_
  unfold sh_trap_In
  refine fE false (en_0 b _) (dI rfl ?_)
  refine cR [] (rest:=[]) (sp_Code b t) st (List.append_nil _).symm fun r h' s2=>?_
  obtain ⟨rfl,s3⟩:=bu.1 s2
  refine fE ⟨t.fCode,env,c,dz b⟩ (fun K h=>by kernel_rfl) ?_
  refine pD s3 fun e h1 s4=>?_
  refine fE (dz e) (fun K h=>by kernel_rfl) ?_
  exact ⟨e,aZ rfl s4⟩
theorem sp_Depth2 (b e:Nat) (t u:cd) (ht:t.fErr = dz e) (hu:u.fErr = Value.nilIface):Sp Tryz.prog xh [dz b] eJ [(etB ET EF),trB b t,trB e u] (fun r=>pa_ (r = 2) [(etB ET EF),trB b t,trB e u]):=by
  intro h st
  refine sim_trap_Depth _ ?_
  unfold sh_trap_Depth
  refine bR (i:=0) (sp_First b) rfl st fun r h' hr s2=>?_
  subst hr
  refine ⟨fun s h=>(s = (0,some (b,0),true)∨s = (1,some (e,0),true)∨s = (2,none,false))∧aF [(etB ET EF),trB b t,trB e u] h,fun s _=>3 - s.1.toNat,⟨.inl rfl,s2⟩,?_⟩
  rintro s h1 ⟨rfl | rfl | rfl,s3⟩
  · unfold mY
    refine dZ rfl (cE ?_)
    refine bp t.fErr s3 (i:=1) rfl rfl rfl ?_
    rw [ht]
    refine bR (i:=0) (sp_First e) rfl s3 fun r h' hr s4=>?_
    subst hr
    exact ⟨⟨.inr (.inl rfl),s4⟩,Nat.le_of_ble_eq_true rfl⟩
  · unfold mY
    refine dZ rfl (cE ?_)
    refine bp u.fErr s3 (i:=2) rfl rfl rfl ?_
    rw [hu]
    refine tV sp_First_nil s3 fun r h' hr s4=>?_
    subst hr
    exact ⟨⟨.inr (.inr rfl),s4⟩,Nat.le_of_ble_eq_true rfl⟩
  · unfold mY
    exact dI rfl (aZ rfl s3)
end Go.Proofs.YtemoifebbhoinaaGreatDoor
namespace Go.Proofs.YtemoifebbhoinaaGreatDoor
open Go Mb
set_option linter.unusedVariables false
def sh_strconv_Itoa (a0:Int) (K:ByteArray→Hp→Prop):Hp→Prop:=cl Tryz.prog jJ [(.int .i64 a0)] dY fun r4=>K r4
theorem sim_strconv_Itoa (a0:Int) {K:ByteArray→Hp→Prop} {h:Hp} (H:sh_strconv_Itoa a0 K h):Ct Tryz.prog tt #[(.int .i64 a0)] h fun v h'=>∃ r,v = dY r∧K r h':=aw [(.int .i64 a0)] Tryz.func256 c c c fun _=>M<|O c<|M<|J c<|aa<|F H en_257 fun r4 _ H1=>O c<|ah<|D ⟨r4,c,H1⟩
end Go.Proofs.YtemoifebbhoinaaGreatDoor
namespace Go.Proofs.YtemoifebbhoinaaGreatDoor
open Go Mb
set_option linter.unusedVariables false
def mH (a0:Int) (K:ByteArray→Hp→Prop):Hp→Prop:=br (decide (a0 < 10)) ( hpv Tryz.prog (Instr.sliceAt vq (.string str_73df774b) (some (.int .i64 a0)) (some (.int .i64 (IntKind.i64.wrap (a0 + 1)))) none) dY fun (v8:ByteArray)=>K v8) ( hpv Tryz.prog (Instr.sliceAt vq (.string str_e9752c08) (some (.int .i64 (IntKind.i64.wrap (a0 * 2)))) (some (.int .i64 (IntKind.i64.wrap ((IntKind.i64.wrap (a0 * 2)) + 2)))) none) dY fun (v14:ByteArray)=>K v14)
theorem sW (a0:Int) {K:ByteArray→Hp→Prop} {h:Hp} (H:mH a0 K h):Ct Tryz.prog jw #[(.int .i64 a0)] h fun v h'=>∃ r,v = dY r∧K r h':=aw [(.int .i64 a0)] Tryz.func259 c c c fun _=>M<|O c<|ak<|M<|J c<|p (cq c c)<|ad<|av c H (fun k1 H2=>M<|J c<|J c<|p (bn c c)<|aa<|aU H2 (eS c c c c c) c fun v8 _ H3=>O c<|ah<|D ⟨v8,c,H3⟩) fun k1 H2=>an<|M<|J c<|p (v_mul c c)<|J c<|p (v_mul c c)<|p (bn c c)<|aa<|aU H2 (eS c c c c c) c fun v14 _ H4=>O c<|ah<|D ⟨v14,c,H4⟩
def gr (a0:Int) (K:ByteArray→Hp→Prop) (b5:Nat) (s9:Int):Hp→Prop:=cl Tryz.prog rv [(.int .u64 s9)] eJ fun r27=>hpv Tryz.prog (Instr.sliceAt wz (.pointer (some ⟨b5,0,none⟩)) (some (.int .i64 1)) (some (.int .i64 (IntKind.i64.wrap (1 + r27)))) none) R_Suint8 fun (v30:Sl)=>cl Tryz.prog pE [(sv v30),(.int .u64 s9)] R_ fun (_:Unit)=>br (decide (a0 < 0)) ( st (b5,0) [.int .u8 45]<|hpv Tryz.prog (Instr.sliceAt wz (.pointer (some ⟨b5,0,none⟩)) none (some (.int .i64 (IntKind.i64.wrap (1 + r27)))) none) R_Suint8 fun (v38:Sl)=>hpv Tryz.prog (convert 329 9 (sv v38)) dY fun (v39:ByteArray)=>K v39) ( hpv Tryz.prog (Instr.sliceAt wz (.pointer (some ⟨b5,0,none⟩)) (some (.int .i64 1)) (some (.int .i64 (IntKind.i64.wrap (1 + r27)))) none) R_Suint8 fun (v42:Sl)=>hpv Tryz.prog (convert 329 9 (sv v42)) dY fun (v43:ByteArray)=>K v43)
def ka (a0:Int) (a1:Int) (K:ByteArray→Hp→Prop):Hp→Prop:=br (a1 == 10) ( br ((decide (0 ≤ a0)) && (decide (a0 < 100))) ( cl Tryz.prog jw [(.int .i64 a0)] dY fun r19=>K r19) ( nw wz [.int .u8 0,.int .u8 0,.int .u8 0,.int .u8 0,.int .u8 0,.int .u8 0,.int .u8 0,.int .u8 0,.int .u8 0,.int .u8 0,.int .u8 0,.int .u8 0,.int .u8 0,.int .u8 0,.int .u8 0,.int .u8 0,.int .u8 0,.int .u8 0,.int .u8 0,.int .u8 0,.int .u8 0,.int .u8 0,.int .u8 0,.int .u8 0] fun b5=>br (decide (a0 < 0)) ( gr a0 K b5 (IntKind.u64.wrap (0 - (IntKind.u64.wrap a0)))) ( gr a0 K b5 (IntKind.u64.wrap a0)))) ( cl Tryz.prog ra [(sv (⟨none,0,0,none⟩:Sl)),(.int .u64 (IntKind.u64.wrap a0)),(.int .i64 a1),(.bool (decide (a0 < 0))),(.bool false)] R_Suint8_string fun r50=>K r50.2)
theorem qg (a0:Int) (a1:Int) {K:ByteArray→Hp→Prop} {h:Hp} (H:ka a0 a1 K h):Ct Tryz.prog gK #[(.int .i64 a0),(.int .i64 a1)] h fun v h'=>∃ r,v = dY r∧K r h':=aw [(.int .i64 a0),(.int .i64 a1)] Tryz.func258 c c c fun _=>M<|O c<|ak<|M<|J c<|p (bH c c)<|ad<|av c H (fun k1 H2=>ak<|M<|J c<|p (v_le c c)<|J c<|V c c (ay _) (fun g3=>wv<|ag c)<|V c c (ay _) (fun g4=>wv<|cq (az c g4) c)<|p (bO c c)<|ad<|av c H2 (fun k5 H6=>M<|J c<|aa<|F H6 en_259 fun r19 _ H7=>O c<|ah<|D ⟨r19,c,H7⟩) fun k5 H6=>an<|M<|aa<|to_alloc zero_326 c c H6 fun b5 _ H8=>ad<|M<|J c<|p (eB ⟨_,Tryz.underlying2⟩ Tryz.underlying22 c)<|O c<|eG (gr a0 K b5) (fun s9=>[(0,(.int .i64 a0)),(5,(.pointer (some ⟨b5,0,none⟩))),(6,(.int .u64 s9))]) (fun s9=>[]) (M<|J c<|p (cq c c)<|ad<|av c H8 (fun k21 H22=>ap<|J c<|p (v_neg c)<|O c<|cz (IntKind.u64.wrap (0 - (IntKind.u64.wrap a0))) H22 (.cons c<|.cons c<|.cons c<|.nil _) .slnil) fun k21 H22=>an<|cz (IntKind.u64.wrap a0) H22 (.cons c<|.cons c<|.cons c<|.nil _) .slnil) fun s9 _ H10=>M<|J c<|aa<|F H10 en_260 fun r27 _ H11=>O c<|M<|J c<|p (bn c c)<|aa<|aU H11 (eS c c c c c) c fun v30 _ H12=>J c<|aa<|F H12 en_261 fun r32 _ H13=>ad<|ak<|M<|J c<|p (cq c c)<|ad<|av c H13 (fun k14 H15=>M<|p (bw arr_326 c c (by decide))<|aa<|dh inf_5 c c c c c H15 fun _ H16=>ad<|M<|J c<|p (bn c c)<|aa<|aU H16 (eS c c c c c) c fun v38 _ H17=>aa<|aU H17 (x_convert c) c fun v39 _ H18=>O c<|ah<|D ⟨v39,c,H18⟩) fun k14 H15=>an<|M<|J c<|p (bn c c)<|aa<|aU H15 (eS c c c c c) c fun v42 _ H19=>aa<|aU H19 (x_convert c) c fun v43 _ H20=>O c<|ah<|D ⟨v43,c,H20⟩) fun k1 H2=>an<|M<|J c<|p (eB ⟨_,Tryz.underlying2⟩ Tryz.underlying22 c)<|J c<|J c<|p (cq c c)<|aa<|F H2 en_262 fun r50 _ H23=>J c<|p (aj c c)<|p (aj c c)<|p (ar c)<|O c<|M<|J c<|O c<|ah<|D ⟨r50.2,c,H23⟩
def nh (a0:Int) (K:ByteArray→Hp→Prop):Hp→Prop:=cl Tryz.prog gK [(.int .i64 a0),(.int .i64 10)] dY fun r4=>K r4
theorem tU (a0:Int) {K:ByteArray→Hp→Prop} {h:Hp} (H:nh a0 K h):Ct Tryz.prog jJ #[(.int .i64 a0)] h fun v h'=>∃ r,v = dY r∧K r h':=aw [(.int .i64 a0)] Tryz.func257 c c c fun _=>M<|O c<|M<|J c<|aa<|F H en_258 fun r4 _ H1=>O c<|ah<|D ⟨r4,c,H1⟩
end Go.Proofs.YtemoifebbhoinaaGreatDoor
namespace Go.Proofs.YtemoifebbhoinaaGreatDoor
open Go Mb
set_option linter.unusedVariables false
def pM (K:Bool→Hp→Prop):Hp→Prop:=cl Tryz.prog kK [(.int .i64 3)] iL fun r5=>cl Tryz.prog n_trap_In [(.int .i64 2),(.agg (ai.C (⟨1,2,0,0,0⟩:ai)).toArray),r5] iL fun r6=>cl Tryz.prog km [r6] eO fun r9=>hpv Tryz.prog (do eqGuard .eql 199 (.tmp 12) (.const Value.nilIface) r6 Value.nilIface; binOp .eql 199 r6 Value.nilIface:Sem Value) aA fun (v13:Bool)=>br (v13 || r9.1.isNone) ( K false) ( br r9.2 ( nn r9.1 fun q21=>ld (q21.1,q21.2 + 1) (cI .i64) fun x23=>br (x23 == 2) ( ld (q21.1,q21.2 + 2) ai.C fun x30=>br (ai.eqb x30 (⟨1,2,0,0,0⟩:ai)) ( ld (q21.1,q21.2 + 0) (cI .i64) fun x38=>br (x38 == 3) ( cl Tryz.prog uD [r6] bi fun r43=>br (r43 == 3) ( cl Tryz.prog xh [r6] eJ fun r48=>br (r48 == 2) ( cl Tryz.prog kK [(.int .i64 3)] iL fun r53=>cl Tryz.prog og [r6,r53] aA fun r54=>br r54 ( cl Tryz.prog kK [(.int .i64 4)] iL fun r58=>cl Tryz.prog og [r6,r58] aA fun r59=>br (!r59) ( cln Tryz.prog (callMethod r6 "Error" #[]) dY fun (v64:ByteArray)=>hpv Tryz.prog (do eqGuard .eql 9 (.tmp 64) (.const (.string oF)) (.string v64) (.string oF); binOp .eql 9 (.string v64) (.string oF):Sem Value) aA fun (v65:Bool)=>br v65 ( cl Tryz.prog kK [(.int .i64 0)] iL fun r68=>hpv Tryz.prog (do eqGuard .eql 199 (.tmp 68) (.const Value.nilIface) r68 Value.nilIface; binOp .eql 199 r68 Value.nilIface:Sem Value) aA fun (v69:Bool)=>K v69) ( K false)) ( K false)) ( K false)) ( K false)) ( K false)) ( K false)) ( K false)) ( K false)) ( K false))
theorem wP {K:Bool→Hp→Prop} {h:Hp} (H:pM K h):Ct Tryz.prog lJ #[] h fun v h'=>∃ r,v = aA r∧K r h':=aw [] Tryz.func223 c c c fun _=>M<|O c<|M<|p (bd c<|mD 1 2)<|aa<|F H xE fun r5 _ H1=>aa<|F H1 en_186 fun r6 _ H2=>O c<|M<|J c<|aa<|F H2 en_222 fun r9 _ H3=>J c<|p (aj c c)<|p (aj c c)<|p (ar c)<|O c<|ak<|M<|J c<|aa<|aU H3 (gA c c) c fun v13 _ H4=>J c<|V c c (aG _) (fun g5=>wv<|ag c)<|V c c (aG _) (fun g6=>wv<|cr Tryz.underlying252<|az c g6)<|p (cZ c c)<|ad<|av c H4 (fun k7 H8=>M<|O c<|ah<|D ⟨false,c,H8⟩) fun k7 H8=>an<|M<|J c<|J c<|V c c (ay _) (fun g9=>wv<|ag c)<|bT H8 (fun k11 H12=>bI H12 fun q21 e13 H14=>G (Y k11)<|z_p (aL<|aK (az c k11)<|aq e13)<|G (Y k11)<|z_p (ae fld_254_1 c)<|G (Y k11)<|aW H14 aS c (fun _=>c) c fun x23 H15=>G (Y k11)<|z_p (bH c c)<|p (aI c k11 c)<|J c<|V c c (ay _) (fun g16=>wv<|ag<|aK c<|aq e13)<|V c c (ay _) (fun g17=>wv<|aL<|az c g17)<|V c c (ay _) (fun g18=>wv<|ae fld_254_2<|az c g18)<|bT H15 (fun k20 H21=>G (Y k20)<|gI H21 fy (az c k20) (fun _=>c) c fun x30 H22=>G (Y k20)<|z_p (bd c<|mD 1 2)<|G (Y k20)<|z_p (v_eqA eqg_34 (eqr_34 9998 _ _) c c)<|p (aI c k20 c)<|J c<|V c c (ay _) (fun g23=>wv<|ag<|aK c<|aq e13)<|V c c (ay _) (fun g24=>wv<|aL<|az c g24)<|V c c (ay _) (fun g25=>wv<|ae wd<|az c g25)<|bT H22 (fun k27 H28=>G (Y k27)<|aW H28 oS (az c k27) (fun _=>c) c fun x38 H29=>G (Y k27)<|z_p (bH c c)<|p (aI c k27 c)<|J c<|V c c (ay _) (fun g30=>wv<|ag c)<|bT H29 (fun k32 H33=>G (Y k32)<|gm H33 en_208 (aT (az c k32) bW) c fun r43 _ H34=>G (Y k32)<|z_p (bH c c)<|p (aI c k32 c)<|J c<|V c c (ay _) (fun g35=>wv<|ag c)<|bT H34 (fun k37 H38=>G (Y k37)<|gm H38 en_228 (aT (az c k37) bW) c fun r48 _ H39=>G (Y k37)<|z_p (bH c c)<|p (aI c k37 c)<|J c<|V c c (ay _) (fun g40=>wv<|ag c)<|bT H39 (fun k42 H43=>G (Y k42)<|F H43 xE fun r53 _ H44=>G (Y k42)<|gm H44 en_149 (aT (az c k42)<|aT c bW) c fun r54 _ H45=>p (aI c k42 c)<|J c<|V c c (ay _) (fun g46=>wv<|ag c)<|bT H45 (fun k48 H49=>G (Y k48)<|F H49 xE fun r58 _ H50=>G (Y k48)<|gm H50 en_149 (aT (az c k48)<|aT c bW) c fun r59 _ H51=>G (Y k48)<|z_p (ct c)<|p (aI c k48 c)<|J c<|V c c (ay _) (fun g52=>wv<|ag c)<|bT H51 (fun k54 H55=>G (Y k54)<|gl H55 (gj (vs:=[]) (az c k54) c) c fun v64 _ H56=>G (Y k54)<|aU H56 (gA c c) c fun v65 _ H57=>p (aI c k54 c)<|J c<|bT H57 (fun k59 H60=>G (Y k59)<|F H60 xE fun r68 _ H61=>G (Y k59)<|aU H61 (gA c c) c fun v69 _ H62=>p (aI c k59 c)<|O c<|ah<|D ⟨v69,c,H62⟩) fun k59 H60=>W (aJ k59)<|W (aJ k59)<|p (ao c k59 c)<|O c<|ah<|D ⟨false,c,H60⟩) fun k54 H55=>W (aJ k54)<|W (aJ k54)<|p (ao c k54 c)<|J c<|W c<|W c<|p (ao c c c)<|O c<|ah<|D ⟨false,c,H55⟩) fun k48 H49=>W (aJ k48)<|W (aJ k48)<|W (aJ k48)<|p (ao c k48 c)<|J c<|W c<|W c<|W c<|p (ao c c c)<|J c<|W c<|W c<|p (ao c c c)<|O c<|ah<|D ⟨false,c,H49⟩) fun k42 H43=>W (aJ k42)<|W (aJ k42)<|p (ao c k42 c)<|J c<|W c<|W c<|W c<|W c<|p (ao c c c)<|J c<|W c<|W c<|W c<|p (ao c c c)<|J c<|W c<|W c<|p (ao c c c)<|O c<|ah<|D ⟨false,c,H43⟩) fun k37 H38=>W (aJ k37)<|W (aJ k37)<|p (ao c k37 c)<|J c<|W c<|W c<|W c<|p (ao c c c)<|J c<|W c<|W c<|W c<|W c<|p (ao c c c)<|J c<|W c<|W c<|W c<|p (ao c c c)<|J c<|W c<|W c<|p (ao c c c)<|O c<|ah<|D ⟨false,c,H38⟩) fun k32 H33=>W (aJ k32)<|W (aJ k32)<|p (ao c k32 c)<|J c<|W c<|W c<|W c<|p (ao c c c)<|J c<|W c<|W c<|W c<|p (ao c c c)<|J c<|W c<|W c<|W c<|W c<|p (ao c c c)<|J c<|W c<|W c<|W c<|p (ao c c c)<|J c<|W c<|W c<|p (ao c c c)<|O c<|ah<|D ⟨false,c,H33⟩) fun k27 H28=>W (aJ k27)<|W (aJ k27)<|p (ao c k27 c)<|J c<|W c<|W c<|W c<|p (ao c c c)<|J c<|W c<|W c<|W c<|p (ao c c c)<|J c<|W c<|W c<|W c<|p (ao c c c)<|J c<|W c<|W c<|W c<|W c<|p (ao c c c)<|J c<|W c<|W c<|W c<|p (ao c c c)<|J c<|W c<|W c<|p (ao c c c)<|O c<|ah<|D ⟨false,c,H28⟩) fun k20 H21=>W (aJ k20)<|W (aJ k20)<|W (aJ k20)<|p (ao c k20 c)<|J c<|W c<|W c<|W c<|W c<|W c<|p (ao c c c)<|J c<|W c<|W c<|W c<|p (ao c c c)<|J c<|W c<|W c<|W c<|p (ao c c c)<|J c<|W c<|W c<|W c<|p (ao c c c)<|J c<|W c<|W c<|W c<|W c<|p (ao c c c)<|J c<|W c<|W c<|W c<|p (ao c c c)<|J c<|W c<|W c<|p (ao c c c)<|O c<|ah<|D ⟨false,c,H21⟩) fun k11 H12=>W (aJ k11)<|W (aJ k11)<|W (aJ k11)<|W (aJ k11)<|p (ao c k11 c)<|J c<|W c<|W c<|W c<|W c<|W c<|W c<|p (ao c c c)<|J c<|W c<|W c<|W c<|W c<|W c<|p (ao c c c)<|J c<|W c<|W c<|W c<|p (ao c c c)<|J c<|W c<|W c<|W c<|p (ao c c c)<|J c<|W c<|W c<|W c<|p (ao c c c)<|J c<|W c<|W c<|W c<|W c<|p (ao c c c)<|J c<|W c<|W c<|W c<|p (ao c c c)<|J c<|W c<|W c<|p (ao c c c)<|O c<|ah<|D ⟨false,c,H12⟩
def pN (K:Bool→Hp→Prop):Hp→Prop:=cl Tryz.prog lJ [] aA fun r1=>K r1
theorem wQ {K:Bool→Hp→Prop} {h:Hp} (H:pN K h):Ct Tryz.prog lK #[] h fun v h'=>∃ r,v = aA r∧K r h':=aw [] Tryz.func213 c c c fun _=>M<|O c<|M<|aa<|F H en_223 fun r1 _ H1=>O c<|ah<|D ⟨r1,c,H1⟩
end Go.Proofs.YtemoifebbhoinaaGreatDoor
